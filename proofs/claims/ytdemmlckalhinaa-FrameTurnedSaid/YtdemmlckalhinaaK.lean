/-
  FrameTurned.
-/
import Derived.Test.YtdemmlckalhinaaJ
import Derived.StillTailTactics
import Derived.Deep.DeepCutAuto
import Derived.Deep.CutBlock
namespace Go.Proofs.Ytdemmlckalhinaa.A
open Go.RowKit Go.Proofs.Ytdemmlckalhinaa.U
set_option linter.unusedVariables false
set_option linter.unusedSimpArgs false

theorem rem_at (o : Int) (m : Nat) (h0 : 0 < m) (h1 : m ≤ 100000) : ∃ q : Nat, (wrap64 (o.tmod m + m)).tmod m = q ∧ q < m := by
  have a1 := Int.tmod_lt_of_pos o (show (0 : Int) < m by omega)
  have a2 := Int.lt_tmod_of_pos o (show (0 : Int) < m by omega)
  have e : wrap64 (o.tmod m + m) = o.tmod m + m := by unfold wrap64; omega
  rw [e]
  have b0 := Int.tmod_nonneg (a := o.tmod m + m) m (by omega)
  have b1 := Int.tmod_lt_of_pos (o.tmod m + m) (show (0 : Int) < m by omega)
  exact ⟨((o.tmod m + m).tmod m).toNat, by omega, by omega⟩

set_option maxRecDepth 100000 in
set_option maxHeartbeats 1600000 in
theorem turned_calls (w : World) (s : ByteArray) (o : Int) : Calls Try.prog 6 #[.string s, .int .i64 o] w (fun e w' => e = .returned (.bool true) ∧ Keep Nothing w w') := by
  by_cases hin : 1 ≤ s.size ∧ s.size ≤ 10000
  · obtain ⟨hs1, hs2⟩ := hin
    have HW := Lib.hid (fun w => wrap_ok w s (by omega))
    have hz : (wrapS s).size = s.size + 8 := by
      unfold wrapS
      rw [ByteArray.size_append, ByteArray.size_append, le4_size, le4_size]; omega
    have hq := rem_at o (8 * s.size) (by omega) (by omega)
    have hcv := fun w => run_bytes_of_string (P := Try.prog) w 9 40 5 (wrapS s) Try.underlying9 Try.underlying40 Try.underlying5
    have h40 := Try.underlying40
    rw [hz] at hcv
    obtain ⟨q, hq, hqm⟩ := hq
    have WL := Lib.hid (wrapS_list s)
    generalize wrapS s = W at *
    have e8 : ((8 * s.size : Nat) : Int) = 8 * (s.size : Int) := by omega
    rw [e8] at hq
    have g0 : ((s.size : Int) == 0) = false := by rw [beq_eq_false_iff_ne]; omega
    have g1 : decide ((10000 : Int) < s.size) = false := decide_eq_false (by omega)
    go_enter Try.func6, Try.ntmps6
    go_wp2_with fail
    refine (HW.out _).mono ?_
    rintro e w1 ⟨rfl, hk1⟩
    have K1 := Lib.hid hk1
    clear hk1
    have hcw := hcv w1
    clear hcv
    generalize hcc : grownCap w1 (s.size + 8) 0 5 = c at *
    have hq8 : q / 8 < s.size := by omega
    have hWs : 8 + q / 8 < W.size := by omega
    have hbl : (w1.drew.alloc (.cells (bytesRow W c) 5 ((bytesRow W c).size, (bytesRow W c).size + 1))).heap[w1.heap.size]? = some (.cells (bytesRow W c) 5 ((bytesRow W c).size, (bytesRow W c).size + 1)) := heap_alloc_new w1.drew _
    have hcell : ∀ i, (h : i < W.size) → (w1.drew.alloc (.cells (bytesRow W c) 5 ((bytesRow W c).size, (bytesRow W c).size + 1))).cell? ⟨w1.heap.size, i, none⟩ = some (.int .u8 (W[i].toNat : Int)) := fun i hi => by
      rw [cell_of_row _ w1.heap.size i (bytesRow W c) 5 _ hbl]
      exact bytesRow_at W c i hi
    have K2 := Lib.hid ((Keep.same Nothing w1).drew.alloc (.cells (bytesRow W c) 5 ((bytesRow W c).size, (bytesRow W c).size + 1)))
    generalize w1.drew.alloc (.cells (bytesRow W c) 5 ((bytesRow W c).size, (bytesRow W c).size + 1)) = w2 at *
    have hc1 := hcell (8 + q / 8) hWs
    have hfz : w2.frozen? ⟨w1.heap.size, 8 + q / 8, none⟩ = false := by
      have hbs : W.size ≤ (bytesRow W c).size := by simp [bytesRow]
      unfold World.frozen?
      simp only [hbl]
      rw [Bool.and_eq_false_iff]
      exact .inl (decide_eq_false (by omega))
    have hw8 := UInt8.toNat_lt W[8 + q / 8]
    have hp : 2 ^ (q % 8) < 256 := by rcases (show q % 8 = 0 ∨ q % 8 = 1 ∨ q % 8 = 2 ∨ q % 8 = 3 ∨ q % 8 = 4 ∨ q % 8 = 5 ∨ q % 8 = 6 ∨ q % 8 = 7 by omega) with h | h | h | h | h | h | h | h <;> rw [h] <;> decide
    have hx : bits .xor .u8 (W[8 + q / 8].toNat : Int) (2 ^ (q % 8) % 256) = ((W[8 + q / 8].toNat ^^^ 2 ^ (q % 8) : Nat) : Int) := by
      have hlt : W[8 + q / 8].toNat ^^^ 2 ^ (q % 8) < 256 := Nat.xor_lt_two_pow (n := 8) hw8 hp
      have e : ((2 : Int) ^ (q % 8) % 256) = ((2 ^ (q % 8) : Nat) : Int) := by
        rw [show ((2 : Int) ^ (q % 8)) = ((2 ^ (q % 8) : Nat) : Int) by simp]
        exact Int.emod_eq_of_lt (Int.natCast_nonneg _) (by exact_mod_cast hp)
      rw [e]
      simp only [bits, BitVec.ofInt_natCast, BitVec.toNat_xor, BitVec.toNat_ofNat]
      rw [show IntKind.u8.bits = 8 from rfl, Nat.mod_eq_of_lt (show W[8 + q / 8].toNat < 2 ^ 8 by omega), Nat.mod_eq_of_lt (show 2 ^ (q % 8) < 2 ^ 8 by omega), IntKind.wrap_u8]
      omega
    have htl : W[8 + q / 8].toNat ^^^ 2 ^ (q % 8) < 256 := Nat.xor_lt_two_pow (n := 8) hw8 hp
    have hne : W[8 + q / 8].toNat ^^^ 2 ^ (q % 8) ≠ W[8 + q / 8].toNat := fun e => by
      have e2 : 2 ^ (q % 8) ^^^ W[8 + q / 8].toNat = 0 ^^^ W[8 + q / 8].toNat := by rw [Nat.xor_comm, e, Nat.zero_xor]
      have := xor_cancel e2
      have := Nat.two_pow_pos (q % 8)
      omega
    generalize W[8 + q / 8].toNat ^^^ 2 ^ (q % 8) = t at *
    have hcb : (convert 40 9 (.slice (some ⟨w1.heap.size, 0, none⟩) (s.size + 8) c)).run Try.prog (w2.setCell ⟨w1.heap.size, 8 + q / 8, none⟩ (.int .u8 ((t : Nat) : Int))) =
        .ok (.string ⟨(W.data.toList.set (8 + q / 8) (UInt8.ofNat t)).toArray⟩) (w2.setCell ⟨w1.heap.size, 8 + q / 8, none⟩ (.int .u8 ((t : Nat) : Int))) := by
      have h := run_convert_bytes_back (P := Try.prog) (w2.setCell ⟨w1.heap.size, 8 + q / 8, none⟩ (.int .u8 ((t : Nat) : Int))) 40 9 5 ⟨w1.heap.size, 0, none⟩ c (W.data.toList.set (8 + q / 8) (UInt8.ofNat t)) Try.underlying40 Try.underlying5 Try.underlying9 (by
        intro j hj
        have hjW : j < W.size := by simpa using hj
        rw [addAt, Nat.zero_add]
        by_cases hje : j = 8 + q / 8
        · subst hje
          rw [World.cell?_setCell_same _ _ _ hc1]
          simp
          omega
        · rw [World.cell?_setCell_other _ _ _ _ (by simp [hje]), hcell j hjW]
          simp [List.getElem_set, Ne.symm hje]
          rfl)
      rw [show (W.data.toList.set (8 + q / 8) (UInt8.ofNat t)).length = s.size + 8 by simp; exact hz] at h
      exact h
    have HC := Lib.hid hcell
    have HBL := Lib.hid hbl
    clear hcell hbl
    have hsl : s.data.toList.length = s.size := by simp
    have hWk : W.data.toList[8 + q / 8]? = s.data.toList[q / 8]? := by
      rw [WL.out, List.getElem?_append_right (by simp [leL])]
      simp [leL]
    have hfe : firstE ⟨(W.data.toList.set (8 + q / 8) (UInt8.ofNat t)).toArray⟩ = 3 := by
      refine turned_none s _ (s.data.toList.take (q / 8)) (s.data.toList.drop (q / 8 + 1)) (s.data.toList[q / 8]'(by omega)) (UInt8.ofNat t) (fun e => hne ?_) (by omega) ?_ ?_
      · rw [List.getElem?_eq_getElem (by simpa using hWs), List.getElem?_eq_getElem (by omega)] at hWk
        injection hWk with hWk
        rw [← hWk] at e
        have e2 := congrArg UInt8.toNat e
        rw [UInt8.toNat_ofNat', Nat.mod_eq_of_lt htl] at e2
        exact e2.symm
      · rw [List.getElem_cons_drop, List.take_append_drop]
      · show W.data.toList.set (8 + q / 8) (UInt8.ofNat t) = _
        rw [WL.out, List.set_append_right _ _ (by simp [leL]), List.set_eq_take_append_cons_drop, if_pos (by simp [leL]; omega)]
        simp [leL]
    have hff := fun w => first_calls w ⟨(W.data.toList.set (8 + q / 8) (UInt8.ofNat t)).toArray⟩ (by
      show (W.data.toList.set (8 + q / 8) (UInt8.ofNat t)).toArray.size ≤ _
      rw [List.size_toArray, List.length_set]
      have hWl : W.data.toList.length = W.size := by simp
      omega)
    rw [first_end (by rw [hfe]; decide), hfe] at hff
    have HFF := Lib.hid hff
    clear hff hfe hWk hsl hne
    go_wp2_with fail
    refine (HFF.out _).mono ?_
    rintro e w3 ⟨rfl, hk3⟩
    have K3 := Lib.hid hk3
    clear hk3
    go_wp2_with fail
    refine (awake_calls _).mono ?_
    rintro e w4 ⟨rfl, hk4⟩
    have K4 := Lib.hid hk4
    clear hk4
    go_wp2_with fail
    go_ret
    have hsz := K1.out.size
    exact ⟨rfl, (((K1.out.then K2.out).set (.inr hsz) _).then K3.out).then K4.out⟩
  · by_cases h0 : s.size = 0
    · go_enter Try.func6, Try.ntmps6
      go_wp2_with fail
      refine (awake_calls _).mono ?_
      rintro e w1 ⟨rfl, hk1⟩
      go_wp2_with fail
      go_ret
      exact ⟨rfl, hk1⟩
    · have h1 : 10000 < s.size := by omega
      have g0 : ((s.size : Int) == 0) = false := by rw [beq_eq_false_iff_ne]; omega
      go_enter Try.func6, Try.ntmps6
      go_wp2_with fail
      refine (awake_calls _).mono ?_
      rintro e w1 ⟨rfl, hk1⟩
      go_wp2_with fail
      go_ret
      exact ⟨rfl, hk1⟩
open Go.ChangeShapes Go.WideShapes Go.ChangeAt in
theorem turned_law : R.Law 6 Try.f6 R.any := by
  intro H enc W base args ds p hval hA hsz _ hlt
  rw [Try.params6] at hA hval
  obtain ⟨v0, vs0, d0, ds0, p0, q0, hargs, rfl, rfl, h0, r0⟩ := trodAll_cons hA
  obtain ⟨v1, vs1, d1, ds1, p1, q1, rfl, rfl, rfl, h1, r1⟩ := trodAll_cons r0
  obtain ⟨rfl, rfl, rfl⟩ := trodAll_nil r1
  obtain rfl : args = #[v0, v1] := by cases args; simp_all
  obtain ⟨s, rfl⟩ := okWide_string Try.underlying9 (hval 0 9 v0 rfl rfl)
  obtain ⟨o, rfl⟩ := okWide_int Try.underlying3 (hval 1 3 v1 rfl rfl)
  exact (turned_calls W s o).mono fun e w' h => ⟨h.1, h.2.below (Nat.le_refl _) (fun _ h => h.elim)⟩
end Go.Proofs.Ytdemmlckalhinaa.A
