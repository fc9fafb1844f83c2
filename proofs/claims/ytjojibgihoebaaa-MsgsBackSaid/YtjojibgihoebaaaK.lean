/-
  CodecReads.
-/
import Derived.Test.YtjojibgihoebaaaG
namespace Go.Proofs.Ytjojibgihoebaaa.A
open Go.RowKit Go.Proofs.Ytjojibgihoebaaa.U
set_option linter.unusedVariables false
set_option linter.unusedSimpArgs false

section
variable {B : Nat} {w0 w : World} {Q : SP} {b : Nat} {L : List UInt8} {x : Rd}
theorem y_rdu (h : Holds B w0 w (star (blkP b 44 x.cs) Q)) (hQ : Stable Q) :
    Calls Try.prog 28 #[.pointer (some ⟨b, 0, none⟩)] w (fun e w' => e = .returned (.int .u64 (uV x)) ∧ Holds B w0 w' (star (blkP b 44 (uN x).cs) Q)) :=
  h.on_left hQ fun F hF => turns_step hF.2 (rrdu_calls w b x hF.1)
theorem y_rdi (h : Holds B w0 w (star (blkP b 44 x.cs) Q)) (hQ : Stable Q) :
    Calls Try.prog 26 #[.pointer (some ⟨b, 0, none⟩)] w (fun e w' => e = .returned (.int .i64 (iV x)) ∧ Holds B w0 w' (star (blkP b 44 (uN x).cs) Q)) :=
  h.on_left hQ fun F hF => turns_step hF.2 (rrdi_calls w b x hF.1)
theorem y_rdt (h : Holds B w0 w (star (blkP b 44 x.cs) Q)) (hQ : Stable Q) (hs : x.s.size ≤ 9223372036854775807) :
    Calls Try.prog 30 #[.pointer (some ⟨b, 0, none⟩)] w (fun e w' => e = .returned (.string (tV x)) ∧ Holds B w0 w' (star (blkP b 44 (tN x).cs) Q)) :=
  h.on_left hQ fun F hF => turns_step hF.2 (rrdt_calls w b x hF.1 hs)
theorem y_rdd (h : Holds B w0 w (star (blkP b 44 x.cs) Q)) :
    Calls Try.prog 32 #[.pointer (some ⟨b, 0, none⟩)] w (fun e w' => e = .returned (.int .i64 (dV x)) ∧ w' = w) := by
  obtain ⟨F, hF⟩ := h.left
  exact rrdd_calls w b x hF.1
end
theorem uN_size (x : Rd) : (uN x).s.size ≤ x.s.size := by
  unfold uN
  split
  · exact Nat.le_refl _
  · split
    · simp only [Rd.from_, ByteArray.size_extract]; omega
    · exact Nat.le_refl _
theorem tN_size (x : Rd) : (tN x).s.size ≤ x.s.size := by
  have := uN_size x
  unfold tN
  split
  · exact this
  · split
    · exact this
    · simp only [Rd.from_, ByteArray.size_extract]; omega
def intC (n : {n : Int // I64 n}) : List Value := [.int .i64 n.1]
theorem int_at {w : World} {B : Nat} {A : Option Addr} {len : Nat} {L : List {n : Int // I64 n}} (h : R.Args w B A len 1 intC L) {k : Nat} (hk : k < len) :
    ∃ (ad : Addr) (n : Int), A = some ad ∧ ad.block < B ∧ w.cell? (ad.add k) = some (.int .i64 n) := by
  have hl := h.1
  obtain ⟨ad, e, hB, hc⟩ := h.2 k (L[k]'(by omega)) (List.getElem?_eq_getElem (by omega))
  have := hc 0 _ rfl
  rw [Nat.mul_one, Nat.add_zero] at this
  exact ⟨ad, _, e, hB, this⟩
theorem cells3 : Try.prog.cellsOf 3 = 1 := by kernel_rfl
set_option maxRecDepth 100000 in
set_option maxHeartbeats 1600000 in
theorem reads_calls (w : World) (s : ByteArray) (A : Option Addr) (len cap : Nat) (L : List {n : Int // I64 n}) (hA : R.Args w w.heap.size A len 1 intC L) (hs : s.size ≤ 9223372036854775807) (hlen : len ≤ cap) (hcap : cap ≤ maxLen) :
    Calls Try.prog 5 #[.string s, .slice A len cap] w (fun e w' => e = .returned (.bool true) ∧ Keep Nothing w w') := by
  have HA := Lib.hid hA
  have hb : ∀ w', Below w.heap.size w w' → Keep Nothing w w' := fun w' h => Keep.of_below h _
  have H0 := Lib.hid (Holds.start w)
  have SB := Lib.hid blkP_stable
  have hmax : maxLen = 9223372036854775807 := by rfl
  clear hA
  go_enter Try.func5, Try.ntmps5
  go_wp2_with fail
  refine (of_calls _ _).mono ?_
  rintro e w1 ⟨rfl, hw1⟩
  have H1 := Lib.hid (show Holds w.heap.size w w1 (star (blkP w.heap.size 97 (Rd.mk s false).cs) _) by rw [hw1]; exact H0.out.newBlk none_stable 97 _)
  clear hw1
  have H2 := Lib.hid (H1.out.newBlk ((blkP_stable _ _ _).star none_stable) 44 (Rd.mk s false).cs)
  have SZ := Lib.hid hs
  go_wp2_with fail
  generalize hg2 : w1.heap.size = b2 at *
  generalize hg1 : w.heap.size = b1 at *
  clear hg1 hg2
  go_loopw [7] (fun v wr => ∃ (k : Nat) (x : Rd), k ≤ 100 ∧ v = .int .i64 k ∧ x.s.size ≤ 9223372036854775807 ∧ Holds b1 w wr (star (blkP b2 44 x.cs) (star (blkP b1 97 x.cs) none_))) (fun v _ => 100 - (intOf v).toNat)
  case atStart => exact ⟨0, ⟨s, false⟩, by omega, by simp, SZ.out, H2.out⟩
  case round =>
    obtain ⟨k, x, hk, rfl, hx, hh⟩ := hrel
    have H := Lib.hid hh
    have U := Lib.hid (Nat.le_trans (uN_size x) hx)
    have T := Lib.hid (Nat.le_trans (tN_size x) hx)
    clear hh
    by_cases hin : k < len ∧ k < 100
    · obtain ⟨hkl, hk1⟩ := hin
      obtain ⟨ad, n, rfl, hB, hc⟩ := int_at (HA.out.below H.out.below) hkl
      have S1 := Lib.hid ((SB.out b1 97 x.cs).star none_stable)
      by_cases h0 : n = 0
      · subst h0
        go_wp2_with fail
        refine (x_rdi (H.out.turn) (none_stable.star (SB.out _ _ _))).mono ?_
        rintro e w2 ⟨rfl, h2⟩
        have H2 := Lib.hid h2.turn.turn
        clear h2
        go_wp2_with fail
        refine (y_rdi H2.out ((SB.out _ _ _).star none_stable)).mono ?_
        rintro e w3 ⟨rfl, h3⟩
        have H3 := Lib.hid h3
        clear h3
        go_wp2_with fail
        go_roundw
        case rel => exact ⟨k + 1, uN x, by omega, by go_num, U.out, H3.out⟩
        case measure => simp [intOf]; omega
      · by_cases h1 : n = 1
        · subst h1
          go_wp2_with fail
          refine (x_rdu (H.out.turn) (none_stable.star (SB.out _ _ _))).mono ?_
          rintro e w2 ⟨rfl, h2⟩
          have H2 := Lib.hid h2.turn.turn
          clear h2
          go_wp2_with fail
          refine (y_rdu H2.out ((SB.out _ _ _).star none_stable)).mono ?_
          rintro e w3 ⟨rfl, h3⟩
          have H3 := Lib.hid h3
          clear h3
          go_wp2_with fail
          go_roundw
          case rel => exact ⟨k + 1, uN x, by omega, by go_num, U.out, H3.out⟩
          case measure => simp [intOf]; omega
        · have g0 : (n == 0) = false := by rw [beq_eq_false_iff_ne]; exact h0
          have g1 : (n == 1) = false := by rw [beq_eq_false_iff_ne]; exact h1
          go_wp2_with fail
          refine (x_rdt (H.out.turn) (none_stable.star (SB.out _ _ _)) hx).mono ?_
          rintro e w2 ⟨rfl, h2⟩
          have H2 := Lib.hid h2.turn.turn
          clear h2
          go_wp2_with fail
          refine (y_rdt H2.out ((SB.out _ _ _).star none_stable) hx).mono ?_
          rintro e w3 ⟨rfl, h3⟩
          have H3 := Lib.hid h3
          clear h3
          have hee : ((tV x).toList == (tV x).toList) = true := by simp
          go_wp2_with fail
          go_roundw
          case rel => exact ⟨k + 1, tN x, by omega, by go_num, T.out, H3.out⟩
          case measure => simp [intOf]; omega
    · rcases (show ¬ k < len ∨ (k < len ∧ ¬ k < 100) by omega) with hex | ⟨hex1, hex2⟩
      all_goals go_wp2_with fail
      all_goals refine (x_rdd H.out.drop).mono ?_
      all_goals rintro e w' ⟨rfl, rfl⟩
      all_goals go_wp2_with fail
      all_goals refine (y_rdd H.out).mono ?_
      all_goals rintro e w' ⟨rfl, rfl⟩
      all_goals go_wp2_with fail
      all_goals refine (awake_calls _).mono ?_
      all_goals rintro e w3 ⟨rfl, hk3⟩
      all_goals have K3 := Lib.hid hk3
      all_goals clear hk3
      all_goals go_wp2_with fail
      all_goals go_ret
      all_goals exact ⟨rfl, (hb _ H.out.below).then K3.out⟩
set_option maxRecDepth 100000 in
open Go.ChangeShapes Go.WideShapes Go.ChangeAt in
theorem reads_law : R.Law 5 Try.f5 R.any := by
  intro H enc W base args ds p hval hA hsz _ hlt
  rw [Try.params5] at hA hval
  obtain ⟨v0, vs0, d0, ds0, p0, q0, hargs, rfl, rfl, h0, r0⟩ := trodAll_cons hA
  obtain ⟨v1, vs1, d1, ds1, p1, q1, rfl, rfl, rfl, h1, r1⟩ := trodAll_cons r0
  obtain ⟨rfl, rfl, rfl⟩ := trodAll_nil r1
  obtain rfl : args = #[v0, v1] := by cases args; simp_all
  obtain ⟨s, rfl⟩ := okWide_string Try.underlying9 (hval 0 9 v0 rfl rfl)
  obtain ⟨A, len, cap, rfl, hc1, hc2, hel, hd⟩ := R.open_cells Try.underlying39 cells3 (hval 1 39 v1 rfl rfl) h1 (fun x hx => hlt x (List.mem_append_right _ (List.mem_append_left _ hx))) (by omega)
  obtain ⟨L, hl, hp⟩ := R.exists_list (p := fun i (x : {n : Int // I64 n}) => ∃ ad, A = some ad ∧ ad.block < W.heap.size ∧ ∀ j u, (intC x)[j]? = some u → W.cell? (ad.add (i * 1 + j)) = some u) len (fun i hi => by
    obtain ⟨ad, cs, n, y, rfl, hB, hcl, hat, ht, _⟩ := hel i hi
    obtain ⟨c, rfl⟩ : ∃ c, cs = [c] := by
      match cs, hcl with
      | [c], _ => exact ⟨c, rfl⟩
    obtain ⟨s, e0, _, hw⟩ := DataW.trod_int Try.underlying3 ht
    injection e0 with e0 _
    subst e0
    exact ⟨⟨s, wf_i64 hw⟩, ad, rfl, hB, fun j u hu => (hat j (by have := (List.getElem?_eq_some_iff.1 hu).1; simpa [intC] using this)).trans hu⟩)
  have hs : s.size ≤ 9223372036854775807 := by
    obtain ⟨fuel, hf⟩ := h0
    obtain ⟨s', e0, _, hm⟩ := DataW.trod_string Try.underlying9 hf
    simp [Value.cells] at e0
    rw [e0]
    exact hm
  exact (reads_calls W s A len cap L ⟨hl, hp⟩ hs hc1 hc2).mono fun e w' h => ⟨h.1, h.2.below (Nat.le_refl _) (fun _ h => h.elim)⟩
end Go.Proofs.Ytjojibgihoebaaa.A
