/-
  CodecWrites.
-/
import Derived.Test.YtjojibgihoebaaaJ
namespace Go.Proofs.Ytjojibgihoebaaa.A
open Go.RowKit Go.Proofs.Ytjojibgihoebaaa.U
set_option linter.unusedVariables false
set_option linter.unusedSimpArgs false

def layL (x : Item) : List UInt8 := if x.k = 0 then u64L (zig x.n) else if x.k = 1 then u64L x.u else u64L x.s.size ++ x.s.data.toList
def laysL (l : List Item) : List UInt8 := l.flatMap layL
theorem laysL_next {l : List Item} {k : Nat} {x : Item} (h : l[k]? = some x) : laysL (l.take (k + 1)) = laysL (l.take k) ++ layL x := by
  obtain ⟨hk, he⟩ := List.getElem?_eq_some_iff.1 h
  rw [List.take_succ_eq_append_getElem hk, he]
  simp [laysL]
theorem layL_len {x : Item} (hs : x.s.size ≤ 1048576) : (layL x).length ≤ 1048586 := by
  have h3 := u64L_len10 _ (zig_lt x.hn.1 x.hn.2)
  have h4 := u64L_len10 _ x.hu
  have h5 := u64L_len10 x.s.size (by omega)
  have hl := size_list x.s
  unfold layL
  split
  · omega
  · split
    · omega
    · rw [List.length_append]; omega
theorem laysL_len (l : List Item) (k : Nat) (h : ∀ x ∈ l, x.s.size ≤ 1048576) (hk : k ≤ l.length) : (laysL (l.take k)).length ≤ k * 1048586 := by
  induction k with
  | zero => simp [laysL]
  | succ k ih =>
    have h1 := ih (by omega)
    have hx : l[k]? = some (l[k]'(by omega)) := List.getElem?_eq_getElem (by omega)
    have := layL_len (h _ (List.getElem_mem (show k < l.length by omega)))
    rw [laysL_next hx, List.length_append]
    omega
set_option maxRecDepth 100000 in
theorem lay_calls (w : World) (x : Item) (hs : x.s.size ≤ 1048576) : Calls Try.prog 20 #[.agg #[.int .i64 x.k, .int .i64 x.n, .int .u64 x.u, .string x.s]] w (fun e w' => e = .returned (.string (ofL (layL x))) ∧ Keep Nothing w w') := by
  have hu27 := Try.underlying27
  by_cases h0 : x.k = 0
  · have E := Lib.hid (show layL x = u64L (zig x.n) by unfold layL; rw [if_pos h0])
    go_enter Try.func20, Try.ntmps20
    go_wp2_with fail
    refine (rint_calls _ x.n x.hn).mono ?_
    rintro e w1 ⟨rfl, hk⟩
    have K := Lib.hid hk
    clear hk
    go_wp2_with fail
    go_ret
    exact ⟨by rw [E.out]; rfl, ((Keep.same Nothing w).alloc _).then K.out⟩
  · have g0 : (x.k == 0) = false := by rw [beq_eq_false_iff_ne]; exact h0
    by_cases h1 : x.k = 1
    · have E := Lib.hid (show layL x = u64L x.u by unfold layL; rw [if_neg h0, if_pos h1])
      go_enter Try.func20, Try.ntmps20
      go_wp2_with fail
      refine (ru64_calls _ x.u x.hu).mono ?_
      rintro e w1 ⟨rfl, hk⟩
      have K := Lib.hid hk
      clear hk
      go_wp2_with fail
      go_ret
      exact ⟨by rw [E.out]; rfl, ((Keep.same Nothing w).alloc _).then K.out⟩
    · have g1 : (x.k == 1) = false := by rw [beq_eq_false_iff_ne]; exact h1
      have E := Lib.hid (show ofL (layL x) = textS x.s by unfold layL; rw [if_neg h0, if_neg h1, ofL_app, ofL_list]; rfl)
      go_enter Try.func20, Try.ntmps20
      go_wp2_with fail
      refine (rtext_calls _ x.s (by omega)).mono ?_
      rintro e w1 ⟨rfl, hk⟩
      have K := Lib.hid hk
      clear hk
      go_wp2_with fail
      go_ret
      exact ⟨by rw [E.out]; rfl, ((Keep.same Nothing w).alloc _).then K.out⟩
set_option maxRecDepth 100000 in
set_option maxHeartbeats 1600000 in
theorem writes_calls (w : World) (A : Option Addr) (len cap : Nat) (l : List Item) (hA : R.Args w w.heap.size A len 4 Item.cells l) (hlen : len ≤ cap) (hcap : cap ≤ maxLen) (hsm : ∀ x ∈ l, x.s.size ≤ 1048576) :
    Calls Try.prog 3 #[.slice A len cap] w (fun e w' => e = .returned (.bool true) ∧ Keep Nothing w w') := by
  have HA := Lib.hid hA
  have SM := Lib.hid hsm
  have hu27 := Try.underlying27
  have hb : ∀ w', Below w.heap.size w w' → Keep Nothing w w' := fun w' h => Keep.of_below h _
  have H0 := Lib.hid (Holds.start w)
  have SW := Lib.hid wrP_stable
  have SN := Lib.hid none_stable
  have hmax : maxLen = 9223372036854775807 := by rfl
  have HL := Lib.hid hA.1
  clear hA hsm
  go_enter Try.func3, Try.ntmps3
  go_wp2_with fail
  refine (new_calls _).mono ?_
  rintro e w1 ⟨rfl, hw1⟩
  have H1 := Lib.hid (show Holds w.heap.size w w1 (star (wrP w.heap.size []) none_) by rw [hw1]; exact Holds.newWr H0.out none_stable)
  clear hw1
  go_wp2_with fail
  generalize hg1 : w.heap.size = b1 at *
  clear hg1
  go_loopw [4, 5] (fun s v wr => ∃ (k : Nat), k ≤ 100 ∧ k ≤ len ∧ v = .int .i64 k ∧ s = .string (ofL (laysL (l.take k))) ∧ Holds b1 w wr (star (wrP b1 (laysL (l.take k))) none_)) (fun _ v _ => 100 - (intOf v).toNat)
  case atStart => exact ⟨0, by omega, by omega, by simp, by simp [laysL, ofL], H1.out⟩
  case round =>
    obtain ⟨k, hk, hkl, rfl, rfl, hh⟩ := hrel
    have H := Lib.hid hh
    have hbl := laysL_len l k SM.out (by have := HL.out; omega)
    clear hh
    by_cases hin : k < len ∧ k < 100
    · obtain ⟨hkl, hk1⟩ := hin
      obtain ⟨ad, x, rfl, hx, hB, hc0, hc1, hc2, hc3⟩ := item_at (HA.out.below H.out.below) hkl
      have HX := Lib.hid hx
      have HN := Lib.hid (laysL_next hx)
      have hs := SM.out x (List.mem_of_getElem? hx)
      have LL := Lib.hid (layL_len hs)
      have hcat := Lib.hid (fun w => cat w (ofL (laysL (l.take k))) (ofL (layL x)) (by have := LL.out; simp only [ofL_size]; omega))
      have EA := Lib.hid (ofL_app (laysL (l.take k)) (layL x))
      clear hx
      have REST := Lib.hid (show ∀ w2, Holds b1 w w2 (star (wrP b1 (laysL (l.take k) ++ layL x)) none_) → w2.cell? (ad.add (k * 4)) = some (.int .i64 x.k) ∧ w2.cell? ⟨(ad.add (k * 4)).block, (ad.add (k * 4)).off + 1, none⟩ = some (.int .i64 x.n) ∧
          w2.cell? ⟨(ad.add (k * 4)).block, (ad.add (k * 4)).off + 2, none⟩ = some (.int .u64 x.u) ∧ w2.cell? ⟨(ad.add (k * 4)).block, (ad.add (k * 4)).off + 3, none⟩ = some (.string x.s) from fun w2 h2 => by
        obtain ⟨ad', x', had, hx', hB', d0, d1, d2, d3⟩ := item_at (HA.out.below h2.below) hkl
        injection had with had
        subst had
        rw [HX.out] at hx'
        injection hx' with hx'
        subst hx'
        exact ⟨d0, d1, d2, d3⟩)
      have LAYC := fun w => lay_calls w x hs
      by_cases h0 : x.k = 0
      · rw [h0] at LAYC
        have E := Lib.hid (show layL x = u64L (zig x.n) by unfold layL; rw [if_pos h0])
        have LC := Lib.hid LAYC
        clear LAYC
        go_wp2_with fail
        refine (x_int H.out SN.out x.n x.hn (by omega)).mono ?_
        rintro e w2 ⟨rfl, h2⟩
        rw [← E.out] at h2
        have H2 := Lib.hid h2
        clear h2 hc0 hc1 hc2 hc3
        obtain ⟨hc0, hc1, hc2, hc3⟩ := REST.out _ H2.out
        go_wp2_with fail
        refine (LC.out _).mono ?_
        rintro e w3 ⟨rfl, hk3⟩
        have H3 := Lib.hid (H2.out.kept ((SW.out _ _).star SN.out) hk3)
        clear hk3
        have hcc := hcat.out
        rw [← EA.out] at hcc
        have hll := LL.out
        have hee : ((ofL (laysL (l.take k) ++ layL x)).toList == (ofL (laysL (l.take k) ++ layL x)).toList) = true := by simp
        go_wp2_with fail
        refine (x_string H3.out (by rw [List.length_append]; omega)).mono ?_
        rintro e w' ⟨rfl, rfl⟩
        go_wp2_with fail
        go_roundw
        case rel => exact ⟨k + 1, by omega, by omega, by go_num, by rw [HN.out], by rw [HN.out]; exact H3.out⟩
        case measure => simp [intOf]; omega
      · have g0 : (x.k == 0) = false := by rw [beq_eq_false_iff_ne]; exact h0
        by_cases h1 : x.k = 1
        · rw [h1] at LAYC
          have E := Lib.hid (show layL x = u64L x.u by unfold layL; rw [if_neg h0, if_pos h1])
          have LC := Lib.hid LAYC
          clear LAYC
          go_wp2_with fail
          refine (x_u64 H.out SN.out x.u x.hu (by omega)).mono ?_
          rintro e w2 ⟨rfl, h2⟩
          rw [← E.out] at h2
          have H2 := Lib.hid h2
          clear h2 hc0 hc1 hc2 hc3
          obtain ⟨hc0, hc1, hc2, hc3⟩ := REST.out _ H2.out
          go_wp2_with fail
          refine (LC.out _).mono ?_
          rintro e w3 ⟨rfl, hk3⟩
          have H3 := Lib.hid (H2.out.kept ((SW.out _ _).star SN.out) hk3)
          clear hk3
          have hcc := hcat.out
          rw [← EA.out] at hcc
          have hll := LL.out
          have hee : ((ofL (laysL (l.take k) ++ layL x)).toList == (ofL (laysL (l.take k) ++ layL x)).toList) = true := by simp
          go_wp2_with fail
          refine (x_string H3.out (by rw [List.length_append]; omega)).mono ?_
          rintro e w' ⟨rfl, rfl⟩
          go_wp2_with fail
          go_roundw
          case rel => exact ⟨k + 1, by omega, by omega, by go_num, by rw [HN.out], by rw [HN.out]; exact H3.out⟩
          case measure => simp [intOf]; omega
        · have g1 : (x.k == 1) = false := by rw [beq_eq_false_iff_ne]; exact h1
          have E := Lib.hid (show layL x = u64L x.s.size ++ x.s.data.toList by unfold layL; rw [if_neg h0, if_neg h1])
          have LC := Lib.hid LAYC
          clear LAYC
          go_wp2_with fail
          refine (x_text H.out SN.out x.s (by omega)).mono ?_
          rintro e w2 ⟨rfl, h2⟩
          rw [List.append_assoc, ← E.out] at h2
          have H2 := Lib.hid h2
          clear h2 hc0 hc1 hc2 hc3
          obtain ⟨hc0, hc1, hc2, hc3⟩ := REST.out _ H2.out
          go_wp2_with fail
          refine (LC.out _).mono ?_
          rintro e w3 ⟨rfl, hk3⟩
          have H3 := Lib.hid (H2.out.kept ((SW.out _ _).star SN.out) hk3)
          clear hk3
          have hcc := hcat.out
          rw [← EA.out] at hcc
          have hll := LL.out
          have hee : ((ofL (laysL (l.take k) ++ layL x)).toList == (ofL (laysL (l.take k) ++ layL x)).toList) = true := by simp
          go_wp2_with fail
          refine (x_string H3.out (by rw [List.length_append]; omega)).mono ?_
          rintro e w' ⟨rfl, rfl⟩
          go_wp2_with fail
          go_roundw
          case rel => exact ⟨k + 1, by omega, by omega, by go_num, by rw [HN.out], by rw [HN.out]; exact H3.out⟩
          case measure => simp [intOf]; omega
    · rcases (show ¬ k < len ∨ (k < len ∧ ¬ k < 100) by omega) with hex | ⟨hex1, hex2⟩
      all_goals go_wp2_with fail
      all_goals refine (awake_calls _).mono ?_
      all_goals rintro e w9 ⟨rfl, hk9⟩
      all_goals have K9 := Lib.hid hk9
      all_goals clear hk9
      all_goals go_wp2_with fail
      all_goals go_ret
      all_goals exact ⟨rfl, (hb _ H.out.below).then K9.out⟩
theorem item_bulk {H : Type} {enc : TypeId × Value → H} {W : World} {b0 n : Nat} {x : Item} {y : DataW H × List MemPlace} (ht : DataW.trod enc Try.prog W b0 (fun _ => true) true n 27 x.cells = some y) :
    x.s.size ≤ Rows.uptoBulk y.1 := by
  obtain ⟨hcl, m, hf⟩ := R.struct_fields_bulk Try.underlying27 ht
  rw [cells27] at hcl
  have e9 : Try.prog.cellsOf 9 = 1 := by kernel_rfl
  obtain ⟨v3, y3, g3, k3, _, hb⟩ := hf 3 9 3 rfl e9 (by omega)
  obtain ⟨s, l3, e3, _⟩ := DataW.trod_string Try.underlying9 k3
  injection l3 with l3 _
  subst l3
  have : s = x.s := by
    simp only [Item.cells] at g3
    simpa using g3.symm
  subst this
  rw [e3] at hb
  simp only [Rows.uptoBulk] at hb
  have := size_list x.s
  omega
set_option maxRecDepth 100000 in
open Go.ChangeShapes Go.WideShapes Go.ChangeAt in
theorem writes_law : R.Law 3 Try.f3 (fun H ds => Rows.uptoSmall H ds) := by
  intro H enc W base args ds p hval hA hsz hk hlt
  rw [Try.params3] at hA hval
  obtain ⟨v0, vs0, d0, ds0, p0, q0, hargs, rfl, rfl, h0, r0⟩ := trodAll_cons hA
  obtain ⟨rfl, rfl, rfl⟩ := trodAll_nil r0
  obtain rfl : args = #[v0] := by cases args; simp_all
  have hbulk := R.upto_all hk
  simp only [Rows.uptoBulkAll] at hbulk
  obtain ⟨A, len, cap, rfl, h1, h2, hel, hd⟩ := R.open_cells_bulk Try.underlying22 cells27 (hval 0 22 v0 rfl rfl) h0 (fun x hx => hlt x (List.mem_append_left _ hx)) (by omega)
  obtain ⟨l, hl, hp⟩ := R.exists_list (p := fun i (x : Item) => (∃ ad, A = some ad ∧ ad.block < W.heap.size ∧ ∀ j u, x.cells[j]? = some u → W.cell? (ad.add (i * 4 + j)) = some u) ∧ x.s.size ≤ 1048576) len (fun i hi => by
    obtain ⟨ad, cs, n, y, rfl, hB, hcl, hat, ht, _, hbb⟩ := hel i hi
    obtain ⟨x, rfl⟩ := item_cells ht
    have := item_bulk ht
    exact ⟨x, ⟨ad, rfl, hB, fun j u hu => (hat j (by have := (List.getElem?_eq_some_iff.1 hu).1; simpa [Item.cells] using this)).trans hu⟩, by omega⟩)
  exact (writes_calls W A len cap l ⟨hl, fun i x hx => (hp i x hx).1⟩ h1 h2 (fun x hx => by
    obtain ⟨i, hi, rfl⟩ := List.mem_iff_getElem.1 hx
    exact (hp i _ (List.getElem?_eq_getElem hi)).2)).mono fun e w' h => ⟨h.1, h.2.below (Nat.le_refl _) (fun _ h => h.elim)⟩
end Go.Proofs.Ytjojibgihoebaaa.A
