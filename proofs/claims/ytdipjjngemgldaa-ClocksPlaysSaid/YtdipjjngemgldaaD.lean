/-
  ClocksSums, ClocksLeases, ClocksNone.
-/
import Derived.Test.YtdipjjngemgldaaC
namespace Go.Proofs.Ytdipjjngemgldaa.A
open Go.RowKit Go.Proofs.Ytdipjjngemgldaa.U
set_option linter.unusedVariables false
set_option linter.unusedSimpArgs false
set_option maxRecDepth 100000

abbrev I64 (n : Int) : Prop := -9223372036854775808 ≤ n ∧ n ≤ 9223372036854775807
theorem wf_i64 {n : Int} (h : (Lit.int .i64 n).wf = true) : I64 n := by
  simp only [Lit.wf, Bool.and_eq_true, decide_eq_true_eq] at h
  have h1 : IntKind.i64.min = -9223372036854775808 := by rfl
  have h2 : IntKind.i64.max = 9223372036854775807 := by rfl
  rw [h1, h2] at h
  exact h
theorem leases_calls (w : World) (a b c : Int) : Calls Try.prog 4 #[.int .i64 a, .int .i64 b, .int .i64 c] w (fun e w' => e = .returned (.bool true) ∧ Keep Nothing w w') := by
  have B1 := Lib.hid (bounded_calls w a b)
  have B2 := Lib.hid (bounded_calls w a c)
  have AW := Lib.hid (awake_calls w)
  by_cases h1 : a < 0 ∨ 1073741824 < a
  · rcases (show a < 0 ∨ (¬ a < 0 ∧ 1073741824 < a) by omega) with h | ⟨h, h'⟩
    · clear h1
      go_enter Try.func4, Try.ntmps4
      go_wp2_with fail
      refine AW.out.mono ?_
      rintro e w' ⟨rfl, hk⟩
      have K := Lib.hid hk
      clear hk
      go_wp2_with fail
      go_ret
      exact ⟨rfl, K.out⟩
    · have g1 : decide (a < 0) = false := decide_eq_false h
      clear h1
      go_enter Try.func4, Try.ntmps4
      go_wp2_with fail
      refine AW.out.mono ?_
      rintro e w' ⟨rfl, hk⟩
      have K := Lib.hid hk
      clear hk
      go_wp2_with fail
      go_ret
      exact ⟨rfl, K.out⟩
  · have g1 : decide (a < 0) = false := decide_eq_false (by omega)
    have g2 : decide (1073741824 < a) = false := decide_eq_false (by omega)
    cases hb : bnd a b with
    | false =>
      rw [hb] at B1
      clear hb h1
      go_enter Try.func4, Try.ntmps4
      go_wp2_with fail
      refine B1.out.mono ?_
      rintro e w' ⟨rfl, rfl⟩
      go_wp2_with fail
      refine AW.out.mono ?_
      rintro e w' ⟨rfl, hk⟩
      have K := Lib.hid hk
      clear hk
      go_wp2_with fail
      go_ret
      exact ⟨rfl, K.out⟩
    | true =>
      rw [hb] at B1
      cases hc : bnd a c with
      | false =>
        rw [hc] at B2
        clear hb hc h1
        go_enter Try.func4, Try.ntmps4
        go_wp2_with fail
        refine B1.out.mono ?_
        rintro e w' ⟨rfl, rfl⟩
        go_wp2_with fail
        refine B2.out.mono ?_
        rintro e w' ⟨rfl, rfl⟩
        go_wp2_with fail
        refine AW.out.mono ?_
        rintro e w' ⟨rfl, hk⟩
        have K := Lib.hid hk
        clear hk
        go_wp2_with fail
        go_ret
        exact ⟨rfl, K.out⟩
      | true =>
        rw [hc] at B2
        have hb' : 0 ≤ a ∧ a ≤ 1099511627776 ∧ 0 ≤ b ∧ b ≤ 1099511627776 ∧ 8 * b ≤ 9 * a ∧ 7 * a ≤ 8 * b := of_decide_eq_true hb
        have hc' : 0 ≤ a ∧ a ≤ 1099511627776 ∧ 0 ≤ c ∧ c ≤ 1099511627776 ∧ 8 * c ≤ 9 * a ∧ 7 * a ≤ 8 * c := of_decide_eq_true hc
        rcases (show b < 900 ∨ (¬ b < 900 ∧ 700 ≤ c) by omega) with h | ⟨h, h'⟩
        · clear hb hc h1 hb' hc'
          go_enter Try.func4, Try.ntmps4
          go_wp2_with fail
          refine B1.out.mono ?_
          rintro e w' ⟨rfl, rfl⟩
          go_wp2_with fail
          refine B2.out.mono ?_
          rintro e w' ⟨rfl, rfl⟩
          go_wp2_with fail
          refine AW.out.mono ?_
          rintro e w' ⟨rfl, hk⟩
          have K := Lib.hid hk
          clear hk
          go_wp2_with fail
          go_ret
          exact ⟨rfl, K.out⟩
        · have g3 : decide (b < 900) = false := decide_eq_false h
          have g4 : decide (700 ≤ c) = true := decide_eq_true h'
          clear hb hc h1 hb' hc'
          go_enter Try.func4, Try.ntmps4
          go_wp2_with fail
          refine B1.out.mono ?_
          rintro e w' ⟨rfl, rfl⟩
          go_wp2_with fail
          refine B2.out.mono ?_
          rintro e w' ⟨rfl, rfl⟩
          go_wp2_with fail
          refine AW.out.mono ?_
          rintro e w' ⟨rfl, hk⟩
          have K := Lib.hid hk
          clear hk
          go_wp2_with fail
          go_ret
          exact ⟨rfl, K.out⟩
open Go.ChangeShapes Go.WideShapes Go.ChangeAt in
theorem leases_law : R.Law 4 Try.f4 R.any := by
  intro H enc W base args ds p hval hA hsz _ hlt
  rw [Try.params4] at hA hval
  obtain ⟨v0, vs0, d0, ds0, p0, q0, hargs, rfl, rfl, h0, r0⟩ := trodAll_cons hA
  obtain ⟨v1, vs1, d1, ds1, p1, q1, rfl, rfl, rfl, h1, r1⟩ := trodAll_cons r0
  obtain ⟨v2, vs2, d2, ds2, p2, q2, rfl, rfl, rfl, h2, r2⟩ := trodAll_cons r1
  obtain ⟨rfl, rfl, rfl⟩ := trodAll_nil r2
  obtain rfl : args = #[v0, v1, v2] := by cases args; simp_all
  obtain ⟨a, rfl⟩ := okWide_int Try.underlying3 (hval 0 3 v0 rfl rfl)
  obtain ⟨b, rfl⟩ := okWide_int Try.underlying3 (hval 1 3 v1 rfl rfl)
  obtain ⟨c, rfl⟩ := okWide_int Try.underlying3 (hval 2 3 v2 rfl rfl)
  exact (leases_calls W a b c).mono fun e w' h => ⟨h.1, h.2.below (Nat.le_refl _) (fun _ h => h.elim)⟩
/-! ### Sums -/
def pairC (x : Int × Int) : List Value := [.int .i64 x.1, .int .i64 x.2]
theorem cells23 : Try.prog.cellsOf 23 = 2 := by kernel_rfl
theorem cells3 : Try.prog.cellsOf 3 = 1 := by kernel_rfl
theorem pair_cells {H : Type} {enc : TypeId × Value → H} {W : World} {b0 n : Nat} {cs : List Value} {y : DataW H × List MemPlace} (ht : DataW.trod enc Try.prog W b0 (fun _ => true) true n 23 cs = some y) (hcl : cs.length = 2) :
    ∃ x : Int × Int, cs = pairC x := by
  obtain ⟨xs, m, _, _, _, hl, hel⟩ := DataW.trod_array Try.underlying23 ht
  obtain ⟨c0, c1, rfl⟩ : ∃ c0 c1, cs = [c0, c1] := by
    match cs, hcl with
    | [c0, c1], _ => exact ⟨c0, c1, rfl⟩
  have h0 := hel 0 (by omega)
  have h1 := hel 1 (by omega)
  rw [cells3, List.getElem?_eq_getElem (by omega)] at h0 h1
  simp [Value.cells] at h0 h1
  obtain ⟨a, e0, _, w0⟩ := DataW.trod_int Try.underlying3 h0
  obtain ⟨b, e1, _, w1⟩ := DataW.trod_int Try.underlying3 h1
  simp at e0 e1
  exact ⟨(a, b), by rw [e0, e1]; rfl⟩
theorem pair_all {w : World} {B : Nat} {A : Option Addr} {len : Nat} {l : List (Int × Int)} (h : R.Args w B A len 2 pairC l) {k : Nat} (hk : k < len) :
    ∃ (ad : Addr) (x : Int × Int), A = some ad ∧ w.cell? (ad.add (k * 2)) = some (.int .i64 x.1) ∧ w.cell? ⟨(ad.add (k * 2)).block, (ad.add (k * 2)).off + 1, none⟩ = some (.int .i64 x.2) := by
  have hl := h.1
  obtain ⟨ad, e, hB, hc⟩ := h.2 k (l[k]'(by omega)) (List.getElem?_eq_getElem (by omega))
  exact ⟨ad, _, e, hc 0 _ rfl, by rw [← addLater ad (k * 2) 1 (by omega)]; exact hc 1 _ rfl⟩
set_option maxHeartbeats 1600000 in
theorem sums_calls (w : World) (A : Option Addr) (len cap : Nat) (l : List (Int × Int)) (hA : R.Args w w.heap.size A len 2 pairC l) (hlen : len ≤ cap) (hcap : cap ≤ maxLen) :
    Calls Try.prog 3 #[.slice A len cap] w (fun e w' => e = .returned (.bool true) ∧ Keep Nothing w w') := by
  have HA := Lib.hid hA
  have hu23 := Try.underlying23
  have hmax : maxLen = 9223372036854775807 := by rfl
  clear hA
  go_enter Try.func3, Try.ntmps3
  go_wp2_with fail
  go_loopw [3, 4, 5] (fun rv bv v wr => Drew w wr ∧ ∃ (k : Nat) (a b : Int), k ≤ 1000 ∧ v = .int .i64 k ∧ rv = .int .i64 a ∧ bv = .int .i64 b ∧ 0 ≤ a ∧ a ≤ k * 1048576 ∧ 0 ≤ b ∧ b ≤ k * 1048576 ∧ 8 * b ≤ 9 * a ∧ 7 * a ≤ 8 * b) (fun _ _ v _ => 1000 - (intOf v).toNat)
  case atStart => exact ⟨Drew.same _, 0, 0, 0, by omega, by simp, by simp, by simp, by omega, by omega, by omega, by omega, by omega, by omega⟩
  case round =>
    obtain ⟨⟨nd, rfl⟩, k, a, b, hk, rfl, rfl, rfl, i1, i2, i3, i4, i5, i6⟩ := hrel
    have hb := fun n x y => bounded_calls (w.drewN n) x y
    have HB := Lib.hid hb
    clear hb
    by_cases hin : k < len ∧ k < 1000
    · obtain ⟨hkl, hk1⟩ := hin
      obtain ⟨ad, ⟨x, y⟩, rfl, hc0, hc1⟩ := pair_all HA.out hkl
      simp only at hc0 hc1
      by_cases hbad : x < 0 ∨ y < 0 ∨ 1048576 < x ∨ 1048576 < y
      · rcases (show x < 0 ∨ (¬ x < 0 ∧ y < 0) ∨ (¬ x < 0 ∧ ¬ y < 0 ∧ 1048576 < x) ∨ (¬ x < 0 ∧ ¬ y < 0 ∧ ¬ 1048576 < x ∧ 1048576 < y) by omega) with h | ⟨h1, h⟩ | ⟨h1, h2, h⟩ | ⟨h1, h2, h3, h⟩
        · have g1 : decide (x < 0) = true := decide_eq_true h
          have I := Lib.hid (show a ≤ ((k + 1 : Nat) : Int) * 1048576 ∧ b ≤ ((k + 1 : Nat) : Int) * 1048576 by omega)
          clear hbad
          go_wp2_with fail
          go_quiet (fail)
          go_wp2_with fail
          go_roundw
          case rel => exact ⟨(Drew.same _).more _, k + 1, a, b, by omega, by go_num, rfl, rfl, i1, I.out.1, i3, I.out.2, i5, i6⟩
          case measure => simp [intOf]; omega
        · have g1 : decide (x < 0) = false := decide_eq_false h1
          have g2 : decide (y < 0) = true := decide_eq_true h
          have I := Lib.hid (show a ≤ ((k + 1 : Nat) : Int) * 1048576 ∧ b ≤ ((k + 1 : Nat) : Int) * 1048576 by omega)
          clear hbad
          go_wp2_with fail
          go_quiet (fail)
          go_wp2_with fail
          go_roundw
          case rel => exact ⟨(Drew.same _).more _, k + 1, a, b, by omega, by go_num, rfl, rfl, i1, I.out.1, i3, I.out.2, i5, i6⟩
          case measure => simp [intOf]; omega
        · have g1 : decide (x < 0) = false := decide_eq_false h1
          have g2 : decide (y < 0) = false := decide_eq_false h2
          have g3 : decide (1048576 < x) = true := decide_eq_true h
          have I := Lib.hid (show a ≤ ((k + 1 : Nat) : Int) * 1048576 ∧ b ≤ ((k + 1 : Nat) : Int) * 1048576 by omega)
          clear hbad
          go_wp2_with fail
          go_quiet (fail)
          go_wp2_with fail
          go_roundw
          case rel => exact ⟨(Drew.same _).more _, k + 1, a, b, by omega, by go_num, rfl, rfl, i1, I.out.1, i3, I.out.2, i5, i6⟩
          case measure => simp [intOf]; omega
        · have g1 : decide (x < 0) = false := decide_eq_false h1
          have g2 : decide (y < 0) = false := decide_eq_false h2
          have g3 : decide (1048576 < x) = false := decide_eq_false h3
          have g4 : decide (1048576 < y) = true := decide_eq_true h
          have I := Lib.hid (show a ≤ ((k + 1 : Nat) : Int) * 1048576 ∧ b ≤ ((k + 1 : Nat) : Int) * 1048576 by omega)
          clear hbad
          go_wp2_with fail
          go_quiet (fail)
          go_wp2_with fail
          go_roundw
          case rel => exact ⟨(Drew.same _).more _, k + 1, a, b, by omega, by go_num, rfl, rfl, i1, I.out.1, i3, I.out.2, i5, i6⟩
          case measure => simp [intOf]; omega
      · have g1 : decide (x < 0) = false := decide_eq_false (by omega)
        have g2 : decide (y < 0) = false := decide_eq_false (by omega)
        have g3 : decide (1048576 < x) = false := decide_eq_false (by omega)
        have g4 : decide (1048576 < y) = false := decide_eq_false (by omega)
        cases hbn : bnd x y with
        | false =>
          have HN := Lib.hid (fun n => by have := HB.out n x y; rw [hbn] at this; exact this)
          have I := Lib.hid (show a ≤ ((k + 1 : Nat) : Int) * 1048576 ∧ b ≤ ((k + 1 : Nat) : Int) * 1048576 by omega)
          clear hbn hbad
          go_wp2_with fail
          go_quiet (fail)
          go_wp2_with fail
          refine (HN.out _).mono ?_
          rintro e w' ⟨rfl, rfl⟩
          go_wp2_with fail
          go_roundw
          case rel => exact ⟨(Drew.same _).more _, k + 1, a, b, by omega, by go_num, rfl, rfl, i1, I.out.1, i3, I.out.2, i5, i6⟩
          case measure => simp [intOf]; omega
        | true =>
          have HN := Lib.hid (fun n => by have := HB.out n x y; rw [hbn] at this; exact this)
          have hbn' : 0 ≤ x ∧ x ≤ 1099511627776 ∧ 0 ≤ y ∧ y ≤ 1099511627776 ∧ 8 * y ≤ 9 * x ∧ 7 * x ≤ 8 * y := of_decide_eq_true hbn
          have I := Lib.hid (show 0 ≤ a + x ∧ a + x ≤ ((k + 1 : Nat) : Int) * 1048576 ∧ 0 ≤ b + y ∧ b + y ≤ ((k + 1 : Nat) : Int) * 1048576 ∧ 8 * (b + y) ≤ 9 * (a + x) ∧ 7 * (a + x) ≤ 8 * (b + y) by omega)
          have w1 : IntKind.i64.wrap (a + x) = a + x := by rw [IntKind.wrap_i64]; omega
          have w2 : IntKind.i64.wrap (b + y) = b + y := by rw [IntKind.wrap_i64]; omega
          clear hbn hbad hbn'
          go_wp2_with fail
          go_quiet (fail)
          go_wp2_with fail
          refine (HN.out _).mono ?_
          rintro e w' ⟨rfl, rfl⟩
          go_wp2_with fail
          go_roundw
          case rel => exact ⟨(Drew.same _).more _, k + 1, a + x, b + y, by omega, by go_num, by go_num, by go_num, I.out.1, I.out.2.1, I.out.2.2.1, I.out.2.2.2.1, I.out.2.2.2.2.1, I.out.2.2.2.2.2⟩
          case measure => simp [intOf]; omega
    · have HN := Lib.hid (show Calls Try.prog 7 #[.int .i64 a, .int .i64 b] (w.drewN nd) (fun e w' => e = .returned (.bool true) ∧ w' = w.drewN nd) by
        have := HB.out nd a b
        rw [show bnd a b = true from decide_eq_true (by omega)] at this
        exact this)
      rcases (show ¬ k < len ∨ (k < len ∧ ¬ k < 1000) by omega) with hex | ⟨hex1, hex2⟩
      all_goals go_wp2_with fail
      all_goals refine HN.out.mono ?_
      all_goals rintro e w' ⟨rfl, rfl⟩
      all_goals go_wp2_with fail
      all_goals refine (awake_calls _).mono ?_
      all_goals rintro e w9 ⟨rfl, hk9⟩
      all_goals have K9 := Lib.hid hk9
      all_goals clear hk9
      all_goals go_wp2_with fail
      all_goals go_ret
      all_goals exact ⟨rfl, ((Keep.same Nothing w).drewN _).then K9.out⟩
open Go.ChangeShapes Go.WideShapes Go.ChangeAt in
theorem sums_law : R.Law 3 Try.f3 R.any := by
  intro H enc W base args ds p hval hA hsz _ hlt
  rw [Try.params3] at hA hval
  obtain ⟨v0, vs0, d0, ds0, p0, q0, hargs, rfl, rfl, h0, r0⟩ := trodAll_cons hA
  obtain ⟨rfl, rfl, rfl⟩ := trodAll_nil r0
  obtain rfl : args = #[v0] := by cases args; simp_all
  obtain ⟨A, len, cap, rfl, hc1, hc2, hel, hd⟩ := R.open_cells Try.underlying22 cells23 (hval 0 22 v0 rfl rfl) h0 (fun x hx => hlt x (List.mem_append_left _ hx)) (by omega)
  obtain ⟨l, hl, hp⟩ := R.exists_list (p := fun i (x : Int × Int) => ∃ ad, A = some ad ∧ ad.block < W.heap.size ∧ ∀ j u, (pairC x)[j]? = some u → W.cell? (ad.add (i * 2 + j)) = some u) len (fun i hi => by
    obtain ⟨ad, cs, n, y, rfl, hB, hcl, hat, ht, _⟩ := hel i hi
    obtain ⟨x, rfl⟩ := pair_cells ht hcl
    exact ⟨x, ad, rfl, hB, fun j u hu => (hat j (by have := (List.getElem?_eq_some_iff.1 hu).1; simpa [pairC] using this)).trans hu⟩)
  exact (sums_calls W A len cap l ⟨hl, hp⟩ hc1 hc2).mono fun e w' h => ⟨h.1, h.2.below (Nat.le_refl _) (fun _ h => h.elim)⟩
end Go.Proofs.Ytdipjjngemgldaa.A
