/-
  ClientLeases: for all arguments, a client's lease is valid till 700 behind the latest send that was confirmed.
-/
import Derived.Test.YthlfcinjmljbjaaI4
namespace Go.Proofs.Ythlfcinjmljbjaa.A
open Go.RowKit Go.Proofs.Ythlfcinjmljbjaa.U
set_option linter.unusedVariables false
set_option linter.unusedSimpArgs false
set_option maxRecDepth 100000
set_option maxHeartbeats 3200000

/-- The client behind its opening. -/
abbrev A1 (t : Int) : CS := ⟨2, 3, 1, 0, 0, 0, false, some ⟨⟨2, 2, 1, ⟨#[]⟩, 0⟩, t, t⟩, 0, false, 0, []⟩
abbrev A2 (u : Int) : CS := ⟨2, 3, 1, 0, 3, 0, true, none, u, false, 0, []⟩
abbrev keptM (t : Int) : Mg := ⟨14, 0, 7, 0, 0, t, 3, 0, .slice none 0 0, ⟨0, 0, 0, ⟨#[]⟩, 0⟩, ⟨0, 0, 0, 0, 0⟩, ⟨#[]⟩⟩
theorem sA1 (t : Int) : callS (newC 2 3 1) xOpen t = A1 t := by rfl
theorem sA2 (t now : Int) : handleS (A1 t) (tellM ⟨0, 1, 0, 0, 3⟩) now = (A2 (leaseV t), 1) := by rfl
def mx (u t : Int) : Int := if u < leaseV t then leaseV t else u
theorem sA3 (u t now : Int) : handleS (A2 u) (keptM t) now = (A2 (mx u t), 0) := by rfl
theorem leaseV_in {t : Int} (h : t ≤ 1073741824) : leaseV t = t + 700 := by unfold leaseV; rw [if_pos (by omega)]
def intsC (n : Int) : List Value := [.int .i64 n]
theorem int_all {w : World} {B : Nat} {A : Option Addr} {len : Nat} {l : List Int} (h : R.Args w B A len 1 intsC l) {k : Nat} (hk : k < len) :
    ∃ (ad : Addr) (x : Int), A = some ad ∧ l[k]? = some x ∧ ∀ w', Below B w w' → w'.cell? (ad.add k) = some (.int .i64 x) := by
  have hl := h.1
  have hx : l[k]? = some (l[k]'(by omega)) := List.getElem?_eq_getElem (by omega)
  obtain ⟨ad, e, hB, hc⟩ := h.2 k _ hx
  have hb : (ad.add (k * 1)).block < B := by rw [addBlock]; exact hB
  refine ⟨ad, _, e, hx, fun w' hw => ?_⟩
  have := (hw.cell hb).trans (hc 0 _ rfl)
  rwa [Nat.mul_one] at this
open Go.ChangeShapes Go.WideShapes Go.ChangeAt in
theorem open_ints {H : Type} {enc : TypeId × Value → H} {W : World} {base : Nat} {v : Value} {d : DataW H} {p : List MemPlace}
    (hv : Value.okWide Try.prog W .any base 22 v) (h : DataW.Trod enc Try.prog W 0 (fun _ => true) true 22 v d p) (hlt : ∀ x ∈ p, x.block < W.heap.size) (hw : R.Light 22 d) :
    ∃ A len cap l, v = .slice A len cap ∧ len ≤ cap ∧ cap ≤ maxLen ∧ R.Args W W.heap.size A len 1 intsC l ∧ ∀ x ∈ l, I64 x := by
  obtain ⟨A, len, cap, rfl, hc1, hc2, _, hel⟩ := R.open_arg Try.underlying22 cells3' hv h hlt hw (by omega)
  obtain ⟨l, hl, hp⟩ := R.exists_list (p := fun i (x : Int) => I64 x ∧ ∃ ad, A = some ad ∧ ad.block < W.heap.size ∧ ∀ j u, (intsC x)[j]? = some u → W.cell? (ad.add (i * 1 + j)) = some u) len (fun i hi => by
    obtain ⟨ad, cs, n, y, rfl, hB, hcl, hat, ht, hy, hly⟩ := hel i hi
    obtain ⟨c0, rfl⟩ : ∃ c0, cs = [c0] := by
      match cs, hcl with
      | [c0], _ => exact ⟨c0, rfl⟩
    obtain ⟨x, rfl, wx⟩ := R.cell_int Try.underlying3 ht
    exact ⟨x, wx, ad, rfl, hB, fun j u hu => (hat j (by have := (List.getElem?_eq_some_iff.1 hu).1; simpa [intsC] using this)).trans hu⟩)
  refine ⟨A, len, cap, l, rfl, hc1, hc2, ⟨hl, fun i x hx => (hp i x hx).2⟩, fun x hx => ?_⟩
  obtain ⟨i, hi⟩ := List.mem_iff_getElem?.1 hx
  exact (hp i x hi).1
theorem leases_calls (w : World) (s now : Int) (A : Option Addr) (len cap : Nat) (l : List Int) (hA : R.Args w w.heap.size A len 1 intsC l) (hI : ∀ x ∈ l, I64 x) (hlen : len ≤ cap) (hcap : cap ≤ maxLen) :
    Calls Try.prog 3 #[.int .i64 s, .slice A len cap, .int .i64 now] w (fun e w' => e = .returned (.bool true) ∧ Keep Nothing w w') := by
  have AW := Lib.hid (fun w => awake7 w)
  by_cases hr : s < 0 ∨ 1073741824 < s ∨ now < 0 ∨ 1099511627776 < now
  · rcases (show s < 0 ∨ (¬ s < 0 ∧ 1073741824 < s) ∨ (¬ s < 0 ∧ ¬ 1073741824 < s ∧ now < 0) ∨ (¬ s < 0 ∧ ¬ 1073741824 < s ∧ ¬ now < 0 ∧ 1099511627776 < now) by omega) with h | ⟨h, h'⟩ | ⟨h, h', h''⟩ | ⟨h, h', h'', h'''⟩
    · have g1 := decide_eq_true h
      clear hA hI hr h
      go_enter Try.func3, Try.ntmps3
      go_wp2_with fail
      refine (AW.out _).mono ?_
      rintro e w' ⟨rfl, hk⟩
      have K := Lib.hid hk
      clear hk
      go_wp2_with fail
      go_ret
      exact ⟨rfl, K.out⟩
    · have g1 := decide_eq_false h
      have g2 := decide_eq_true h'
      clear hA hI hr h h'
      go_enter Try.func3, Try.ntmps3
      go_wp2_with fail
      refine (AW.out _).mono ?_
      rintro e w' ⟨rfl, hk⟩
      have K := Lib.hid hk
      clear hk
      go_wp2_with fail
      go_ret
      exact ⟨rfl, K.out⟩
    · have g1 := decide_eq_false h
      have g2 := decide_eq_false h'
      have g3 := decide_eq_true h''
      clear hA hI hr h h' h''
      go_enter Try.func3, Try.ntmps3
      go_wp2_with fail
      refine (AW.out _).mono ?_
      rintro e w' ⟨rfl, hk⟩
      have K := Lib.hid hk
      clear hk
      go_wp2_with fail
      go_ret
      exact ⟨rfl, K.out⟩
    · have g1 := decide_eq_false h
      have g2 := decide_eq_false h'
      have g3 := decide_eq_false h''
      have g4 := decide_eq_true h'''
      clear hA hI hr h h' h'' h'''
      go_enter Try.func3, Try.ntmps3
      go_wp2_with fail
      refine (AW.out _).mono ?_
      rintro e w' ⟨rfl, hk⟩
      have K := Lib.hid hk
      clear hk
      go_wp2_with fail
      go_ret
      exact ⟨rfl, K.out⟩
  · have g1 : decide (s < 0) = false := decide_eq_false (by omega)
    have g2 : decide (1073741824 < s) = false := decide_eq_false (by omega)
    have g3 : decide (now < 0) = false := decide_eq_false (by omega)
    have g4 : decide (1099511627776 < now) = false := decide_eq_false (by omega)
    have HA := Lib.hid hA
    have HI := Lib.hid hI
    have HS := Lib.hid (show 0 ≤ s ∧ s ≤ 1073741824 by omega)
    have hw : IntKind.i64.wrap (s + 700) = s + 700 := by rw [IntKind.wrap_i64]; omega
    have hb : ∀ w', Below w.heap.size w w' → Keep Nothing w w' := fun w' h => Keep.of_below h _
    have hmax : maxLen = 9223372036854775807 := by rfl
    have HN := Lib.hid (x_new (Holds.start w) none_stable)
    clear hA hI hr
    go_enter Try.func3, Try.ntmps3
    go_wp2_with fail
    refine HN.out.mono ?_
    rintro e w1 ⟨b, rfl, h⟩
    have H1 := Lib.hid h
    have X1 := Lib.hid (x_call h none_stable (by decide) (by decide) (by decide) List.Pairwise.nil xOpen s)
    unfold Cmd.val Cmd.cs at X1
    clear h
    go_wp2_with fail
    refine X1.out.mono ?_
    rintro e w2 hp
    obtain ⟨g, rfl, h⟩ := call_ok hp e1
    rw [sA1] at h
    have H2 := Lib.hid (show Holds w.heap.size w w2 (star (cliP b (A1 s)) none_) from h.drop)
    clear h hp
    go_wp2_with fail
    refine (tell11 w2 ⟨0, 1, 0, 0, 3⟩).mono ?_
    rintro e w4 ⟨rfl, hk⟩
    have H4 := Lib.hid (H2.out.kept ((cliP_stable _ _).star none_stable) hk)
    have X4 := Lib.hid (x_handle H4.out none_stable (by show (0 : Int) ≤ 2 ∧ (2 : Int) < 8; decide) (by show 0 ≤ 500000; decide) List.Pairwise.nil (by intro o ho; injection ho with ho; subst ho; have := HS.out; exact ⟨by show -9223372036854775808 ≤ s; omega, by show s ≤ 9223372036854775807; omega⟩) (tellM ⟨0, 1, 0, 0, 3⟩) (by decide) s)
    clear hk
    go_wp2_with fail
    refine X4.out.mono ?_
    rintro e w5 hp
    obtain ⟨A5, k5, c5, D5, d5, rfl, h⟩ := hand_one hp (sA2 s s)
    rw [leaseV_in HS.out.2] at h
    have H5 := Lib.hid h
    clear h hp
    go_wp2_with fail
    generalize hg1 : w.heap.size = b1 at *
    clear hg1
    go_loopw [8, 9] (fun uv v wr => ∃ (k : Nat) (u : Int), k ≤ 100 ∧ v = .int .i64 k ∧ uv = .int .i64 u ∧ 0 ≤ u ∧ u ≤ 1073742524 ∧ Holds b1 w wr (star (cliP b (A2 u)) none_)) (fun _ v _ => 100 - (intOf v).toNat)
    case atStart => exact ⟨0, s + 700, by omega, by simp, rfl, by have := HS.out; omega, by have := HS.out; omega, H5.out⟩
    case round =>
      obtain ⟨k, u, hk, rfl, rfl, hu0, hu1, hh⟩ := hrel
      have H := Lib.hid hh
      clear hh
      by_cases hin : k < len ∧ k < 100
      · obtain ⟨hkl, hk3⟩ := hin
        obtain ⟨ad, x, rfl, hx, hat⟩ := int_all HA.out hkl
        have dd := hat _ H.out.below
        have HX := Lib.hid (HI.out x (List.mem_of_getElem? hx))
        have HAT := Lib.hid hat
        clear hat hx
        rcases (show x < 0 ∨ (¬ x < 0 ∧ 1073741824 < x) ∨ (¬ x < 0 ∧ ¬ 1073741824 < x) by omega) with h | ⟨h, h'⟩ | ⟨h, h'⟩
        · have d1 := decide_eq_true h
          clear h
          go_wp2_with fail
          go_roundw
          case rel => exact ⟨k + 1, u, by omega, by go_num, rfl, hu0, hu1, H.out⟩
          case measure => simp [intOf]; omega
        · have d1 := decide_eq_false h
          have d2 := decide_eq_true h'
          clear h h'
          go_wp2_with fail
          go_roundw
          case rel => exact ⟨k + 1, u, by omega, by go_num, rfl, hu0, hu1, H.out⟩
          case measure => simp [intOf]; omega
        · have d1 := decide_eq_false h
          have d2 := decide_eq_false h'
          have HT := Lib.hid (show 0 ≤ x ∧ x ≤ 1073741824 by omega)
          have XH := Lib.hid (x_handle H.out none_stable (by show (0 : Int) ≤ 2 ∧ (2 : Int) < 8; decide) (by show 0 ≤ 500000; decide) List.Pairwise.nil (by intro o ho; cases ho) (keptM x) HX.out s)
          clear h h'
          go_wp2_with fail
          refine XH.out.mono ?_
          rintro e w7 hp
          obtain ⟨A7, k7, c7, D7, d7, rfl, h7⟩ := hand_one hp (sA3 u x s)
          have H7 := Lib.hid h7
          have dd2 := HAT.out _ h7.below
          have hw2 : IntKind.i64.wrap (x + 700) = x + 700 := by rw [IntKind.wrap_i64]; have := HT.out; omega
          have M1 := Lib.hid (show u < x + 700 → mx u x = x + 700 from fun h => by unfold mx; rw [leaseV_in HT.out.2, if_pos h])
          have M2 := Lib.hid (show ¬ u < x + 700 → mx u x = u from fun h => by unfold mx; rw [leaseV_in HT.out.2, if_neg h])
          have MB := Lib.hid (show 0 ≤ mx u x ∧ mx u x ≤ 1073742524 by
            have := HT.out
            by_cases h : u < x + 700
            · rw [M1.out h]; omega
            · rw [M2.out h]; omega)
          clear h7 hp dd
          go_wp2_with fail
          have MM := Lib.hid (show mx u x = if u < x + 700 then x + 700 else u by unfold mx; rw [leaseV_in HT.out.2])
          go_roundw
          case rel => exact ⟨k + 1, mx u x, by omega, by go_num, by rw [MM.out], MB.out.1, MB.out.2, H7.out⟩
          case measure => simp [intOf]; omega
      · have XV := Lib.hid (x_valid H.out now)
        rw [show (A2 u).valid now = decide (now < u) by unfold CS.valid; simp] at XV
        by_cases hv : now < u
        all_goals
          have dv := by first | exact decide_eq_true (p := now < u) hv | exact decide_eq_false (p := now < u) hv
          rw [dv] at XV
          have hex : ¬ k < len ∨ (k < len ∧ ¬ k < 100) := by omega
          clear hv
          rcases hex with h | ⟨h, h'⟩
          all_goals
            go_wp2_with fail
            refine XV.out.mono ?_
            rintro e w8 ⟨rfl, rfl⟩
            go_wp2_with fail
            refine (AW.out _).mono ?_
            rintro e w9 ⟨rfl, hk9⟩
            have K9 := Lib.hid hk9
            clear hk9
            go_wp2_with fail
            go_ret
            exact ⟨rfl, (hb _ H.out.below).then K9.out⟩
open Go.ChangeShapes Go.WideShapes Go.ChangeAt in
theorem leases_law : R.Law 3 Try.f3 R.any := by
  intro H enc W base args ds p hval hA hsz _ hlt
  rw [Try.params3] at hA hval hsz
  obtain ⟨v0, vs0, d0, ds0, p0, q0, hargs, rfl, rfl, h0, r0⟩ := trodAll_cons hA
  obtain ⟨v1, vs1, d1, ds1, p1, q1, rfl, rfl, rfl, h1, r1⟩ := trodAll_cons r0
  obtain ⟨v2, vs2, d2, ds2, p2, q2, rfl, rfl, rfl, h2, r2⟩ := trodAll_cons r1
  obtain ⟨rfl, rfl, rfl⟩ := trodAll_nil r2
  obtain rfl : args = #[v0, v1, v2] := by cases args; simp_all
  obtain ⟨a, rfl⟩ := okWide_int Try.underlying3 (hval 0 3 v0 rfl rfl)
  obtain ⟨A, len, cap, l, rfl, hc1, hc2, hAr, hI⟩ := open_ints (hval 1 22 v1 rfl rfl) h1 (fun x hx => hlt x (List.mem_append_right _ (List.mem_append_left _ hx))) (R.light_of (j := 1) hsz rfl rfl)
  obtain ⟨c, rfl⟩ := okWide_int Try.underlying3 (hval 2 3 v2 rfl rfl)
  exact (leases_calls W a c A len cap l hAr hI hc1 hc2).mono fun e w' h => ⟨h.1, h.2.below (Nat.le_refl _) (fun _ h => h.elim)⟩
end Go.Proofs.Ythlfcinjmljbjaa.A
