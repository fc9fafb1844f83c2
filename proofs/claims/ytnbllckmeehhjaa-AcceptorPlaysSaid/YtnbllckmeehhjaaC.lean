/-
  slices.BinarySearchFunc on a row of entries.
-/
import Derived.Test.YtnbllckmeehhjaaB
namespace Go.Proofs.Ytnbllckmeehhjaa.A
open Go.RowKit Go.Proofs.Ytnbllckmeehhjaa.U
set_option linter.unusedVariables false
set_option linter.unusedSimpArgs false
set_option maxRecDepth 100000

def cmpS (a s : Int) : Int := if a < s then -1 else if s < a then 1 else 0
theorem cmp46 (w : World) (x : Ent) (s : Int) : Calls Try.prog 46 #[x.val, .int .i64 s] w (fun e w' => e = .returned (.int .i64 (cmpS x.a s)) ∧ Keep Nothing w w') := by
  have hu := Try.underlying37
  have D := (Blk.fresh w 37 x.cs).cell 0
  unfold Ent.cs at D
  unfold Ent.val Ent.cs
  rcases (show x.a < s ∨ (¬ x.a < s ∧ s < x.a) ∨ (¬ x.a < s ∧ ¬ s < x.a) by omega) with h | ⟨h, h'⟩ | ⟨h, h'⟩
  · have E := Lib.hid (show cmpS x.a s = -1 by unfold cmpS; rw [if_pos h])
    have D1 := decide_eq_true h
    clear h
    go_enter Try.func46, Try.ntmps46
    go_wp2_with fail
    go_ret
    exact ⟨by rw [E.out]; try rfl, (Keep.same Nothing w).alloc _⟩
  · have E := Lib.hid (show cmpS x.a s = 1 by unfold cmpS; rw [if_neg h, if_pos h'])
    have D1 := decide_eq_false h
    have D2 := decide_eq_true h'
    clear h h'
    go_enter Try.func46, Try.ntmps46
    go_wp2_with fail
    go_ret
    exact ⟨by rw [E.out]; try rfl, (Keep.same Nothing w).alloc _⟩
  · have E := Lib.hid (show cmpS x.a s = 0 by unfold cmpS; rw [if_neg h, if_neg h'])
    have D1 := decide_eq_false h
    have D2 := decide_eq_false h'
    clear h h'
    go_enter Try.func46, Try.ntmps46
    go_wp2_with fail
    go_ret
    exact ⟨by rw [E.out]; try rfl, (Keep.same Nothing w).alloc _⟩
theorem rise_at {L : List Ent} (h : Rise L) {i j : Nat} {x y : Ent} (hij : i < j) (hx : L[i]? = some x) (hy : L[j]? = some y) : x.a < y.a := by
  unfold Rise at h
  rw [List.pairwise_iff_getElem] at h
  obtain ⟨hi, rfl⟩ := List.getElem?_eq_some_iff.1 hx
  obtain ⟨hj, rfl⟩ := List.getElem?_eq_some_iff.1 hy
  exact h i j hi hj hij
def Found (L : List Ent) (s : Int) (w : World) (e : Ending) (w' : World) : Prop := ∃ (k : Nat) (b : Bool), e = .returned (.tuple #[.int .i64 k, .bool b]) ∧ k ≤ L.length ∧ (∀ (j : Nat) (y : Ent), j < k → L[j]? = some y → y.a < s) ∧
  ((b = true ∧ ∃ y, L[k]? = some y ∧ y.a = s) ∨ (b = false ∧ (k = L.length ∨ ∃ y, L[k]? = some y ∧ s < y.a))) ∧ Keep Nothing w w'
theorem half (i j : Nat) (h : i ≤ j) (hj : j ≤ 1000000) : IntKind.i64.wrap ((i : Int) + (j : Int)) = ((i + j : Nat) : Int) := by rw [IntKind.wrap_i64]; omega
set_option maxHeartbeats 3200000 in
theorem search_calls (w : World) (A : Option Addr) (n c : Nat) (L : List Ent) (s : Int) (h : U.Src w A 7 n (ents L)) (hn : n ≤ 1000000) (hr : Rise L) : Calls Try.prog 45 #[.slice A n c, .int .i64 s, .func (.func 46) #[] #[]] w (Found L s w) := by
  have hu := Try.underlying37
  have HL := Lib.hid (src_len h)
  have H := Lib.hid h
  have RI := Lib.hid hr
  clear h hr
  go_enter Try.func45, Try.ntmps45
  go_wp2_with fail
  go_loopw [9, 10] (fun vi vj wr => Keep Nothing w wr ∧ ∃ i j : Nat, i ≤ j ∧ j ≤ n ∧ vi = .int .i64 i ∧ vj = .int .i64 j ∧ (∀ (k : Nat) (y : Ent), k < i → L[k]? = some y → y.a < s) ∧ (∀ (k : Nat) (y : Ent), j ≤ k → L[k]? = some y → s ≤ y.a)) (fun vi vj _ => (intOf vj).toNat - (intOf vi).toNat)
  case atStart => exact ⟨Keep.same _ _, 0, n, by omega, by omega, by simp, by simp, fun k y hk => by omega, fun k y hk hy => by have := (List.getElem?_eq_some_iff.1 hy).1; have := HL.out; omega⟩
  case round =>
    obtain ⟨hkk, i, j, hij, hj, rfl, rfl, hlo, hhi⟩ := hrel
    have LO := Lib.hid hlo
    have HI := Lib.hid hhi
    have K := Lib.hid hkk
    clear hlo hhi hkk
    by_cases hlt : i < j
    · have hh := half i j hij (by omega)
      obtain ⟨m, hm⟩ : ∃ m, m = (i + j) / 2 := ⟨_, rfl⟩
      have hm1 : i ≤ m := by omega
      have hm2 : m < j := by omega
      have hm0 : ((i : Int) + (j : Int)) / 2 = (m : Int) := by omega
      clear hm
      obtain ⟨ad, y, rfl, hy, he⟩ := ent_at H.out (show m < n by omega)
      obtain ⟨c0, c1, c2, c3, c4, c5, c6⟩ := he.keep K.out (fun h => h)
      have HY := Lib.hid hy
      have HC := Lib.hid (cmp46 wr y s)
      clear hy he
      by_cases hyx : y.a < s
      · have D := Lib.hid (show cmpS y.a s = -1 by unfold cmpS; rw [if_pos hyx])
        have LT := Lib.hid hyx
        rw [D.out] at HC
        clear hyx
        go_wp2_with fail
        refine HC.out.mono ?_
        rintro e w' ⟨rfl, hk'⟩
        have K' := Lib.hid (K.out.then hk')
        clear hk' c0 c1 c2 c3 c4 c5 c6
        go_wp2_with fail
        go_roundw
        case rel => exact ⟨K'.out, m + 1, j, by omega, hj, by go_num, by simp, fun k z hk hz => by
          by_cases hkm : k = m
          · subst hkm
            rw [HY.out] at hz
            injection hz with hz
            rw [← hz]; exact LT.out
          · exact Int.lt_trans (rise_at RI.out (show k < m by omega) hz HY.out) LT.out, HI.out⟩
        case measure => simp [intOf]; omega
      · have D := Lib.hid (show decide (cmpS y.a s < 0) = false by unfold cmpS; rw [if_neg hyx]; split <;> simp)
        have GE := Lib.hid (show s ≤ y.a by omega)
        generalize cmpS y.a s = q at *
        have D2 := D.out
        clear hyx
        go_wp2_with fail
        refine HC.out.mono ?_
        rintro e w' ⟨rfl, hk'⟩
        have K' := Lib.hid (K.out.then hk')
        clear hk' c0 c1 c2 c3 c4 c5 c6
        go_wp2_with fail
        go_roundw
        case rel => exact ⟨K'.out, i, m, by omega, by omega, by simp, by simp, LO.out, fun k z hk hz => by
          by_cases hkm : k = m
          · subst hkm
            rw [HY.out] at hz
            injection hz with hz
            rw [← hz]; exact GE.out
          · have := rise_at RI.out (show m < k by omega) HY.out hz
            have := GE.out
            omega⟩
        case measure => simp [intOf]; omega
    · obtain rfl : i = j := by omega
      have hend : i ≤ L.length := by rw [HL.out]; exact hj
      have HE := Lib.hid hend
      clear hend
      by_cases hin : i < n
      · obtain ⟨ad, y, rfl, hy, he⟩ := ent_at H.out hin
        obtain ⟨c0, c1, c2, c3, c4, c5, c6⟩ := he.keep K.out (fun h => h)
        have HY := Lib.hid hy
        have HC := Lib.hid (cmp46 wr y s)
        have hge := HI.out i y (Nat.le_refl _) hy
        clear hy he
        by_cases hyx : y.a = s
        · have D := Lib.hid (show cmpS y.a s = 0 by unfold cmpS; rw [if_neg (by omega), if_neg (by omega)])
          have EQ := Lib.hid hyx
          rw [D.out] at HC
          clear hyx hge
          go_wp2_with fail
          refine HC.out.mono ?_
          rintro e w' ⟨rfl, hk'⟩
          have K' := Lib.hid (K.out.then hk')
          clear hk' c0 c1 c2 c3 c4 c5 c6
          go_wp2_with fail
          go_ret2
          exact ⟨i, _, rfl, HE.out, LO.out, .inl ⟨by simp, y, HY.out, EQ.out⟩, K'.out⟩
        · have D := Lib.hid (show cmpS y.a s = 1 by unfold cmpS; rw [if_neg (by omega), if_pos (by omega)])
          have GT := Lib.hid (show s < y.a by omega)
          rw [D.out] at HC
          clear hyx hge
          go_wp2_with fail
          refine HC.out.mono ?_
          rintro e w' ⟨rfl, hk'⟩
          have K' := Lib.hid (K.out.then hk')
          clear hk' c0 c1 c2 c3 c4 c5 c6
          go_wp2_with fail
          go_ret2
          exact ⟨i, _, rfl, HE.out, LO.out, .inr ⟨by simp, .inr ⟨y, HY.out, GT.out⟩⟩, K'.out⟩
      · obtain rfl : i = n := by omega
        go_wp2_with fail
        go_ret2
        exact ⟨i, _, rfl, HE.out, LO.out, .inr ⟨by simp, .inl HL.out.symm⟩, K.out⟩
end Go.Proofs.Ytnbllckmeehhjaa.A
