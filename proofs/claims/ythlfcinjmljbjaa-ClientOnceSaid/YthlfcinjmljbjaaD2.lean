/-
  slices.BinarySearchFunc on a row of Held.
-/
import Derived.Test.YthlfcinjmljbjaaD1
namespace Go.Proofs.Ythlfcinjmljbjaa.A
open Go.RowKit Go.Proofs.Ythlfcinjmljbjaa.U
set_option linter.unusedVariables false
set_option linter.unusedSimpArgs false
set_option maxRecDepth 100000

/-- By names, none twice. -/
def Rise (L : List Hd) : Prop := L.Pairwise (fun x y => cmpN x.nm y.nm < 0)
theorem above {a b s : ByteArray} (h : cmpN a b < 0) (h' : 0 ≤ cmpN a s) : 0 ≤ cmpN b s := by
  rcases cmpN_val b s with e | e | e
  · have := cmpN_trans h (show cmpN b s < 0 by omega)
    omega
  · omega
  · omega
/-- Not below. -/
def GeN (a s : ByteArray) : Prop := 0 ≤ cmpN a s
theorem rise_at {L : List Hd} (h : Rise L) {i j : Nat} {x y : Hd} (hij : i < j) (hx : L[i]? = some x) (hy : L[j]? = some y) : cmpN x.nm y.nm < 0 := by
  unfold Rise at h
  rw [List.pairwise_iff_getElem] at h
  obtain ⟨hi, rfl⟩ := List.getElem?_eq_some_iff.1 hx
  obtain ⟨hj, rfl⟩ := List.getElem?_eq_some_iff.1 hy
  exact h i j hi hj hij
def Found (L : List Hd) (s : ByteArray) (w : World) (e : Ending) (w' : World) : Prop := ∃ (k : Nat) (b : Bool), e = .returned (.tuple #[.int .i64 k, .bool b]) ∧ k ≤ L.length ∧ (∀ (j : Nat) (y : Hd), j < k → L[j]? = some y → cmpN y.nm s < 0) ∧
  ((b = true ∧ ∃ y, L[k]? = some y ∧ y.nm = s) ∨ (b = false ∧ (k = L.length ∨ ∃ y, L[k]? = some y ∧ 0 < cmpN y.nm s))) ∧ Keep Nothing w w'
theorem half (i j : Nat) (h : i ≤ j) (hj : j ≤ 1000000) : IntKind.i64.wrap ((i : Int) + (j : Int)) = ((i + j : Nat) : Int) := by rw [IntKind.wrap_i64]; omega
set_option maxHeartbeats 3200000 in
theorem search_calls (w : World) (A : Option Addr) (n c : Nat) (L : List Hd) (s : ByteArray) (h : U.Src w A 3 n (hds L)) (hn : n ≤ 1000000) (hr : Rise L) : Calls Try.prog 33 #[.slice A n c, .string s, .func (.func 34) #[] #[]] w (Found L s w) := by
  have hu := Try.underlying46
  have HL := Lib.hid (hsrc_len h)
  have H := Lib.hid h
  have RI := Lib.hid hr
  clear h hr
  go_enter Try.func33, Try.ntmps33
  go_wp2_with fail
  go_loopw [9, 10] (fun vi vj wr => Keep Nothing w wr ∧ ∃ i j : Nat, i ≤ j ∧ j ≤ n ∧ vi = .int .i64 i ∧ vj = .int .i64 j ∧ (∀ (k : Nat) (y : Hd), k < i → L[k]? = some y → cmpN y.nm s < 0) ∧ (∀ (k : Nat) (y : Hd), j ≤ k → L[k]? = some y → 0 ≤ cmpN y.nm s)) (fun vi vj _ => (intOf vj).toNat - (intOf vi).toNat)
  case atStart => exact ⟨Keep.same _ _, 0, n, by omega, by omega, by simp, by simp, fun k y hk => by omega, fun k y hk hy => by have := (List.getElem?_eq_some_iff.1 hy).1; have := HL.out; omega⟩
  case round =>
    obtain ⟨hkk, i, j, hij, hj, rfl, rfl, hlo, hhi⟩ := hrel
    have LO := Lib.hid hlo
    have HI := Lib.hid hhi
    have K := Lib.hid hkk
    clear hlo hhi hkk
    by_cases hlt : i < j
    · have hh := half i j hij (by omega)
      obtain ⟨m, hm⟩ : ∃ m, m = (i + j) / 2 := ⟨_, rfl⟩
      have hm1 : i ≤ m := by omega
      have hm2 : m < j := by omega
      have hm0 : ((i : Int) + (j : Int)) / 2 = (m : Int) := by omega
      clear hm
      obtain ⟨ad, y, rfl, hy, he⟩ := hd_at H.out (show m < n by omega)
      obtain ⟨c0, c1, c2⟩ := he.keep K.out (fun h => h)
      have HY := Lib.hid hy
      have HC := Lib.hid (cmp34 wr y s)
      clear hy he
      by_cases hyx : cmpN y.nm s < 0
      · have D := Lib.hid (show cmpN y.nm s = -1 by rcases cmpN_val y.nm s with h | h | h <;> omega)
        have LT := Lib.hid hyx
        rw [D.out] at HC
        clear hyx
        go_wp2_with fail
        refine HC.out.mono ?_
        rintro e w' ⟨rfl, hk'⟩
        have K' := Lib.hid (K.out.then hk')
        clear hk' c0 c1 c2
        go_wp2_with fail
        go_roundw
        case rel => exact ⟨K'.out, m + 1, j, by omega, hj, by go_num, by simp, fun k z hk hz => by
          by_cases hkm : k = m
          · subst hkm
            rw [HY.out] at hz
            injection hz with hz
            rw [← hz]; exact LT.out
          · exact cmpN_trans (rise_at RI.out (show k < m by omega) hz HY.out) LT.out, HI.out⟩
        case measure => simp [intOf]; omega
      · have D := Lib.hid (show decide (cmpN y.nm s < 0) = false from decide_eq_false hyx)
        have GE := Lib.hid (show GeN y.nm s by unfold GeN; omega)
        generalize cmpN y.nm s = q at *
        have D2 := D.out
        clear hyx
        go_wp2_with fail
        refine HC.out.mono ?_
        rintro e w' ⟨rfl, hk'⟩
        have K' := Lib.hid (K.out.then hk')
        clear hk' c0 c1 c2
        go_wp2_with fail
        go_roundw
        case rel => exact ⟨K'.out, i, m, by omega, by omega, by simp, by simp, LO.out, fun k z hk hz => by
          by_cases hkm : k = m
          · subst hkm
            rw [HY.out] at hz
            injection hz with hz
            rw [← hz]; exact GE.out
          · exact above (rise_at RI.out (show m < k by omega) HY.out hz) GE.out⟩
        case measure => simp [intOf]; omega
    · obtain rfl : i = j := by omega
      have hend : i ≤ L.length := by rw [HL.out]; exact hj
      have HE := Lib.hid hend
      clear hend
      by_cases hin : i < n
      · obtain ⟨ad, y, rfl, hy, he⟩ := hd_at H.out hin
        obtain ⟨c0, c1, c2⟩ := he.keep K.out (fun h => h)
        have HY := Lib.hid hy
        have HC := Lib.hid (cmp34 wr y s)
        have hge := HI.out i y (Nat.le_refl _) hy
        clear hy he
        by_cases hyx : y.nm = s
        · have D := Lib.hid (show cmpN y.nm s = 0 from (cmpN_zero _ _).2 hyx)
          have EQ := Lib.hid hyx
          rw [D.out] at HC
          clear hyx hge
          go_wp2_with fail
          refine HC.out.mono ?_
          rintro e w' ⟨rfl, hk'⟩
          have K' := Lib.hid (K.out.then hk')
          clear hk' c0 c1 c2
          go_wp2_with fail
          go_ret2
          exact ⟨i, _, rfl, HE.out, LO.out, .inl ⟨by simp, y, HY.out, EQ.out⟩, K'.out⟩
        · have D := Lib.hid (show cmpN y.nm s = 1 by have := mt (cmpN_zero y.nm s).1 hyx; rcases cmpN_val y.nm s with h | h | h <;> omega)
          have GT := Lib.hid (show 0 < cmpN y.nm s by have := mt (cmpN_zero y.nm s).1 hyx; omega)
          rw [D.out] at HC
          clear hyx hge
          go_wp2_with fail
          refine HC.out.mono ?_
          rintro e w' ⟨rfl, hk'⟩
          have K' := Lib.hid (K.out.then hk')
          clear hk' c0 c1 c2
          go_wp2_with fail
          go_ret2
          exact ⟨i, _, rfl, HE.out, LO.out, .inr ⟨by simp, .inr ⟨y, HY.out, GT.out⟩⟩, K'.out⟩
      · obtain rfl : i = n := by omega
        go_wp2_with fail
        go_ret2
        exact ⟨i, _, rfl, HE.out, LO.out, .inr ⟨by simp, .inl HL.out.symm⟩, K.out⟩
end Go.Proofs.Ythlfcinjmljbjaa.A
