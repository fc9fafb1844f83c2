/-
  slices.BinarySearch and slices.Delete at rows of numbers.
-/
import Derived.Test.YtmohpjkbhpgidaaM
namespace Go.Proofs.Ytmohpjkbhpgidaa.A
open Go.RowKit Go.Proofs.Ytmohpjkbhpgidaa.U
set_option linter.unusedVariables false
set_option linter.unusedSimpArgs false
set_option maxRecDepth 100000

theorem nan115 (w : World) (x : Int) : Calls Try.prog 115 #[.int .i64 x] w (fun e w' => e = .returned (.bool false) ∧ w' = w) := by
  go_enter Try.func115, Try.ntmps115
  go_wp2_with fail
  go_ret
  exact ⟨rfl, rfl⟩
theorem nan111 (w : World) (x : Int) : Calls Try.prog 111 #[.int .i64 x] w (fun e w' => e = .returned (.bool false) ∧ w' = w) := by
  go_enter Try.func111, Try.ntmps111
  go_wp2_with fail
  go_ret
  exact ⟨rfl, rfl⟩
theorem less110 (w : World) (x y : Int) : Calls Try.prog 110 #[.int .i64 x, .int .i64 y] w (fun e w' => e = .returned (.bool (decide (x < y))) ∧ w' = w) := by
  go_enter Try.func110, Try.ntmps110
  go_wp2_with fail
  refine (nan115 w x).mono ?_
  rintro e w' ⟨rfl, rfl⟩
  go_wp2_with fail
  go_ret
  exact ⟨rfl, rfl⟩
def Rising (L : List Int) : Prop := ∀ (i j : Nat) (x y : Int), i < j → L[i]? = some x → L[j]? = some y → x < y
def Found (L : List Int) (x : Int) (w : World) (e : Ending) (w' : World) : Prop := ∃ (k : Nat) (b : Bool), e = .returned (.tuple #[.int .i64 k, .bool b]) ∧ k ≤ L.length ∧ (∀ (j : Nat) (y : Int), j < k → L[j]? = some y → y < x) ∧ (∀ (j : Nat) (y : Int), k ≤ j → L[j]? = some y → x ≤ y) ∧ w' = w
theorem half (i j : Nat) (h : i ≤ j) (hj : j ≤ 1000000) : IntKind.i64.wrap ((i : Int) + (j : Int)) = ((i + j : Nat) : Int) := by rw [IntKind.wrap_i64]; omega
set_option maxHeartbeats 3200000 in
theorem search_calls (w : World) (A : Option Addr) (n c : Nat) (L : List Int) (x : Int) (h : U.Src w A 1 n (ints L)) (hn : n ≤ 1000000) (hr : Rising L) : Calls Try.prog 99 #[.slice A n c, .int .i64 x] w (Found L x w) := by
  have HL := Lib.hid (ints_len h)
  have H := Lib.hid h
  have RI := Lib.hid hr
  clear h hr
  go_enter Try.func99, Try.ntmps99
  go_wp2_with fail
  go_loopw [7, 8] (fun vi vj wr => wr = w ∧ ∃ i j : Nat, i ≤ j ∧ j ≤ n ∧ vi = .int .i64 i ∧ vj = .int .i64 j ∧ (∀ (k : Nat) (y : Int), k < i → L[k]? = some y → y < x) ∧ (∀ (k : Nat) (y : Int), j ≤ k → L[k]? = some y → x ≤ y)) (fun vi vj _ => (intOf vj).toNat - (intOf vi).toNat)
  case atStart => exact ⟨by trivial, 0, n, by omega, by omega, by simp, by simp, fun k y hk => by omega, fun k y hk hy => by have := (List.getElem?_eq_some_iff.1 hy).1; have := HL.out; omega⟩
  case round =>
    obtain ⟨rfl, i, j, hij, hj, rfl, rfl, hlo, hhi⟩ := hrel
    have LO := Lib.hid hlo
    have HI := Lib.hid hhi
    clear hlo hhi
    by_cases hlt : i < j
    · have hh := half i j hij (by omega)
      obtain ⟨m, hm⟩ : ∃ m, m = (i + j) / 2 := ⟨_, rfl⟩
      have hm1 : i ≤ m := by omega
      have hm2 : m < j := by omega
      have hm0 : ((i : Int) + (j : Int)) / 2 = (m : Int) := by omega
      clear hm
      obtain ⟨ad, y, rfl, hy, hc⟩ := i_at H.out (show m < n by omega)
      have HY := Lib.hid hy
      clear hy
      go_wp2_with fail
      refine (less110 wr y x).mono ?_
      rintro e w' ⟨rfl, rfl⟩
      by_cases hyx : y < x
      · have D := decide_eq_true hyx
        have LT := Lib.hid hyx
        clear hyx
        go_wp2_with fail
        go_roundw
        case rel => exact ⟨by trivial, m + 1, j, by omega, hj, by go_num, by simp, fun k z hk hz => by
          by_cases hkm : k = m
          · subst hkm
            rw [HY.out] at hz
            injection hz with hz
            rw [← hz]; exact LT.out
          · exact Int.lt_trans (RI.out k m z y (by omega) hz HY.out) LT.out, HI.out⟩
        case measure => simp [intOf]; omega
      · have D := decide_eq_false hyx
        have GE := Lib.hid (show x ≤ y by omega)
        clear hyx
        go_wp2_with fail
        go_roundw
        case rel => exact ⟨by trivial, i, m, by omega, by omega, by simp, by simp, LO.out, fun k z hk hz => by
          by_cases hkm : k = m
          · subst hkm
            rw [HY.out] at hz
            injection hz with hz
            rw [← hz]; exact GE.out
          · have := RI.out m k y z (by omega) HY.out hz
            have := GE.out
            omega⟩
        case measure => simp [intOf]; omega
    · obtain rfl : i = j := by omega
      have hend : i ≤ L.length := by rw [HL.out]; exact hj
      have HE := Lib.hid hend
      clear hend
      by_cases hin : i < n
      · obtain ⟨ad, y, rfl, hy, hc⟩ := i_at H.out hin
        have HY := Lib.hid hy
        clear hy
        by_cases hyx : y = x
        · subst hyx
          go_wp2_with fail
          go_ret2
          exact ⟨i, _, rfl, HE.out, LO.out, HI.out, rfl⟩
        · have g0 : (y == x) = false := by rw [beq_eq_false_iff_ne]; exact hyx
          clear hyx
          go_wp2_with fail
          refine (nan111 wr y).mono ?_
          rintro e w' ⟨rfl, rfl⟩
          go_wp2_with fail
          go_ret2
          exact ⟨i, _, rfl, HE.out, LO.out, HI.out, rfl⟩
      · obtain rfl : i = n := by omega
        go_wp2_with fail
        go_ret2
        exact ⟨i, _, rfl, HE.out, LO.out, HI.out, rfl⟩
end Go.Proofs.Ytmohpjkbhpgidaa.A
