/-
  Contracts of the reference's Next, of awake, of the laws.
-/
import Derived.Test.YtcgbgnebemknjaaA
namespace Go.Proofs.Ytcgbgnebemknjaa.A
open Go.RowKit Go.Proofs.Ytcgbgnebemknjaa.U
set_option linter.unusedVariables false
set_option linter.unusedSimpArgs false

def rx (b i : Int) : Int := if i < 0 ∨ 4 < i ∨ 1099511627776 ≤ b then 0 else
  let m := if b < 0 then 0 else b
  let n := if m / 8 * 8 + i ≤ m then m / 8 * 8 + i + 8 else m / 8 * 8 + i
  if isB n = true then n else 0
theorem rx_eq (b i : Int) : rx b i = nx b i := by
  unfold rx nx
  by_cases c : 1099511627776 ≤ b
  · rw [if_pos (.inr (.inr c)), if_pos c]
  · rw [if_neg c]
    obtain ⟨m, hm⟩ : ∃ m, (if b < 0 then 0 else b) = m := ⟨_, rfl⟩
    have hm0 : 0 ≤ m := by split at hm <;> omega
    have hm1 : m < 1099511627776 := by split at hm <;> omega
    rw [hm]
    by_cases ci : i < 0 ∨ 4 < i
    · rw [if_pos (by omega)]
      have z1 : ofB (m / 8) i = 0 := ofB_f1 (by omega)
      have z2 : ofB (m / 8 + 1) i = 0 := ofB_f1 (by omega)
      rw [nx2_2 (by omega) (by omega)]
    · rw [if_neg (by omega)]
      simp only []
      by_cases h : m / 8 * 8 + i ≤ m
      · rw [if_pos h]
        have n1 : ¬ m < ofB (m / 8) i := by unfold ofB; split <;> omega
        cases hb : isB (m / 8 * 8 + i + 8)
        · have : ofB (m / 8 + 1) i = 0 := ofB_f (by rw [← hb]; congr 1; omega)
          rw [nx2_2 n1 (by omega)]; simp
        · have : ofB (m / 8 + 1) i = m / 8 * 8 + i + 8 := by rw [ofB_t (by omega) (by omega) (by omega) (by omega) (by rw [← hb]; congr 1; omega)]; omega
          rw [nx2_1 n1 (by omega), this]; simp
      · rw [if_neg h]
        cases hb : isB (m / 8 * 8 + i)
        · have h2 := (isB_not _).1 hb
          omega
        · have : ofB (m / 8) i = m / 8 * 8 + i := ofB_t (by omega) (by omega) (by omega) (by omega) hb
          rw [nx2_0 (by omega), this]; simp

theorem refNext_calls (b i : Int) (w : World) : Calls Try.prog 16 #[.int .i64 b, .int .i64 i] w (Pure w (.int .i64 (nx b i))) := by
  rw [← rx_eq]
  by_cases c : i < 0 ∨ 4 < i ∨ 1099511627776 ≤ b
  · have fin : rx b i = 0 := if_pos c
    rcases (show i < 0 ∨ (0 ≤ i ∧ 4 < i) ∨ (0 ≤ i ∧ i ≤ 4 ∧ 1099511627776 ≤ b) by omega) with h | ⟨h1, h2⟩ | ⟨h1, h2, h3⟩
    all_goals clear c
    all_goals go_enter Try.func16, Try.ntmps16
    all_goals go_wp2
    all_goals go_ret
    all_goals exact ⟨by simp [*], by repeat (first | exact Drew.same _ | apply Drew.more | apply Drew.one)⟩
  · have fin : rx b i = _ := if_neg c
    obtain ⟨m, hm⟩ : ∃ m, (if b < 0 then 0 else b) = m := ⟨_, rfl⟩
    have hm0 : 0 ≤ m := by split at hm <;> omega
    have hm1 : m < 1099511627776 := by split at hm <;> omega
    rw [hm] at fin
    simp only [] at fin
    have c1 : 0 ≤ i := by omega
    have c2 : i ≤ 4 := by omega
    have c3 : b < 1099511627776 := by omega
    by_cases h : m / 8 * 8 + i ≤ m
    · rw [if_pos h] at fin
      cases hb : isB (m / 8 * 8 + i + 8)
      · rw [hb] at fin; simp only [Bool.false_eq_true, if_false] at fin
        have FIN := Lib.hid fin
        clear fin c
        go_enter Try.func16, Try.ntmps16
        go_wp2_with (go_at_call 20; refine (is2_calls _ (by omega) _).mono ?_; rintro e w' ⟨rfl, ⟨nd, rfl⟩⟩)
        all_goals go_ret
        all_goals exact ⟨by rw [FIN.out]; rfl, by repeat (first | exact Drew.same _ | apply Drew.more | apply Drew.one)⟩
      · rw [hb] at fin; simp only [if_true] at fin
        have FIN := Lib.hid fin
        clear fin c
        go_enter Try.func16, Try.ntmps16
        go_wp2_with (go_at_call 20; refine (is2_calls _ (by omega) _).mono ?_; rintro e w' ⟨rfl, ⟨nd, rfl⟩⟩)
        all_goals go_ret
        all_goals exact ⟨by rw [FIN.out]; rfl, by repeat (first | exact Drew.same _ | apply Drew.more | apply Drew.one)⟩
    · rw [if_neg h] at fin
      cases hb : isB (m / 8 * 8 + i)
      · rw [hb] at fin; simp only [Bool.false_eq_true, if_false] at fin
        have FIN := Lib.hid fin
        clear fin c
        go_enter Try.func16, Try.ntmps16
        go_wp2_with (go_at_call 20; refine (is2_calls _ (by omega) _).mono ?_; rintro e w' ⟨rfl, ⟨nd, rfl⟩⟩)
        all_goals go_ret
        all_goals exact ⟨by rw [FIN.out]; rfl, by repeat (first | exact Drew.same _ | apply Drew.more | apply Drew.one)⟩
      · rw [hb] at fin; simp only [if_true] at fin
        have FIN := Lib.hid fin
        clear fin c
        go_enter Try.func16, Try.ntmps16
        go_wp2_with (go_at_call 20; refine (is2_calls _ (by omega) _).mono ?_; rintro e w' ⟨rfl, ⟨nd, rfl⟩⟩)
        all_goals go_ret
        all_goals exact ⟨by rw [FIN.out]; rfl, by repeat (first | exact Drew.same _ | apply Drew.more | apply Drew.one)⟩

theorem e1 : ofB 2 1 = 17 := by decide
theorem e2 : nx 17 0 = 24 := by decide
theorem e3 : nx 17 2 = 18 := by decide
theorem e4 : ofB 0 0 = 0 := by decide
theorem e5 : partB 17 2 = 2 := by decide
theorem e6 : partB 17 1 = 1 := by decide
theorem e7 : partB 15 7 = -1 := by decide
theorem awake_calls (w : World) : Calls Try.prog 14 #[] w (Pure w (.bool true)) := by
  have h1 := e1
  have h2 := e2
  have h3 := e3
  have h4 := e4
  have h5 := e5
  have h6 := e6
  have h7 := e7
  go_enter Try.func14, Try.ntmps14
  go_wp2_with (first
    | (go_at_call 8; refine (Of_calls _ _ _).mono ?_; rintro e w' ⟨rfl, ⟨nd, rfl⟩⟩)
    | (go_at_call 15; refine (Next_calls _ _ _).mono ?_; rintro e w' ⟨rfl, ⟨nd, rfl⟩⟩)
    | (go_at_call 17; refine (Maj_calls _ (by omega) _).mono ?_; rintro e w' ⟨rfl, ⟨nd, rfl⟩⟩)
    | (go_at_call 10; refine (Round_calls _ (by omega) _).mono ?_; rintro e w' ⟨rfl, ⟨nd, rfl⟩⟩)
    | (go_at_call 12; refine (Id_calls _ (by omega) _).mono ?_; rintro e w' ⟨rfl, ⟨nd, rfl⟩⟩))
  all_goals go_ret
  all_goals exact ⟨by simp, by repeat (first | exact Drew.same _ | apply Drew.more | apply Drew.one)⟩
end Go.Proofs.Ytcgbgnebemknjaa.A
