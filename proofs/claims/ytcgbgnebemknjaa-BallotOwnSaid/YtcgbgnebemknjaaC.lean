/-
  The walks of ballot's laws.
-/
import Derived.Test.YtcgbgnebemknjaaB
namespace Go.Proofs.Ytcgbgnebemknjaa.A
open Go.RowKit Go.Proofs.Ytcgbgnebemknjaa.U
set_option linter.unusedVariables false
set_option linter.unusedSimpArgs false

theorem Parts_calls (r i b : Int) (h1 : b ≤ 9223372036854775807) (w : World) : Calls Try.prog 3 #[.int .i64 r, .int .i64 i, .int .i64 b] w (Pure w (.bool true)) := by
  go_enter Try.func3, Try.ntmps3
  go_wp2_with (first
    | (go_at_call 8; refine (Of_calls _ _ _).mono ?_; rintro e w' ⟨rfl, ⟨nd, rfl⟩⟩)
    | (go_at_call 9; refine (refOf_calls _ _ _).mono ?_; rintro e w' ⟨rfl, ⟨nd, rfl⟩⟩)
    | (go_at_call 10; refine (Round_calls _ h1 _).mono ?_; rintro e w' ⟨rfl, ⟨nd, rfl⟩⟩)
    | (go_at_call 11; refine (refRound_calls _ h1 _).mono ?_; rintro e w' ⟨rfl, ⟨nd, rfl⟩⟩)
    | (go_at_call 12; refine (Id_calls _ h1 _).mono ?_; rintro e w' ⟨rfl, ⟨nd, rfl⟩⟩)
    | (go_at_call 13; refine (refId_calls _ h1 _).mono ?_; rintro e w' ⟨rfl, ⟨nd, rfl⟩⟩)
    | (go_at_call 14; refine (awake_calls _).mono ?_; rintro e w' ⟨rfl, ⟨nd, rfl⟩⟩))
  all_goals go_ret
  all_goals exact ⟨by simp, by repeat (first | exact Drew.same _ | apply Drew.more | apply Drew.one)⟩
theorem Nexts_calls (b i n : Int) (h1 : n ≤ 9223372036854775807) (w : World) : Calls Try.prog 4 #[.int .i64 b, .int .i64 i, .int .i64 n] w (Pure w (.bool true)) := by
  go_enter Try.func4, Try.ntmps4
  go_wp2_with (first
    | (go_at_call 15; refine (Next_calls _ _ _).mono ?_; rintro e w' ⟨rfl, ⟨nd, rfl⟩⟩)
    | (go_at_call 16; refine (refNext_calls _ _ _).mono ?_; rintro e w' ⟨rfl, ⟨nd, rfl⟩⟩)
    | (go_at_call 17; refine (Maj_calls _ h1 _).mono ?_; rintro e w' ⟨rfl, ⟨nd, rfl⟩⟩)
    | (go_at_call 18; refine (refMaj_calls _ h1 _).mono ?_; rintro e w' ⟨rfl, ⟨nd, rfl⟩⟩)
    | (go_at_call 14; refine (awake_calls _).mono ?_; rintro e w' ⟨rfl, ⟨nd, rfl⟩⟩))
  all_goals go_ret
  all_goals exact ⟨by simp, by repeat (first | exact Drew.same _ | apply Drew.more | apply Drew.one)⟩

theorem nx_zero {b i : Int} (h : nx b i = 0) : (i < 0 ∨ 4 < i) ∨ 1099511627768 ≤ b := by
  by_cases ci : i < 0 ∨ 4 < i
  · exact .inl ci
  · by_cases cb : 1099511627768 ≤ b
    · exact .inr cb
    · exfalso
      rw [nx_at (by omega)] at h
      obtain ⟨m, hm⟩ : ∃ m, (if b < 0 then 0 else b) = m := ⟨_, rfl⟩
      have hm0 : 0 ≤ m := by split at hm <;> omega
      have hm1 : m < 1099511627768 := by split at hm <;> omega
      rw [hm] at h
      have k : ofB (m / 8 + 1) i = (m / 8 + 1) * 8 + i := ofB_t (by omega) (by omega) (by omega) (by omega) ((isB_iff _).2 (by omega))
      unfold nx2 at h
      split at h
      · rename_i h1; omega
      · rw [if_pos (by omega)] at h; omega
theorem nx_above {b i : Int} (h : nx b i ≠ 0) : b < nx b i ∧ isB (nx b i) = true ∧ nx b i % 8 = i ∧ nx b i - 8 ≤ (if b < 0 then 0 else b) ∧ 8 ≤ nx b i + 8 := by
  by_cases c : 1099511627776 ≤ b
  · exact absurd (nx_far c) h
  · rw [nx_at (by omega)] at h ⊢
    obtain ⟨m, hm⟩ : ∃ m, (if b < 0 then 0 else b) = m := ⟨_, rfl⟩
    have hm0 : 0 ≤ m := by split at hm <;> omega
    have hmb : b ≤ m := by split at hm <;> omega
    have hm1 : m < 1099511627776 := by split at hm <;> omega
    rw [hm] at h ⊢
    have key : ∀ q, m < ofB q i → (q = m / 8 ∨ q = m / 8 + 1) → b < ofB q i ∧ isB (ofB q i) = true ∧ ofB q i % 8 = i ∧ ofB q i - 8 ≤ m ∨ (q = m / 8 + 1 ∧ m < ofB (m / 8) i) := by
      intro q hq hc
      have e : ofB q i = q * 8 + i ∧ 0 ≤ i ∧ i ≤ 4 ∧ isB (q * 8 + i) = true ∧ 0 ≤ q ∧ q ≤ 137438953472 := by
        unfold ofB at hq ⊢
        split
        · rename_i k; exact ⟨rfl, k.2.2.1, k.2.2.2.1, k.2.2.2.2, k.1, k.2.1⟩
        · rename_i k; rw [if_neg k] at hq; omega
      rcases hc with rfl | rfl
      · left; rw [e.1]; exact ⟨by omega, e.2.2.2.1, by omega, by omega⟩
      · by_cases k : m < m / 8 * 8 + i
        · right
          refine ⟨rfl, ?_⟩
          rw [ofB_t (by omega) (by omega) (by omega) (by omega) ((isB_iff _).2 (by omega))]; omega
        · left; rw [e.1]; exact ⟨by omega, e.2.2.2.1, by omega, by omega⟩
    unfold nx2 at h ⊢
    by_cases h1 : m < ofB (m / 8) i
    · rw [if_pos h1] at h ⊢
      rcases key _ h1 (.inl rfl) with k | k
      · exact ⟨k.1, k.2.1, k.2.2.1, k.2.2.2, by omega⟩
      · omega
    · rw [if_neg h1] at h ⊢
      by_cases h2 : m < ofB (m / 8 + 1) i
      · rw [if_pos h2] at h ⊢
        rcases key _ h2 (.inr rfl) with k | k
        · exact ⟨k.1, k.2.1, k.2.2.1, k.2.2.2, by omega⟩
        · omega
      · rw [if_neg h2] at h; exact absurd rfl h
theorem nx2_le (m i : Int) : nx2 m i ≤ 1099511627776 := by
  have := (ofB_le (m / 8) i).2
  have := (ofB_le (m / 8 + 1) i).2
  unfold nx2
  split
  · omega
  · split <;> omega
theorem nx_le (b i : Int) : nx b i ≤ 1099511627776 := by
  unfold nx
  split
  · omega
  · exact nx2_le _ _

theorem Above_calls (b i : Int) (w : World) : Calls Try.prog 6 #[.int .i64 b, .int .i64 i] w (Pure w (.bool true)) := by
  by_cases c : nx b i = 0
  · have hz := nx_zero c
    rcases (show (i < 0) ∨ (0 ≤ i ∧ 4 < i) ∨ (0 ≤ i ∧ i ≤ 4 ∧ 1099511627768 ≤ b) by omega) with h | h | h
    all_goals clear hz
    all_goals go_enter Try.func6, Try.ntmps6
    all_goals go_wp2_with (first
      | (go_at_call 15; refine (Next_calls _ _ _).mono ?_; rintro e w' ⟨rfl, ⟨nd, rfl⟩⟩)
      | (go_at_call 14; refine (awake_calls _).mono ?_; rintro e w' ⟨rfl, ⟨nd, rfl⟩⟩))
    all_goals go_ret
    all_goals exact ⟨by simp, by repeat (first | exact Drew.same _ | apply Drew.more | apply Drew.one)⟩
  · have ha := nx_above c
    have hl := nx_le b i
    obtain ⟨n, hn⟩ : ∃ n, nx b i = n := ⟨_, rfl⟩
    rw [hn] at ha c hl
    obtain ⟨a1, a2, a3, a4, a5⟩ := ha
    have k := partB_t (r := n % 8) a2
    have cz : (n == 0) = false := by simp [c]
    have NX : ∀ w, Calls Try.prog 15 #[.int .i64 b, .int .i64 i] w (Pure w (.int .i64 n)) := by rw [← hn]; exact fun w => Next_calls b i w
    have ID : ∀ w, Calls Try.prog 12 #[.int .i64 n] w (Pure w (.int .i64 i)) := by
      rw [← a3, ← k]; exact fun w => Id_calls n (by omega) w
    have HN := Lib.hid NX
    have HI := Lib.hid ID
    clear NX ID hn a2 a3 k c
    by_cases cb : b < 0
    · rw [if_pos cb] at a4
      go_enter Try.func6, Try.ntmps6
      go_wp2_with (first
        | (go_at_call 15; refine (HN.out _).mono ?_; rintro e w' ⟨rfl, ⟨nd, rfl⟩⟩)
        | (go_at_call 12; refine (HI.out _).mono ?_; rintro e w' ⟨rfl, ⟨nd, rfl⟩⟩)
        | (go_at_call 14; refine (awake_calls _).mono ?_; rintro e w' ⟨rfl, ⟨nd, rfl⟩⟩))
      all_goals go_ret
      all_goals exact ⟨by simp, by repeat (first | exact Drew.same _ | apply Drew.more | apply Drew.one)⟩
    · rw [if_neg cb] at a4
      go_enter Try.func6, Try.ntmps6
      go_wp2_with (first
        | (go_at_call 15; refine (HN.out _).mono ?_; rintro e w' ⟨rfl, ⟨nd, rfl⟩⟩)
        | (go_at_call 12; refine (HI.out _).mono ?_; rintro e w' ⟨rfl, ⟨nd, rfl⟩⟩)
        | (go_at_call 14; refine (awake_calls _).mono ?_; rintro e w' ⟨rfl, ⟨nd, rfl⟩⟩))
      all_goals go_ret
      all_goals exact ⟨by simp, by repeat (first | exact Drew.same _ | apply Drew.more | apply Drew.one)⟩

theorem Majorities_calls (n : Int) (h : n ≤ 9223372036854775807) (w : World) : Calls Try.prog 7 #[.int .i64 n] w (Pure w (.bool true)) := by
  obtain ⟨m, hm⟩ : ∃ m, (if n < 1 then 0 else n) / 2 + 1 = m := ⟨_, rfl⟩
  have MJ : ∀ w, Calls Try.prog 17 #[.int .i64 n] w (Pure w (.int .i64 m)) := by rw [← hm]; exact fun w => Maj_calls n h w
  have HM := Lib.hid MJ
  clear MJ
  by_cases c : n < 1
  · rw [if_pos c] at hm
    have h0 : m = 1 := by omega
    subst h0
    clear hm
    go_enter Try.func7, Try.ntmps7
    go_wp2_with (first
      | (go_at_call 17; refine (HM.out _).mono ?_; rintro e w' ⟨rfl, ⟨nd, rfl⟩⟩)
      | (go_at_call 14; refine (awake_calls _).mono ?_; rintro e w' ⟨rfl, ⟨nd, rfl⟩⟩))
    all_goals go_ret
    all_goals exact ⟨by simp, by repeat (first | exact Drew.same _ | apply Drew.more | apply Drew.one)⟩
  · rw [if_neg c] at hm
    have h0 : n < 2 * m := by omega
    have h2 : 2 * (m - 1) ≤ n := by omega
    have h3 : m ≤ n := by omega
    have h4 : 1 ≤ m := by omega
    clear hm
    by_cases cb : 1099511627776 < n
    all_goals go_enter Try.func7, Try.ntmps7
    all_goals go_wp2_with (first
      | (go_at_call 17; refine (HM.out _).mono ?_; rintro e w' ⟨rfl, ⟨nd, rfl⟩⟩)
      | (go_at_call 14; refine (awake_calls _).mono ?_; rintro e w' ⟨rfl, ⟨nd, rfl⟩⟩))
    all_goals go_ret
    all_goals exact ⟨by simp, by repeat (first | exact Drew.same _ | apply Drew.more | apply Drew.one)⟩
end Go.Proofs.Ytcgbgnebemknjaa.A
