/-
  Contracts of ballot's functions.
-/
import Derived.Test.YtcgbgnebemknjaaU
namespace Go.Proofs.Ytcgbgnebemknjaa.A
open Go.RowKit Go.Proofs.Ytcgbgnebemknjaa.U
set_option linter.unusedVariables false
set_option linter.unusedSimpArgs false

def isB (b : Int) : Bool := decide (1 ≤ b) && (decide (b ≤ 1099511627776) && decide (b % 8 < 5))

theorem and7 (x : Int) (h0 : 0 ≤ x) (h1 : x ≤ 9223372036854775807) : Go.bits .and .i64 x 7 = x % 8 := by
  have := bits_mask .i64 63 (by decide) (fun n h h' => by rw [IntKind.wrap_i64]; omega) 3 (by decide) x h0 (by omega)
  exact this
theorem or8 (x y : Int) (h0 : 0 ≤ x) (h1 : x ≤ 137438953472) (h2 : 0 ≤ y) (h3 : y ≤ 4) : Go.bits .or .i64 (wrap64 (x * 8)) y = x * 8 + y := by
  have h : wrap64 (x * 8) = x * 8 := by unfold wrap64; omega
  rw [h]
  exact bits_join .i64 63 (by decide) (fun n h h' => by rw [IntKind.wrap_i64]; omega) 3 (x * 8) y (by omega) (by omega) (by omega) (by omega) (by omega) (by omega)

theorem is_calls (b : Int) (h1 : b ≤ 9223372036854775807) (w : World) : Calls Try.prog 19 #[.int .i64 b] w (Pure w (.bool (isB b))) := by
  have hp : isB b = (decide (1 ≤ b) && (decide (b ≤ 1099511627776) && decide (b % 8 < 5))) := rfl
  by_cases c1 : 1 ≤ b
  · have a7 := and7 b (by omega) h1
    go_enter Try.func19, Try.ntmps19
    go_wp2
    all_goals go_ret
    all_goals exact ⟨by simp [hp, *] <;> omega, by repeat (first | exact Drew.same _ | apply Drew.more | apply Drew.one)⟩
  · have c1' : decide (1 ≤ b) = false := decide_eq_false c1
    rw [c1'] at hp
    go_enter Try.func19, Try.ntmps19
    go_wp2
    all_goals go_ret
    all_goals exact ⟨by simp [hp], by repeat (first | exact Drew.same _ | apply Drew.more | apply Drew.one)⟩
theorem is2_calls (b : Int) (h1 : b ≤ 9223372036854775807) (w : World) : Calls Try.prog 20 #[.int .i64 b] w (Pure w (.bool (isB b))) := by
  have hp : isB b = (decide (1 ≤ b) && (decide (b ≤ 1099511627776) && decide (b % 8 < 5))) := rfl
  by_cases c1 : 1 ≤ b
  · go_enter Try.func20, Try.ntmps20
    go_wp2
    all_goals go_ret
    all_goals exact ⟨by simp [hp, *] <;> omega, by repeat (first | exact Drew.same _ | apply Drew.more | apply Drew.one)⟩
  · have c1' : decide (1 ≤ b) = false := decide_eq_false c1
    rw [c1'] at hp
    go_enter Try.func20, Try.ntmps20
    go_wp2
    all_goals go_ret
    all_goals exact ⟨by simp [hp], by repeat (first | exact Drew.same _ | apply Drew.more | apply Drew.one)⟩
theorem isB_iff (b : Int) : isB b = true ↔ 1 ≤ b ∧ b ≤ 1099511627776 ∧ b % 8 < 5 := by simp [isB]
theorem isB_not (b : Int) : isB b = false ↔ ¬ (1 ≤ b ∧ b ≤ 1099511627776 ∧ b % 8 < 5) := by rw [← isB_iff]; simp

def partB (b r : Int) : Int := if isB b = true then r else -1
theorem partB_t {b r : Int} (h : isB b = true) : partB b r = r := by simp [partB, h]
theorem partB_f {b r : Int} (h : isB b = false) : partB b r = -1 := by simp [partB, h]

theorem round_calls (b : Int) (h0 : 0 ≤ b) (h1 : b ≤ 9223372036854775807) (w : World) : Calls Try.prog 22 #[.int .i64 b] w (Pure w (.int .i64 (b / 8))) := by
  go_enter Try.func22, Try.ntmps22
  go_wp2
  all_goals go_ret
  all_goals exact ⟨by simp <;> omega, by repeat (first | exact Drew.same _ | apply Drew.more | apply Drew.one)⟩
theorem id_calls (b : Int) (h0 : 0 ≤ b) (h1 : b ≤ 9223372036854775807) (w : World) : Calls Try.prog 23 #[.int .i64 b] w (Pure w (.int .i64 (b % 8))) := by
  have a7 := and7 b (by omega) h1
  go_enter Try.func23, Try.ntmps23
  go_wp2
  all_goals go_ret
  all_goals exact ⟨by simp [*], by repeat (first | exact Drew.same _ | apply Drew.more | apply Drew.one)⟩
theorem Round_calls (b : Int) (h1 : b ≤ 9223372036854775807) (w : World) : Calls Try.prog 10 #[.int .i64 b] w (Pure w (.int .i64 (partB b (b / 8)))) := by
  cases hi : isB b
  · have fin := partB_f (r := b / 8) hi
    go_enter Try.func10, Try.ntmps10
    go_wp2_with (first | (go_at_call 19; refine (is_calls _ h1 _).mono ?_; rintro e w' ⟨rfl, ⟨nd, rfl⟩⟩) | go_in)
    all_goals go_ret
    all_goals exact ⟨by simp [*], by repeat (first | exact Drew.same _ | apply Drew.more | apply Drew.one)⟩
  · have fin := partB_t (r := b / 8) hi
    have hb := (isB_iff b).1 hi
    have HB := Lib.hid hb
    clear hb
    go_enter Try.func10, Try.ntmps10
    go_wp2_with (first | (go_at_call 19; refine (is_calls _ h1 _).mono ?_; rintro e w' ⟨rfl, ⟨nd, rfl⟩⟩) | (go_at_call 22; refine (round_calls _ (by have := HB.out; omega) h1 _).mono ?_; rintro e w' ⟨rfl, ⟨nd, rfl⟩⟩) | go_in)
    all_goals go_ret
    all_goals exact ⟨by simp [*], by repeat (first | exact Drew.same _ | apply Drew.more | apply Drew.one)⟩
theorem Id_calls (b : Int) (h1 : b ≤ 9223372036854775807) (w : World) : Calls Try.prog 12 #[.int .i64 b] w (Pure w (.int .i64 (partB b (b % 8)))) := by
  cases hi : isB b
  · have fin := partB_f (r := b % 8) hi
    go_enter Try.func12, Try.ntmps12
    go_wp2_with (first | (go_at_call 19; refine (is_calls _ h1 _).mono ?_; rintro e w' ⟨rfl, ⟨nd, rfl⟩⟩) | go_in)
    all_goals go_ret
    all_goals exact ⟨by simp [*], by repeat (first | exact Drew.same _ | apply Drew.more | apply Drew.one)⟩
  · have fin := partB_t (r := b % 8) hi
    have hb := (isB_iff b).1 hi
    have HB := Lib.hid hb
    clear hb
    go_enter Try.func12, Try.ntmps12
    go_wp2_with (first | (go_at_call 19; refine (is_calls _ h1 _).mono ?_; rintro e w' ⟨rfl, ⟨nd, rfl⟩⟩) | (go_at_call 23; refine (id_calls _ (by have := HB.out; omega) h1 _).mono ?_; rintro e w' ⟨rfl, ⟨nd, rfl⟩⟩) | go_in)
    all_goals go_ret
    all_goals exact ⟨by simp [*], by repeat (first | exact Drew.same _ | apply Drew.more | apply Drew.one)⟩
theorem refRound_calls (b : Int) (h1 : b ≤ 9223372036854775807) (w : World) : Calls Try.prog 11 #[.int .i64 b] w (Pure w (.int .i64 (partB b (b / 8)))) := by
  cases hi : isB b
  · have fin := partB_f (r := b / 8) hi
    go_enter Try.func11, Try.ntmps11
    go_wp2_with (first | (go_at_call 20; refine (is2_calls _ h1 _).mono ?_; rintro e w' ⟨rfl, ⟨nd, rfl⟩⟩) | go_in)
    all_goals go_ret
    all_goals exact ⟨by simp [*], by repeat (first | exact Drew.same _ | apply Drew.more | apply Drew.one)⟩
  · have fin := partB_t (r := b / 8) hi
    have hb := ((isB_iff b).1 hi).1
    go_enter Try.func11, Try.ntmps11
    go_wp2_with (first | (go_at_call 20; refine (is2_calls _ h1 _).mono ?_; rintro e w' ⟨rfl, ⟨nd, rfl⟩⟩) | go_in)
    all_goals go_ret
    all_goals exact ⟨by simp [*], by repeat (first | exact Drew.same _ | apply Drew.more | apply Drew.one)⟩
theorem refId_calls (b : Int) (h1 : b ≤ 9223372036854775807) (w : World) : Calls Try.prog 13 #[.int .i64 b] w (Pure w (.int .i64 (partB b (b % 8)))) := by
  cases hi : isB b
  · have fin := partB_f (r := b % 8) hi
    go_enter Try.func13, Try.ntmps13
    go_wp2_with (first | (go_at_call 20; refine (is2_calls _ h1 _).mono ?_; rintro e w' ⟨rfl, ⟨nd, rfl⟩⟩) | go_in)
    all_goals go_ret
    all_goals exact ⟨by simp [*], by repeat (first | exact Drew.same _ | apply Drew.more | apply Drew.one)⟩
  · have fin := partB_t (r := b % 8) hi
    have hb := ((isB_iff b).1 hi).1
    go_enter Try.func13, Try.ntmps13
    go_wp2_with (first | (go_at_call 20; refine (is2_calls _ h1 _).mono ?_; rintro e w' ⟨rfl, ⟨nd, rfl⟩⟩) | go_in)
    all_goals go_ret
    all_goals exact ⟨by simp [*], by repeat (first | exact Drew.same _ | apply Drew.more | apply Drew.one)⟩

def ofB (r i : Int) : Int := if 0 ≤ r ∧ r ≤ 137438953472 ∧ 0 ≤ i ∧ i ≤ 4 ∧ isB (r * 8 + i) = true then r * 8 + i else 0
theorem ofB_t {r i : Int} (h1 : 0 ≤ r) (h2 : r ≤ 137438953472) (h3 : 0 ≤ i) (h4 : i ≤ 4) (h5 : isB (r * 8 + i) = true) : ofB r i = r * 8 + i := if_pos ⟨h1, h2, h3, h4, h5⟩
theorem ofB_f {r i : Int} (h5 : isB (r * 8 + i) = false) : ofB r i = 0 := if_neg fun h => by rw [h5] at h; simp at h
theorem ofB_f1 {r i : Int} (h : ¬ (0 ≤ r ∧ r ≤ 137438953472 ∧ 0 ≤ i ∧ i ≤ 4)) : ofB r i = 0 := if_neg fun k => h ⟨k.1, k.2.1, k.2.2.1, k.2.2.2.1⟩

theorem Of_calls (r i : Int) (w : World) : Calls Try.prog 8 #[.int .i64 r, .int .i64 i] w (Pure w (.int .i64 (ofB r i))) := by
  by_cases c : 0 ≤ r ∧ r ≤ 137438953472 ∧ 0 ≤ i ∧ i ≤ 4
  · obtain ⟨h1, h2, h3, h4⟩ := c
    have o8 := or8 r i h1 h2 h3 h4
    have w8 : wrap64 (r * 8) = r * 8 := by unfold wrap64; omega
    rw [w8] at o8
    cases hi : isB (r * 8 + i)
    · have fin := ofB_f hi
      go_enter Try.func8, Try.ntmps8
      go_wp2_with (first | (go_at_call 19; refine (is_calls _ (by omega) _).mono ?_; rintro e w' ⟨rfl, ⟨nd, rfl⟩⟩) | go_in)
      all_goals go_ret
      all_goals exact ⟨by simp [*], by repeat (first | exact Drew.same _ | apply Drew.more | apply Drew.one)⟩
    · have fin := ofB_t h1 h2 h3 h4 hi
      go_enter Try.func8, Try.ntmps8
      go_wp2_with (first | (go_at_call 19; refine (is_calls _ (by omega) _).mono ?_; rintro e w' ⟨rfl, ⟨nd, rfl⟩⟩) | go_in)
      all_goals go_ret
      all_goals exact ⟨by simp [*], by repeat (first | exact Drew.same _ | apply Drew.more | apply Drew.one)⟩
  · have fin := ofB_f1 c
    rcases (show r < 0 ∨ (0 ≤ r ∧ 137438953472 < r) ∨ (0 ≤ r ∧ r ≤ 137438953472 ∧ i < 0) ∨ (0 ≤ r ∧ r ≤ 137438953472 ∧ 0 ≤ i ∧ 4 < i) by omega) with h | ⟨h1, h2⟩ | ⟨h1, h2, h3⟩ | ⟨h1, h2, h3, h4⟩
    all_goals clear c
    all_goals go_enter Try.func8, Try.ntmps8
    all_goals go_wp2
    all_goals go_ret
    all_goals exact ⟨by simp [*], by repeat (first | exact Drew.same _ | apply Drew.more | apply Drew.one)⟩
theorem refOf_calls (r i : Int) (w : World) : Calls Try.prog 9 #[.int .i64 r, .int .i64 i] w (Pure w (.int .i64 (ofB r i))) := by
  by_cases c : 0 ≤ r ∧ r ≤ 137438953472 ∧ 0 ≤ i ∧ i ≤ 4
  · obtain ⟨h1, h2, h3, h4⟩ := c
    cases hi : isB (r * 8 + i)
    · have fin := ofB_f hi
      rw [show r * 8 = 8 * r by omega] at *
      go_enter Try.func9, Try.ntmps9
      go_wp2_with (first | (go_at_call 20; refine (is2_calls _ (by omega) _).mono ?_; rintro e w' ⟨rfl, ⟨nd, rfl⟩⟩) | go_in)
      all_goals go_ret
      all_goals exact ⟨by simp [*], by repeat (first | exact Drew.same _ | apply Drew.more | apply Drew.one)⟩
    · have fin := ofB_t h1 h2 h3 h4 hi
      rw [show r * 8 = 8 * r by omega] at *
      go_enter Try.func9, Try.ntmps9
      go_wp2_with (first | (go_at_call 20; refine (is2_calls _ (by omega) _).mono ?_; rintro e w' ⟨rfl, ⟨nd, rfl⟩⟩) | go_in)
      all_goals go_ret
      all_goals exact ⟨by simp [*], by repeat (first | exact Drew.same _ | apply Drew.more | apply Drew.one)⟩
  · have fin := ofB_f1 c
    rcases (show r < 0 ∨ (0 ≤ r ∧ 137438953472 < r) ∨ (0 ≤ r ∧ r ≤ 137438953472 ∧ i < 0) ∨ (0 ≤ r ∧ r ≤ 137438953472 ∧ 0 ≤ i ∧ 4 < i) by omega) with h | ⟨h1, h2⟩ | ⟨h1, h2, h3⟩ | ⟨h1, h2, h3, h4⟩
    all_goals clear c
    all_goals go_enter Try.func9, Try.ntmps9
    all_goals go_wp2
    all_goals go_ret
    all_goals exact ⟨by simp [*], by repeat (first | exact Drew.same _ | apply Drew.more | apply Drew.one)⟩

def nx2 (m i : Int) : Int := if m < ofB (m / 8) i then ofB (m / 8) i else if m < ofB (m / 8 + 1) i then ofB (m / 8 + 1) i else 0
def nx (b i : Int) : Int := if 1099511627776 ≤ b then 0 else nx2 (if b < 0 then 0 else b) i
theorem nx_far {b i : Int} (h : 1099511627776 ≤ b) : nx b i = 0 := if_pos h
theorem nx_at {b i : Int} (h : b < 1099511627776) : nx b i = nx2 (if b < 0 then 0 else b) i := if_neg (by omega)
theorem ofB_le (r i : Int) : 0 ≤ ofB r i ∧ ofB r i ≤ 1099511627776 := by
  unfold ofB
  split
  · rename_i h; have := (isB_iff _).1 h.2.2.2.2; omega
  · omega

theorem nx2_0 {m i : Int} (h : m < ofB (m / 8) i) : nx2 m i = ofB (m / 8) i := if_pos h
theorem nx2_1 {m i : Int} (h : ¬ m < ofB (m / 8) i) (h' : m < ofB (m / 8 + 1) i) : nx2 m i = ofB (m / 8 + 1) i := by unfold nx2; rw [if_neg h, if_pos h']
theorem nx2_2 {m i : Int} (h : ¬ m < ofB (m / 8) i) (h' : ¬ m < ofB (m / 8 + 1) i) : nx2 m i = 0 := by unfold nx2; rw [if_neg h, if_neg h']

theorem Next_calls (b i : Int) (w : World) : Calls Try.prog 15 #[.int .i64 b, .int .i64 i] w (Pure w (.int .i64 (nx b i))) := by
  by_cases c : 1099511627776 ≤ b
  · have fin := nx_far (i := i) c
    go_enter Try.func15, Try.ntmps15
    go_wp2
    all_goals go_ret
    all_goals exact ⟨by simp [*], by repeat (first | exact Drew.same _ | apply Drew.more | apply Drew.one)⟩
  · have fin := nx_at (i := i) (by omega : b < 1099511627776)
    obtain ⟨m, hm⟩ : ∃ m, (if b < 0 then 0 else b) = m := ⟨_, rfl⟩
    have hm0 : 0 ≤ m := by split at hm <;> omega
    have hm1 : m < 1099511627776 := by split at hm <;> omega
    rw [hm] at fin
    have l1 := ofB_le (m / 8) i
    have l2 := ofB_le (m / 8 + 1) i
    have hmx : (if b < 0 then 0 else b) = m := hm
    have FIN := Lib.hid fin
    clear fin hm
    go_enter Try.func15, Try.ntmps15
    go_wp2_with (go_at_call 8; refine (Of_calls _ _ _).mono ?_; rintro e w' ⟨rfl, ⟨nd, rfl⟩⟩)
    go_loopw [5] (fun r wr => ∃ q : Int, r = .int .i64 q ∧ Drew w wr ∧ (q = m / 8 ∨ (q = m / 8 + 1 ∧ ofB (m / 8) i ≤ m) ∨ (q = m / 8 + 2 ∧ ofB (m / 8) i ≤ m ∧ ofB (m / 8 + 1) i ≤ m))) (fun r _ => (m / 8 + 2 - intOf r).toNat)
    case atStart => exact ⟨_, rfl, Drew.same _, .inl rfl⟩
    case round =>
      obtain ⟨q, rfl, ⟨nd, rfl⟩, hq⟩ := hrel
      clear hmx
      rcases hq with rfl | ⟨rfl, hn⟩ | ⟨rfl, hn, hn'⟩
      · by_cases h1 : m < ofB (m / 8) i
        · have F2 := Lib.hid (FIN.out.trans (nx2_0 h1))
          go_wp2_with (go_at_call 8; refine (Of_calls _ _ _).mono ?_; rintro e w' ⟨rfl, ⟨nd, rfl⟩⟩)
          go_ret
          exact ⟨by rw [F2.out]; rfl, by repeat (first | exact Drew.same _ | apply Drew.more | apply Drew.one)⟩
        · go_wp2_with (go_at_call 8; refine (Of_calls _ _ _).mono ?_; rintro e w' ⟨rfl, ⟨nd, rfl⟩⟩)
          go_roundw
          case rel => exact ⟨_, rfl, by repeat (first | exact Drew.same _ | apply Drew.more | apply Drew.one), .inr (.inl ⟨rfl, h1⟩)⟩
          case measure => simp [intOf]; omega
      · by_cases h1 : m < ofB (m / 8 + 1) i
        · have F2 := Lib.hid (FIN.out.trans (nx2_1 (by omega) h1))
          go_wp2_with (go_at_call 8; refine (Of_calls _ _ _).mono ?_; rintro e w' ⟨rfl, ⟨nd, rfl⟩⟩)
          go_ret
          exact ⟨by rw [F2.out]; rfl, by repeat (first | exact Drew.same _ | apply Drew.more | apply Drew.one)⟩
        · go_wp2_with (go_at_call 8; refine (Of_calls _ _ _).mono ?_; rintro e w' ⟨rfl, ⟨nd, rfl⟩⟩)
          go_roundw
          case rel => exact ⟨_, rfl, by repeat (first | exact Drew.same _ | apply Drew.more | apply Drew.one), .inr (.inr ⟨by omega, hn, h1⟩)⟩
          case measure => simp [intOf]; omega
      · have F2 := Lib.hid (FIN.out.trans (nx2_2 (by omega) (by omega)))
        go_wp2_with (go_at_call 8; refine (Of_calls _ _ _).mono ?_; rintro e w' ⟨rfl, ⟨nd, rfl⟩⟩)
        go_ret
        exact ⟨by rw [F2.out]; rfl, by repeat (first | exact Drew.same _ | apply Drew.more | apply Drew.one)⟩
theorem Maj_calls (n : Int) (h : n ≤ 9223372036854775807) (w : World) : Calls Try.prog 17 #[.int .i64 n] w (Pure w (.int .i64 ((if n < 1 then 0 else n) / 2 + 1))) := by
  by_cases c : n < 1
  · by_cases c0 : n = 0
    · subst c0
      go_enter Try.func17, Try.ntmps17
      go_wp2
      all_goals go_ret
      all_goals exact ⟨by simp, by repeat (first | exact Drew.same _ | apply Drew.more | apply Drew.one)⟩
    · have c1 : n < 0 := by omega
      go_enter Try.func17, Try.ntmps17
      go_wp2
      all_goals go_ret
      all_goals exact ⟨by simp [*], by repeat (first | exact Drew.same _ | apply Drew.more | apply Drew.one)⟩
  · have c1 : ¬ n < 0 := by omega
    rw [if_neg c]
    go_enter Try.func17, Try.ntmps17
    go_wp2
    all_goals go_ret
    all_goals exact ⟨by simp [*], by repeat (first | exact Drew.same _ | apply Drew.more | apply Drew.one)⟩
theorem refMaj_calls (n : Int) (h : n ≤ 9223372036854775807) (w : World) : Calls Try.prog 18 #[.int .i64 n] w (Pure w (.int .i64 ((if n < 1 then 0 else n) / 2 + 1))) := by
  by_cases c : n < 1
  · rw [if_pos c]
    go_enter Try.func18, Try.ntmps18
    go_wp2
    all_goals go_ret
    all_goals exact ⟨by simp [*], by repeat (first | exact Drew.same _ | apply Drew.more | apply Drew.one)⟩
  · rw [if_neg c]
    go_enter Try.func18, Try.ntmps18
    go_wp2
    all_goals go_ret
    all_goals exact ⟨by simp [*], by repeat (first | exact Drew.same _ | apply Drew.more | apply Drew.one)⟩
end Go.Proofs.Ytcgbgnebemknjaa.A
