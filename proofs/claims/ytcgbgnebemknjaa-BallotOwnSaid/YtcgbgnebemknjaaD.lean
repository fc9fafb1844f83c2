/-
  The walk of BallotOwn.
-/
import Derived.Test.YtcgbgnebemknjaaC
import Derived.Laws.StructEq
namespace Go.Proofs.Ytcgbgnebemknjaa.A
open Go.RowKit Go.Proofs.Ytcgbgnebemknjaa.U
set_option linter.unusedVariables false
set_option linter.unusedSimpArgs false
theorem sz3 (w : World) : (sizeOf 3).run Try.prog w = Result.ok 1 w := by kernel_rfl
theorem part0 (a b : Int) (w : World) : (part 3 #[.int .i64 a, .int .i64 b] 0).run Try.prog w = Result.ok (.int .i64 a) w := by kernel_rfl
theorem part1 (a b : Int) (w : World) : (part 3 #[.int .i64 a, .int .i64 b] 1).run Try.prog w = Result.ok (.int .i64 b) w := by kernel_rfl
theorem arr_eqIn (k : Nat) (a b c d : Int) (w : World) : (Op.equalIn (k + 2) 26 (.agg #[.int .i64 a, .int .i64 b]) (.agg #[.int .i64 c, .int .i64 d])).run Try.prog w = Result.ok (a == c && b == d) w := by
  have i3 := fun (x y : Int) (w : World) => run_equalIn_int (P := Try.prog) w k 3 .i64 .i64 x y Try.underlying3
  rw [show k + 2 = (k + 1) + 1 from rfl, Op.equalIn]
  simp only [Sem.run_bind, run_underlying Try.underlying26, Result.andThen_ok, sz3, Std.Legacy.Range.forIn_eq_forIn_range', Std.Legacy.Range.size, Nat.sub_zero, Nat.add_sub_cancel, Nat.div_one, List.range', List.forIn_cons, List.forIn_nil, Nat.zero_mul, part0, i3, Sem.run_ite]
  cases h : a == c
  · simp [h]
  · simp [h, part1, i3]
    by_cases h' : b = d <;> simp [h']
theorem arr_eq (a b c d : Int) (w : World) : (binOp .eql 26 (.agg #[.int .i64 a, .int .i64 b]) (.agg #[.int .i64 c, .int .i64 d])).run Try.prog w = Result.ok (.bool (a == c && b == d)) w := by
  rw [run_eql_struct, show (10000 : Nat) = 9998 + 2 from rfl, arr_eqIn]
  rfl

theorem ofB_parts {a b : Int} (h : ofB a b ≠ 0) : partB (ofB a b) (ofB a b / 8) = a ∧ partB (ofB a b) (ofB a b % 8) = b ∧ ofB a b = a * 8 + b ∧ 0 ≤ b ∧ b ≤ 4 ∧ ofB a b ≤ 1099511627776 := by
  have l := ofB_le a b
  unfold ofB at h l ⊢
  split
  · rename_i k
    rw [if_pos k] at l
    rw [partB_t k.2.2.2.2, partB_t k.2.2.2.2]
    omega
  · rename_i k
    rw [if_neg k] at h
    exact absurd rfl h

theorem Own_calls (a b c d : Int) (w : World) : Calls Try.prog 5 #[.agg #[.int .i64 a, .int .i64 b], .agg #[.int .i64 c, .int .i64 d]] w (fun e w' => e = .returned (.bool true) ∧ Below w.heap.size w w') := by
  by_cases cx : ofB a b = 0
  · have cx' : (ofB a b == 0) = true := by simp [cx]
    clear cx
    go_enter Try.func5, Try.ntmps5
    go_wp2_with fail
    go_quiet ((go_at_call 8; exact Pure.q (Of_calls _ _ _)))
    go_wp2_with (go_at_call 14; refine (awake_calls _).mono ?_; rintro e w' ⟨rfl, ⟨nd, rfl⟩⟩)
    go_ret
    exact ⟨rfl, by repeat (first | exact Below.refl _ _ | apply bDrew | apply bDrewN | apply bAlloc)⟩
  · by_cases cy : ofB c d = 0
    · have cx' : (ofB a b == 0) = false := by simp [cx]
      have cy' : (ofB c d == 0) = true := by simp [cy]
      clear cx cy
      go_enter Try.func5, Try.ntmps5
      go_wp2_with fail
      go_quiet ((go_at_call 8; exact Pure.q (Of_calls _ _ _)))
      go_wp2_with (go_at_call 14; refine (awake_calls _).mono ?_; rintro e w' ⟨rfl, ⟨nd, rfl⟩⟩)
      go_ret
      exact ⟨rfl, by repeat (first | exact Below.refl _ _ | apply bDrew | apply bDrewN | apply bAlloc)⟩
    · obtain ⟨p1, p2, p3, p4, p5, p6⟩ := ofB_parts cx
      obtain ⟨q1, q2, q3, q4, q5, q6⟩ := ofB_parts cy
      have cx' : (ofB a b == 0) = false := by simp [cx]
      have cy' : (ofB c d == 0) = false := by simp [cy]
      have hE : ((ofB a b == ofB c d) == (a == c && b == d)) = true := by
        rw [p3, q3]
        by_cases h : a = c ∧ b = d
        · simp [h.1, h.2]
        · have h1 : (a * 8 + b == c * 8 + d) = false := by simp; omega
          have h2 : (a == c && b == d) = false := by simp; omega
          rw [h1, h2]; rfl
      have HR : ∀ w, Calls Try.prog 10 #[.int .i64 (ofB a b)] w (Pure w (.int .i64 a)) := fun w => by
        have := Round_calls (ofB a b) (by omega) w
        rwa [p1] at this
      have HI : ∀ w, Calls Try.prog 12 #[.int .i64 (ofB a b)] w (Pure w (.int .i64 b)) := fun w => by
        have := Id_calls (ofB a b) (by omega) w
        rwa [p2] at this
      have R := Lib.hid HR
      have I := Lib.hid HI
      have ae := arr_eq a b c d
      clear cx cy p1 p2 p3 p4 p5 p6 q1 q2 q3 q4 q5 q6 HR HI
      go_enter Try.func5, Try.ntmps5
      go_wp2_with fail
      go_quiet ((go_at_call 8; exact Pure.q (Of_calls _ _ _)))
      go_wp2_with fail
      go_quiet (first | (go_at_call 10; exact Pure.qa (R.out _)) | (go_at_call 12; exact Pure.qa (I.out _)) | (go_at_call 14; exact Pure.qa (awake_calls _)))
      go_wp2_with fail
      go_ret
      exact ⟨rfl, by repeat (first | exact Below.refl _ _ | apply bDrew | apply bDrewN | apply bAlloc)⟩
end Go.Proofs.Ytcgbgnebemknjaa.A
