/-
  The reference's May: kinds 0 to 4, and no kind. Printed by port_once.py out of lcod's texts.
-/
import Derived.Test.YthlfcinjmljbjaaS1
namespace Go.Proofs.Ythlfcinjmljbjaa.A
open Go.RowKit Go.Proofs.Ythlfcinjmljbjaa.U
set_option linter.unusedVariables false
set_option linter.unusedSimpArgs false
set_option maxRecDepth 100000


set_option maxHeartbeats 12800000 in
theorem rmay_1 (w : World) (s q n : Int) (nm : ByteArray) : Calls Try.prog 47 #[(Cmd.mk 1 s q nm n).val] w (maySpec (Cmd.mk 1 s q nm n) w) := by
  have hu := Try.underlying31
  have HI := fun w => within_calls w s 1 1073741824
  have HQ := fun w => within_calls w q 1 1073741824
  have HN := fun w => within_calls w n (1) 1099511627776
  by_cases hz : nm.size = 0
  · by_cases h0 : s = 0
    · by_cases h1 : q = 0
      · by_cases h3 : 1 ≤ n ∧ n ≤ 1099511627776
        · have he0 : (nm.toList == []) = true := by rw [size0 hz, ByteArray.toList_eq]; rfl
          have g1 : decide ((1 : Int) ≤ (nm.size : Int)) = false := decide_eq_false (by omega)
          have q0 : (s == 0) = true := by rw [beq_iff_eq]; exact h0
          have q1 : (q == 0) = true := by rw [beq_iff_eq]; exact h1
          rw [show inB n 1 1099511627776 = true from decide_eq_true h3] at HN
          generalize inB s 1 1073741824 = bi at HI
          generalize inB q 1 1073741824 = bq at HQ
          have HI' := Lib.hid HI
          have HQ' := Lib.hid HQ
          have HN' := Lib.hid HN
          have MM := Lib.hid (show mayB (Cmd.mk 1 s q nm n) = true from may_t (by have hnm := size0 hz; subst hnm; unfold MayP; simp; try omega))
          clear HI HQ HN
          clear h0 h1 h3
          unfold Cmd.val Cmd.cs
          have D1 := Blk.fresh w 31 #[.int .i64 1, .int .i64 s, .int .i64 q, .string nm, .int .i64 n]
          have K1 := Lib.hid ((Keep.same Nothing w).alloc (.cells #[.int .i64 1, .int .i64 s, .int .i64 q, .string nm, .int .i64 n] 31))
          have c0 := D1.cell 0
          have c1 := D1.cell 1
          have c2 := D1.cell 2
          have c3 := D1.cell 3
          have c4 := D1.cell 4
          clear D1
          go_enter Try.func47, Try.ntmps47
          go_wp2_with fail
          refine (HI'.out _).mono ?_
          rintro e w' ⟨rfl, rfl⟩
          go_wp2_with fail
          refine (HQ'.out _).mono ?_
          rintro e w' ⟨rfl, rfl⟩
          go_wp2_with fail
          refine (HN'.out _).mono ?_
          rintro e w' ⟨rfl, rfl⟩
          go_wp2_with fail
          go_ret
          exact ⟨by rw [MM.out]; rfl, K1.out⟩
        · have he0 : (nm.toList == []) = true := by rw [size0 hz, ByteArray.toList_eq]; rfl
          have g1 : decide ((1 : Int) ≤ (nm.size : Int)) = false := decide_eq_false (by omega)
          have q0 : (s == 0) = true := by rw [beq_iff_eq]; exact h0
          have q1 : (q == 0) = true := by rw [beq_iff_eq]; exact h1
          rw [show inB n 1 1099511627776 = false from decide_eq_false h3] at HN
          generalize inB s 1 1073741824 = bi at HI
          generalize inB q 1 1073741824 = bq at HQ
          have HI' := Lib.hid HI
          have HQ' := Lib.hid HQ
          have HN' := Lib.hid HN
          have MM := Lib.hid (show mayB (Cmd.mk 1 s q nm n) = false from may_f (by unfold MayP; simp only; omega))
          clear HI HQ HN
          clear h0 h1 h3
          unfold Cmd.val Cmd.cs
          have D1 := Blk.fresh w 31 #[.int .i64 1, .int .i64 s, .int .i64 q, .string nm, .int .i64 n]
          have K1 := Lib.hid ((Keep.same Nothing w).alloc (.cells #[.int .i64 1, .int .i64 s, .int .i64 q, .string nm, .int .i64 n] 31))
          have c0 := D1.cell 0
          have c1 := D1.cell 1
          have c2 := D1.cell 2
          have c3 := D1.cell 3
          have c4 := D1.cell 4
          clear D1
          go_enter Try.func47, Try.ntmps47
          go_wp2_with fail
          refine (HI'.out _).mono ?_
          rintro e w' ⟨rfl, rfl⟩
          go_wp2_with fail
          refine (HQ'.out _).mono ?_
          rintro e w' ⟨rfl, rfl⟩
          go_wp2_with fail
          refine (HN'.out _).mono ?_
          rintro e w' ⟨rfl, rfl⟩
          go_wp2_with fail
          go_ret
          exact ⟨by rw [MM.out]; rfl, K1.out⟩
      · have he0 : (nm.toList == []) = true := by rw [size0 hz, ByteArray.toList_eq]; rfl
        have g1 : decide ((1 : Int) ≤ (nm.size : Int)) = false := decide_eq_false (by omega)
        have q0 : (s == 0) = true := by rw [beq_iff_eq]; exact h0
        have q1 : (q == 0) = false := by rw [beq_eq_false_iff_ne]; exact h1
        generalize inB s 1 1073741824 = bi at HI
        generalize inB q 1 1073741824 = bq at HQ
        have HI' := Lib.hid HI
        have HQ' := Lib.hid HQ
        have MM := Lib.hid (show mayB (Cmd.mk 1 s q nm n) = false from may_f (by unfold MayP; simp only; omega))
        clear HI HQ HN
        clear h0 h1
        unfold Cmd.val Cmd.cs
        have D1 := Blk.fresh w 31 #[.int .i64 1, .int .i64 s, .int .i64 q, .string nm, .int .i64 n]
        have K1 := Lib.hid ((Keep.same Nothing w).alloc (.cells #[.int .i64 1, .int .i64 s, .int .i64 q, .string nm, .int .i64 n] 31))
        have c0 := D1.cell 0
        have c1 := D1.cell 1
        have c2 := D1.cell 2
        have c3 := D1.cell 3
        have c4 := D1.cell 4
        clear D1
        go_enter Try.func47, Try.ntmps47
        go_wp2_with fail
        refine (HI'.out _).mono ?_
        rintro e w' ⟨rfl, rfl⟩
        go_wp2_with fail
        refine (HQ'.out _).mono ?_
        rintro e w' ⟨rfl, rfl⟩
        go_wp2_with fail
        go_ret
        exact ⟨by rw [MM.out]; rfl, K1.out⟩
    · have he0 : (nm.toList == []) = true := by rw [size0 hz, ByteArray.toList_eq]; rfl
      have g1 : decide ((1 : Int) ≤ (nm.size : Int)) = false := decide_eq_false (by omega)
      have q0 : (s == 0) = false := by rw [beq_eq_false_iff_ne]; exact h0
      generalize inB s 1 1073741824 = bi at HI
      generalize inB q 1 1073741824 = bq at HQ
      have HI' := Lib.hid HI
      have HQ' := Lib.hid HQ
      have MM := Lib.hid (show mayB (Cmd.mk 1 s q nm n) = false from may_f (by unfold MayP; simp only; omega))
      clear HI HQ HN
      clear h0
      unfold Cmd.val Cmd.cs
      have D1 := Blk.fresh w 31 #[.int .i64 1, .int .i64 s, .int .i64 q, .string nm, .int .i64 n]
      have K1 := Lib.hid ((Keep.same Nothing w).alloc (.cells #[.int .i64 1, .int .i64 s, .int .i64 q, .string nm, .int .i64 n] 31))
      have c0 := D1.cell 0
      have c1 := D1.cell 1
      have c2 := D1.cell 2
      have c3 := D1.cell 3
      have c4 := D1.cell 4
      clear D1
      go_enter Try.func47, Try.ntmps47
      go_wp2_with fail
      refine (HI'.out _).mono ?_
      rintro e w' ⟨rfl, rfl⟩
      go_wp2_with fail
      refine (HQ'.out _).mono ?_
      rintro e w' ⟨rfl, rfl⟩
      go_wp2_with fail
      go_ret
      exact ⟨by rw [MM.out]; rfl, K1.out⟩
  · by_cases hm : nm.size ≤ 64
    · by_cases h0 : s = 0
      · by_cases h1 : q = 0
        · have he0 : (nm.toList == []) = false := list_ne (by omega)
          have g1 : decide ((1 : Int) ≤ (nm.size : Int)) = true := decide_eq_true (by omega)
          have g2 : decide ((nm.size : Int) ≤ 64) = true := decide_eq_true (by omega)
          have q0 : (s == 0) = true := by rw [beq_iff_eq]; exact h0
          have q1 : (q == 0) = true := by rw [beq_iff_eq]; exact h1
          generalize inB s 1 1073741824 = bi at HI
          generalize inB q 1 1073741824 = bq at HQ
          have HI' := Lib.hid HI
          have HQ' := Lib.hid HQ
          have MM := Lib.hid (show mayB (Cmd.mk 1 s q nm n) = false from may_f (by unfold MayP; simp only; omega))
          clear HI HQ HN
          clear h0 h1
          unfold Cmd.val Cmd.cs
          have D1 := Blk.fresh w 31 #[.int .i64 1, .int .i64 s, .int .i64 q, .string nm, .int .i64 n]
          have K1 := Lib.hid ((Keep.same Nothing w).alloc (.cells #[.int .i64 1, .int .i64 s, .int .i64 q, .string nm, .int .i64 n] 31))
          have c0 := D1.cell 0
          have c1 := D1.cell 1
          have c2 := D1.cell 2
          have c3 := D1.cell 3
          have c4 := D1.cell 4
          clear D1
          go_enter Try.func47, Try.ntmps47
          go_wp2_with fail
          refine (HI'.out _).mono ?_
          rintro e w' ⟨rfl, rfl⟩
          go_wp2_with fail
          refine (HQ'.out _).mono ?_
          rintro e w' ⟨rfl, rfl⟩
          go_wp2_with fail
          go_ret
          exact ⟨by rw [MM.out]; rfl, K1.out⟩
        · have he0 : (nm.toList == []) = false := list_ne (by omega)
          have g1 : decide ((1 : Int) ≤ (nm.size : Int)) = true := decide_eq_true (by omega)
          have g2 : decide ((nm.size : Int) ≤ 64) = true := decide_eq_true (by omega)
          have q0 : (s == 0) = true := by rw [beq_iff_eq]; exact h0
          have q1 : (q == 0) = false := by rw [beq_eq_false_iff_ne]; exact h1
          generalize inB s 1 1073741824 = bi at HI
          generalize inB q 1 1073741824 = bq at HQ
          have HI' := Lib.hid HI
          have HQ' := Lib.hid HQ
          have MM := Lib.hid (show mayB (Cmd.mk 1 s q nm n) = false from may_f (by unfold MayP; simp only; omega))
          clear HI HQ HN
          clear h0 h1
          unfold Cmd.val Cmd.cs
          have D1 := Blk.fresh w 31 #[.int .i64 1, .int .i64 s, .int .i64 q, .string nm, .int .i64 n]
          have K1 := Lib.hid ((Keep.same Nothing w).alloc (.cells #[.int .i64 1, .int .i64 s, .int .i64 q, .string nm, .int .i64 n] 31))
          have c0 := D1.cell 0
          have c1 := D1.cell 1
          have c2 := D1.cell 2
          have c3 := D1.cell 3
          have c4 := D1.cell 4
          clear D1
          go_enter Try.func47, Try.ntmps47
          go_wp2_with fail
          refine (HI'.out _).mono ?_
          rintro e w' ⟨rfl, rfl⟩
          go_wp2_with fail
          refine (HQ'.out _).mono ?_
          rintro e w' ⟨rfl, rfl⟩
          go_wp2_with fail
          go_ret
          exact ⟨by rw [MM.out]; rfl, K1.out⟩
      · have he0 : (nm.toList == []) = false := list_ne (by omega)
        have g1 : decide ((1 : Int) ≤ (nm.size : Int)) = true := decide_eq_true (by omega)
        have g2 : decide ((nm.size : Int) ≤ 64) = true := decide_eq_true (by omega)
        have q0 : (s == 0) = false := by rw [beq_eq_false_iff_ne]; exact h0
        generalize inB s 1 1073741824 = bi at HI
        generalize inB q 1 1073741824 = bq at HQ
        have HI' := Lib.hid HI
        have HQ' := Lib.hid HQ
        have MM := Lib.hid (show mayB (Cmd.mk 1 s q nm n) = false from may_f (by unfold MayP; simp only; omega))
        clear HI HQ HN
        clear h0
        unfold Cmd.val Cmd.cs
        have D1 := Blk.fresh w 31 #[.int .i64 1, .int .i64 s, .int .i64 q, .string nm, .int .i64 n]
        have K1 := Lib.hid ((Keep.same Nothing w).alloc (.cells #[.int .i64 1, .int .i64 s, .int .i64 q, .string nm, .int .i64 n] 31))
        have c0 := D1.cell 0
        have c1 := D1.cell 1
        have c2 := D1.cell 2
        have c3 := D1.cell 3
        have c4 := D1.cell 4
        clear D1
        go_enter Try.func47, Try.ntmps47
        go_wp2_with fail
        refine (HI'.out _).mono ?_
        rintro e w' ⟨rfl, rfl⟩
        go_wp2_with fail
        refine (HQ'.out _).mono ?_
        rintro e w' ⟨rfl, rfl⟩
        go_wp2_with fail
        go_ret
        exact ⟨by rw [MM.out]; rfl, K1.out⟩
    · by_cases h0 : s = 0
      · by_cases h1 : q = 0
        · have he0 : (nm.toList == []) = false := list_ne (by omega)
          have g1 : decide ((1 : Int) ≤ (nm.size : Int)) = true := decide_eq_true (by omega)
          have g2 : decide ((nm.size : Int) ≤ 64) = false := decide_eq_false (by omega)
          have q0 : (s == 0) = true := by rw [beq_iff_eq]; exact h0
          have q1 : (q == 0) = true := by rw [beq_iff_eq]; exact h1
          generalize inB s 1 1073741824 = bi at HI
          generalize inB q 1 1073741824 = bq at HQ
          have HI' := Lib.hid HI
          have HQ' := Lib.hid HQ
          have MM := Lib.hid (show mayB (Cmd.mk 1 s q nm n) = false from may_f (by unfold MayP; simp only; omega))
          clear HI HQ HN
          clear h0 h1
          unfold Cmd.val Cmd.cs
          have D1 := Blk.fresh w 31 #[.int .i64 1, .int .i64 s, .int .i64 q, .string nm, .int .i64 n]
          have K1 := Lib.hid ((Keep.same Nothing w).alloc (.cells #[.int .i64 1, .int .i64 s, .int .i64 q, .string nm, .int .i64 n] 31))
          have c0 := D1.cell 0
          have c1 := D1.cell 1
          have c2 := D1.cell 2
          have c3 := D1.cell 3
          have c4 := D1.cell 4
          clear D1
          go_enter Try.func47, Try.ntmps47
          go_wp2_with fail
          refine (HI'.out _).mono ?_
          rintro e w' ⟨rfl, rfl⟩
          go_wp2_with fail
          refine (HQ'.out _).mono ?_
          rintro e w' ⟨rfl, rfl⟩
          go_wp2_with fail
          go_ret
          exact ⟨by rw [MM.out]; rfl, K1.out⟩
        · have he0 : (nm.toList == []) = false := list_ne (by omega)
          have g1 : decide ((1 : Int) ≤ (nm.size : Int)) = true := decide_eq_true (by omega)
          have g2 : decide ((nm.size : Int) ≤ 64) = false := decide_eq_false (by omega)
          have q0 : (s == 0) = true := by rw [beq_iff_eq]; exact h0
          have q1 : (q == 0) = false := by rw [beq_eq_false_iff_ne]; exact h1
          generalize inB s 1 1073741824 = bi at HI
          generalize inB q 1 1073741824 = bq at HQ
          have HI' := Lib.hid HI
          have HQ' := Lib.hid HQ
          have MM := Lib.hid (show mayB (Cmd.mk 1 s q nm n) = false from may_f (by unfold MayP; simp only; omega))
          clear HI HQ HN
          clear h0 h1
          unfold Cmd.val Cmd.cs
          have D1 := Blk.fresh w 31 #[.int .i64 1, .int .i64 s, .int .i64 q, .string nm, .int .i64 n]
          have K1 := Lib.hid ((Keep.same Nothing w).alloc (.cells #[.int .i64 1, .int .i64 s, .int .i64 q, .string nm, .int .i64 n] 31))
          have c0 := D1.cell 0
          have c1 := D1.cell 1
          have c2 := D1.cell 2
          have c3 := D1.cell 3
          have c4 := D1.cell 4
          clear D1
          go_enter Try.func47, Try.ntmps47
          go_wp2_with fail
          refine (HI'.out _).mono ?_
          rintro e w' ⟨rfl, rfl⟩
          go_wp2_with fail
          refine (HQ'.out _).mono ?_
          rintro e w' ⟨rfl, rfl⟩
          go_wp2_with fail
          go_ret
          exact ⟨by rw [MM.out]; rfl, K1.out⟩
      · have he0 : (nm.toList == []) = false := list_ne (by omega)
        have g1 : decide ((1 : Int) ≤ (nm.size : Int)) = true := decide_eq_true (by omega)
        have g2 : decide ((nm.size : Int) ≤ 64) = false := decide_eq_false (by omega)
        have q0 : (s == 0) = false := by rw [beq_eq_false_iff_ne]; exact h0
        generalize inB s 1 1073741824 = bi at HI
        generalize inB q 1 1073741824 = bq at HQ
        have HI' := Lib.hid HI
        have HQ' := Lib.hid HQ
        have MM := Lib.hid (show mayB (Cmd.mk 1 s q nm n) = false from may_f (by unfold MayP; simp only; omega))
        clear HI HQ HN
        clear h0
        unfold Cmd.val Cmd.cs
        have D1 := Blk.fresh w 31 #[.int .i64 1, .int .i64 s, .int .i64 q, .string nm, .int .i64 n]
        have K1 := Lib.hid ((Keep.same Nothing w).alloc (.cells #[.int .i64 1, .int .i64 s, .int .i64 q, .string nm, .int .i64 n] 31))
        have c0 := D1.cell 0
        have c1 := D1.cell 1
        have c2 := D1.cell 2
        have c3 := D1.cell 3
        have c4 := D1.cell 4
        clear D1
        go_enter Try.func47, Try.ntmps47
        go_wp2_with fail
        refine (HI'.out _).mono ?_
        rintro e w' ⟨rfl, rfl⟩
        go_wp2_with fail
        refine (HQ'.out _).mono ?_
        rintro e w' ⟨rfl, rfl⟩
        go_wp2_with fail
        go_ret
        exact ⟨by rw [MM.out]; rfl, K1.out⟩
set_option maxHeartbeats 12800000 in
theorem rmay_2 (w : World) (s q n : Int) (nm : ByteArray) : Calls Try.prog 47 #[(Cmd.mk 2 s q nm n).val] w (maySpec (Cmd.mk 2 s q nm n) w) := by
  have hu := Try.underlying31
  have HI := fun w => within_calls w s 1 1073741824
  have HQ := fun w => within_calls w q 1 1073741824
  have HN := fun w => within_calls w n (0) 0
  have HS := fun w => within_calls w s 0 7
  by_cases hz : nm.size = 0
  · by_cases h0 : 0 ≤ s ∧ s ≤ 7
    · by_cases h1 : 1 ≤ q ∧ q ≤ 1073741824
      · by_cases h3 : n = 0
        · have he0 : (nm.toList == []) = true := by rw [size0 hz, ByteArray.toList_eq]; rfl
          have g1 : decide ((1 : Int) ≤ (nm.size : Int)) = false := decide_eq_false (by omega)
          have q3 : (n == 0) = true := by rw [beq_iff_eq]; exact h3
          rw [show inB s 0 7 = true from decide_eq_true h0] at HS
          rw [show inB q 1 1073741824 = true from decide_eq_true h1] at HQ
          generalize inB s 1 1073741824 = bi at HI
          have HI' := Lib.hid HI
          have HQ' := Lib.hid HQ
          have HS' := Lib.hid HS
          have MM := Lib.hid (show mayB (Cmd.mk 2 s q nm n) = true from may_t (by have hnm := size0 hz; subst hnm; unfold MayP; simp; try omega))
          clear HI HQ HS HN
          clear h0 h1 h3
          unfold Cmd.val Cmd.cs
          have D1 := Blk.fresh w 31 #[.int .i64 2, .int .i64 s, .int .i64 q, .string nm, .int .i64 n]
          have K1 := Lib.hid ((Keep.same Nothing w).alloc (.cells #[.int .i64 2, .int .i64 s, .int .i64 q, .string nm, .int .i64 n] 31))
          have c0 := D1.cell 0
          have c1 := D1.cell 1
          have c2 := D1.cell 2
          have c3 := D1.cell 3
          have c4 := D1.cell 4
          clear D1
          go_enter Try.func47, Try.ntmps47
          go_wp2_with fail
          refine (HI'.out _).mono ?_
          rintro e w' ⟨rfl, rfl⟩
          go_wp2_with fail
          refine (HQ'.out _).mono ?_
          rintro e w' ⟨rfl, rfl⟩
          go_wp2_with fail
          refine (HS'.out _).mono ?_
          rintro e w' ⟨rfl, rfl⟩
          go_wp2_with fail
          go_ret
          exact ⟨by rw [MM.out]; rfl, K1.out⟩
        · have he0 : (nm.toList == []) = true := by rw [size0 hz, ByteArray.toList_eq]; rfl
          have g1 : decide ((1 : Int) ≤ (nm.size : Int)) = false := decide_eq_false (by omega)
          have q3 : (n == 0) = false := by rw [beq_eq_false_iff_ne]; exact h3
          rw [show inB s 0 7 = true from decide_eq_true h0] at HS
          rw [show inB q 1 1073741824 = true from decide_eq_true h1] at HQ
          generalize inB s 1 1073741824 = bi at HI
          have HI' := Lib.hid HI
          have HQ' := Lib.hid HQ
          have HS' := Lib.hid HS
          have MM := Lib.hid (show mayB (Cmd.mk 2 s q nm n) = false from may_f (by unfold MayP; simp only; omega))
          clear HI HQ HS HN
          clear h0 h1 h3
          unfold Cmd.val Cmd.cs
          have D1 := Blk.fresh w 31 #[.int .i64 2, .int .i64 s, .int .i64 q, .string nm, .int .i64 n]
          have K1 := Lib.hid ((Keep.same Nothing w).alloc (.cells #[.int .i64 2, .int .i64 s, .int .i64 q, .string nm, .int .i64 n] 31))
          have c0 := D1.cell 0
          have c1 := D1.cell 1
          have c2 := D1.cell 2
          have c3 := D1.cell 3
          have c4 := D1.cell 4
          clear D1
          go_enter Try.func47, Try.ntmps47
          go_wp2_with fail
          refine (HI'.out _).mono ?_
          rintro e w' ⟨rfl, rfl⟩
          go_wp2_with fail
          refine (HQ'.out _).mono ?_
          rintro e w' ⟨rfl, rfl⟩
          go_wp2_with fail
          refine (HS'.out _).mono ?_
          rintro e w' ⟨rfl, rfl⟩
          go_wp2_with fail
          go_ret
          exact ⟨by rw [MM.out]; rfl, K1.out⟩
      · have he0 : (nm.toList == []) = true := by rw [size0 hz, ByteArray.toList_eq]; rfl
        have g1 : decide ((1 : Int) ≤ (nm.size : Int)) = false := decide_eq_false (by omega)
        rw [show inB s 0 7 = true from decide_eq_true h0] at HS
        rw [show inB q 1 1073741824 = false from decide_eq_false h1] at HQ
        generalize inB s 1 1073741824 = bi at HI
        have HI' := Lib.hid HI
        have HQ' := Lib.hid HQ
        have HS' := Lib.hid HS
        have MM := Lib.hid (show mayB (Cmd.mk 2 s q nm n) = false from may_f (by unfold MayP; simp only; omega))
        clear HI HQ HS HN
        clear h0 h1
        unfold Cmd.val Cmd.cs
        have D1 := Blk.fresh w 31 #[.int .i64 2, .int .i64 s, .int .i64 q, .string nm, .int .i64 n]
        have K1 := Lib.hid ((Keep.same Nothing w).alloc (.cells #[.int .i64 2, .int .i64 s, .int .i64 q, .string nm, .int .i64 n] 31))
        have c0 := D1.cell 0
        have c1 := D1.cell 1
        have c2 := D1.cell 2
        have c3 := D1.cell 3
        have c4 := D1.cell 4
        clear D1
        go_enter Try.func47, Try.ntmps47
        go_wp2_with fail
        refine (HI'.out _).mono ?_
        rintro e w' ⟨rfl, rfl⟩
        go_wp2_with fail
        refine (HQ'.out _).mono ?_
        rintro e w' ⟨rfl, rfl⟩
        go_wp2_with fail
        refine (HS'.out _).mono ?_
        rintro e w' ⟨rfl, rfl⟩
        go_wp2_with fail
        go_ret
        exact ⟨by rw [MM.out]; rfl, K1.out⟩
    · have he0 : (nm.toList == []) = true := by rw [size0 hz, ByteArray.toList_eq]; rfl
      have g1 : decide ((1 : Int) ≤ (nm.size : Int)) = false := decide_eq_false (by omega)
      rw [show inB s 0 7 = false from decide_eq_false h0] at HS
      generalize inB s 1 1073741824 = bi at HI
      generalize inB q 1 1073741824 = bq at HQ
      have HI' := Lib.hid HI
      have HQ' := Lib.hid HQ
      have HS' := Lib.hid HS
      have MM := Lib.hid (show mayB (Cmd.mk 2 s q nm n) = false from may_f (by unfold MayP; simp only; omega))
      clear HI HQ HS HN
      clear h0
      unfold Cmd.val Cmd.cs
      have D1 := Blk.fresh w 31 #[.int .i64 2, .int .i64 s, .int .i64 q, .string nm, .int .i64 n]
      have K1 := Lib.hid ((Keep.same Nothing w).alloc (.cells #[.int .i64 2, .int .i64 s, .int .i64 q, .string nm, .int .i64 n] 31))
      have c0 := D1.cell 0
      have c1 := D1.cell 1
      have c2 := D1.cell 2
      have c3 := D1.cell 3
      have c4 := D1.cell 4
      clear D1
      go_enter Try.func47, Try.ntmps47
      go_wp2_with fail
      refine (HI'.out _).mono ?_
      rintro e w' ⟨rfl, rfl⟩
      go_wp2_with fail
      refine (HQ'.out _).mono ?_
      rintro e w' ⟨rfl, rfl⟩
      go_wp2_with fail
      refine (HS'.out _).mono ?_
      rintro e w' ⟨rfl, rfl⟩
      go_wp2_with fail
      go_ret
      exact ⟨by rw [MM.out]; rfl, K1.out⟩
  · by_cases hm : nm.size ≤ 64
    · by_cases h0 : 0 ≤ s ∧ s ≤ 7
      · by_cases h1 : 1 ≤ q ∧ q ≤ 1073741824
        · have he0 : (nm.toList == []) = false := list_ne (by omega)
          have g1 : decide ((1 : Int) ≤ (nm.size : Int)) = true := decide_eq_true (by omega)
          have g2 : decide ((nm.size : Int) ≤ 64) = true := decide_eq_true (by omega)
          rw [show inB s 0 7 = true from decide_eq_true h0] at HS
          rw [show inB q 1 1073741824 = true from decide_eq_true h1] at HQ
          generalize inB s 1 1073741824 = bi at HI
          have HI' := Lib.hid HI
          have HQ' := Lib.hid HQ
          have HS' := Lib.hid HS
          have MM := Lib.hid (show mayB (Cmd.mk 2 s q nm n) = false from may_f (by unfold MayP; simp only; omega))
          clear HI HQ HS HN
          clear h0 h1
          unfold Cmd.val Cmd.cs
          have D1 := Blk.fresh w 31 #[.int .i64 2, .int .i64 s, .int .i64 q, .string nm, .int .i64 n]
          have K1 := Lib.hid ((Keep.same Nothing w).alloc (.cells #[.int .i64 2, .int .i64 s, .int .i64 q, .string nm, .int .i64 n] 31))
          have c0 := D1.cell 0
          have c1 := D1.cell 1
          have c2 := D1.cell 2
          have c3 := D1.cell 3
          have c4 := D1.cell 4
          clear D1
          go_enter Try.func47, Try.ntmps47
          go_wp2_with fail
          refine (HI'.out _).mono ?_
          rintro e w' ⟨rfl, rfl⟩
          go_wp2_with fail
          refine (HQ'.out _).mono ?_
          rintro e w' ⟨rfl, rfl⟩
          go_wp2_with fail
          refine (HS'.out _).mono ?_
          rintro e w' ⟨rfl, rfl⟩
          go_wp2_with fail
          go_ret
          exact ⟨by rw [MM.out]; rfl, K1.out⟩
        · have he0 : (nm.toList == []) = false := list_ne (by omega)
          have g1 : decide ((1 : Int) ≤ (nm.size : Int)) = true := decide_eq_true (by omega)
          have g2 : decide ((nm.size : Int) ≤ 64) = true := decide_eq_true (by omega)
          rw [show inB s 0 7 = true from decide_eq_true h0] at HS
          rw [show inB q 1 1073741824 = false from decide_eq_false h1] at HQ
          generalize inB s 1 1073741824 = bi at HI
          have HI' := Lib.hid HI
          have HQ' := Lib.hid HQ
          have HS' := Lib.hid HS
          have MM := Lib.hid (show mayB (Cmd.mk 2 s q nm n) = false from may_f (by unfold MayP; simp only; omega))
          clear HI HQ HS HN
          clear h0 h1
          unfold Cmd.val Cmd.cs
          have D1 := Blk.fresh w 31 #[.int .i64 2, .int .i64 s, .int .i64 q, .string nm, .int .i64 n]
          have K1 := Lib.hid ((Keep.same Nothing w).alloc (.cells #[.int .i64 2, .int .i64 s, .int .i64 q, .string nm, .int .i64 n] 31))
          have c0 := D1.cell 0
          have c1 := D1.cell 1
          have c2 := D1.cell 2
          have c3 := D1.cell 3
          have c4 := D1.cell 4
          clear D1
          go_enter Try.func47, Try.ntmps47
          go_wp2_with fail
          refine (HI'.out _).mono ?_
          rintro e w' ⟨rfl, rfl⟩
          go_wp2_with fail
          refine (HQ'.out _).mono ?_
          rintro e w' ⟨rfl, rfl⟩
          go_wp2_with fail
          refine (HS'.out _).mono ?_
          rintro e w' ⟨rfl, rfl⟩
          go_wp2_with fail
          go_ret
          exact ⟨by rw [MM.out]; rfl, K1.out⟩
      · have he0 : (nm.toList == []) = false := list_ne (by omega)
        have g1 : decide ((1 : Int) ≤ (nm.size : Int)) = true := decide_eq_true (by omega)
        have g2 : decide ((nm.size : Int) ≤ 64) = true := decide_eq_true (by omega)
        rw [show inB s 0 7 = false from decide_eq_false h0] at HS
        generalize inB s 1 1073741824 = bi at HI
        generalize inB q 1 1073741824 = bq at HQ
        have HI' := Lib.hid HI
        have HQ' := Lib.hid HQ
        have HS' := Lib.hid HS
        have MM := Lib.hid (show mayB (Cmd.mk 2 s q nm n) = false from may_f (by unfold MayP; simp only; omega))
        clear HI HQ HS HN
        clear h0
        unfold Cmd.val Cmd.cs
        have D1 := Blk.fresh w 31 #[.int .i64 2, .int .i64 s, .int .i64 q, .string nm, .int .i64 n]
        have K1 := Lib.hid ((Keep.same Nothing w).alloc (.cells #[.int .i64 2, .int .i64 s, .int .i64 q, .string nm, .int .i64 n] 31))
        have c0 := D1.cell 0
        have c1 := D1.cell 1
        have c2 := D1.cell 2
        have c3 := D1.cell 3
        have c4 := D1.cell 4
        clear D1
        go_enter Try.func47, Try.ntmps47
        go_wp2_with fail
        refine (HI'.out _).mono ?_
        rintro e w' ⟨rfl, rfl⟩
        go_wp2_with fail
        refine (HQ'.out _).mono ?_
        rintro e w' ⟨rfl, rfl⟩
        go_wp2_with fail
        refine (HS'.out _).mono ?_
        rintro e w' ⟨rfl, rfl⟩
        go_wp2_with fail
        go_ret
        exact ⟨by rw [MM.out]; rfl, K1.out⟩
    · by_cases h0 : 0 ≤ s ∧ s ≤ 7
      · by_cases h1 : 1 ≤ q ∧ q ≤ 1073741824
        · have he0 : (nm.toList == []) = false := list_ne (by omega)
          have g1 : decide ((1 : Int) ≤ (nm.size : Int)) = true := decide_eq_true (by omega)
          have g2 : decide ((nm.size : Int) ≤ 64) = false := decide_eq_false (by omega)
          rw [show inB s 0 7 = true from decide_eq_true h0] at HS
          rw [show inB q 1 1073741824 = true from decide_eq_true h1] at HQ
          generalize inB s 1 1073741824 = bi at HI
          have HI' := Lib.hid HI
          have HQ' := Lib.hid HQ
          have HS' := Lib.hid HS
          have MM := Lib.hid (show mayB (Cmd.mk 2 s q nm n) = false from may_f (by unfold MayP; simp only; omega))
          clear HI HQ HS HN
          clear h0 h1
          unfold Cmd.val Cmd.cs
          have D1 := Blk.fresh w 31 #[.int .i64 2, .int .i64 s, .int .i64 q, .string nm, .int .i64 n]
          have K1 := Lib.hid ((Keep.same Nothing w).alloc (.cells #[.int .i64 2, .int .i64 s, .int .i64 q, .string nm, .int .i64 n] 31))
          have c0 := D1.cell 0
          have c1 := D1.cell 1
          have c2 := D1.cell 2
          have c3 := D1.cell 3
          have c4 := D1.cell 4
          clear D1
          go_enter Try.func47, Try.ntmps47
          go_wp2_with fail
          refine (HI'.out _).mono ?_
          rintro e w' ⟨rfl, rfl⟩
          go_wp2_with fail
          refine (HQ'.out _).mono ?_
          rintro e w' ⟨rfl, rfl⟩
          go_wp2_with fail
          refine (HS'.out _).mono ?_
          rintro e w' ⟨rfl, rfl⟩
          go_wp2_with fail
          go_ret
          exact ⟨by rw [MM.out]; rfl, K1.out⟩
        · have he0 : (nm.toList == []) = false := list_ne (by omega)
          have g1 : decide ((1 : Int) ≤ (nm.size : Int)) = true := decide_eq_true (by omega)
          have g2 : decide ((nm.size : Int) ≤ 64) = false := decide_eq_false (by omega)
          rw [show inB s 0 7 = true from decide_eq_true h0] at HS
          rw [show inB q 1 1073741824 = false from decide_eq_false h1] at HQ
          generalize inB s 1 1073741824 = bi at HI
          have HI' := Lib.hid HI
          have HQ' := Lib.hid HQ
          have HS' := Lib.hid HS
          have MM := Lib.hid (show mayB (Cmd.mk 2 s q nm n) = false from may_f (by unfold MayP; simp only; omega))
          clear HI HQ HS HN
          clear h0 h1
          unfold Cmd.val Cmd.cs
          have D1 := Blk.fresh w 31 #[.int .i64 2, .int .i64 s, .int .i64 q, .string nm, .int .i64 n]
          have K1 := Lib.hid ((Keep.same Nothing w).alloc (.cells #[.int .i64 2, .int .i64 s, .int .i64 q, .string nm, .int .i64 n] 31))
          have c0 := D1.cell 0
          have c1 := D1.cell 1
          have c2 := D1.cell 2
          have c3 := D1.cell 3
          have c4 := D1.cell 4
          clear D1
          go_enter Try.func47, Try.ntmps47
          go_wp2_with fail
          refine (HI'.out _).mono ?_
          rintro e w' ⟨rfl, rfl⟩
          go_wp2_with fail
          refine (HQ'.out _).mono ?_
          rintro e w' ⟨rfl, rfl⟩
          go_wp2_with fail
          refine (HS'.out _).mono ?_
          rintro e w' ⟨rfl, rfl⟩
          go_wp2_with fail
          go_ret
          exact ⟨by rw [MM.out]; rfl, K1.out⟩
      · have he0 : (nm.toList == []) = false := list_ne (by omega)
        have g1 : decide ((1 : Int) ≤ (nm.size : Int)) = true := decide_eq_true (by omega)
        have g2 : decide ((nm.size : Int) ≤ 64) = false := decide_eq_false (by omega)
        rw [show inB s 0 7 = false from decide_eq_false h0] at HS
        generalize inB s 1 1073741824 = bi at HI
        generalize inB q 1 1073741824 = bq at HQ
        have HI' := Lib.hid HI
        have HQ' := Lib.hid HQ
        have HS' := Lib.hid HS
        have MM := Lib.hid (show mayB (Cmd.mk 2 s q nm n) = false from may_f (by unfold MayP; simp only; omega))
        clear HI HQ HS HN
        clear h0
        unfold Cmd.val Cmd.cs
        have D1 := Blk.fresh w 31 #[.int .i64 2, .int .i64 s, .int .i64 q, .string nm, .int .i64 n]
        have K1 := Lib.hid ((Keep.same Nothing w).alloc (.cells #[.int .i64 2, .int .i64 s, .int .i64 q, .string nm, .int .i64 n] 31))
        have c0 := D1.cell 0
        have c1 := D1.cell 1
        have c2 := D1.cell 2
        have c3 := D1.cell 3
        have c4 := D1.cell 4
        clear D1
        go_enter Try.func47, Try.ntmps47
        go_wp2_with fail
        refine (HI'.out _).mono ?_
        rintro e w' ⟨rfl, rfl⟩
        go_wp2_with fail
        refine (HQ'.out _).mono ?_
        rintro e w' ⟨rfl, rfl⟩
        go_wp2_with fail
        refine (HS'.out _).mono ?_
        rintro e w' ⟨rfl, rfl⟩
        go_wp2_with fail
        go_ret
        exact ⟨by rw [MM.out]; rfl, K1.out⟩
set_option maxHeartbeats 12800000 in
theorem rmay_3 (w : World) (s q n : Int) (nm : ByteArray) : Calls Try.prog 47 #[(Cmd.mk 3 s q nm n).val] w (maySpec (Cmd.mk 3 s q nm n) w) := by
  have hu := Try.underlying31
  have HI := fun w => within_calls w s 1 1073741824
  have HQ := fun w => within_calls w q 1 1073741824
  have HN := fun w => within_calls w n (0) 0
  by_cases hz : nm.size = 0
  · by_cases h0 : 1 ≤ s ∧ s ≤ 1073741824
    · by_cases h1 : 1 ≤ q ∧ q ≤ 1073741824
      · by_cases h3 : n = 0
        · have he0 : (nm.toList == []) = true := by rw [size0 hz, ByteArray.toList_eq]; rfl
          have g1 : decide ((1 : Int) ≤ (nm.size : Int)) = false := decide_eq_false (by omega)
          have q3 : (n == 0) = true := by rw [beq_iff_eq]; exact h3
          rw [show inB s 1 1073741824 = true from decide_eq_true h0] at HI
          rw [show inB q 1 1073741824 = true from decide_eq_true h1] at HQ
          have HI' := Lib.hid HI
          have HQ' := Lib.hid HQ
          have MM := Lib.hid (show mayB (Cmd.mk 3 s q nm n) = true from may_t (by have hnm := size0 hz; subst hnm; unfold MayP; simp; try omega))
          clear HI HQ HN
          clear h0 h1 h3
          unfold Cmd.val Cmd.cs
          have D1 := Blk.fresh w 31 #[.int .i64 3, .int .i64 s, .int .i64 q, .string nm, .int .i64 n]
          have K1 := Lib.hid ((Keep.same Nothing w).alloc (.cells #[.int .i64 3, .int .i64 s, .int .i64 q, .string nm, .int .i64 n] 31))
          have c0 := D1.cell 0
          have c1 := D1.cell 1
          have c2 := D1.cell 2
          have c3 := D1.cell 3
          have c4 := D1.cell 4
          clear D1
          go_enter Try.func47, Try.ntmps47
          go_wp2_with fail
          refine (HI'.out _).mono ?_
          rintro e w' ⟨rfl, rfl⟩
          go_wp2_with fail
          refine (HQ'.out _).mono ?_
          rintro e w' ⟨rfl, rfl⟩
          go_wp2_with fail
          go_ret
          exact ⟨by rw [MM.out]; rfl, K1.out⟩
        · have he0 : (nm.toList == []) = true := by rw [size0 hz, ByteArray.toList_eq]; rfl
          have g1 : decide ((1 : Int) ≤ (nm.size : Int)) = false := decide_eq_false (by omega)
          have q3 : (n == 0) = false := by rw [beq_eq_false_iff_ne]; exact h3
          rw [show inB s 1 1073741824 = true from decide_eq_true h0] at HI
          rw [show inB q 1 1073741824 = true from decide_eq_true h1] at HQ
          have HI' := Lib.hid HI
          have HQ' := Lib.hid HQ
          have MM := Lib.hid (show mayB (Cmd.mk 3 s q nm n) = false from may_f (by unfold MayP; simp only; omega))
          clear HI HQ HN
          clear h0 h1 h3
          unfold Cmd.val Cmd.cs
          have D1 := Blk.fresh w 31 #[.int .i64 3, .int .i64 s, .int .i64 q, .string nm, .int .i64 n]
          have K1 := Lib.hid ((Keep.same Nothing w).alloc (.cells #[.int .i64 3, .int .i64 s, .int .i64 q, .string nm, .int .i64 n] 31))
          have c0 := D1.cell 0
          have c1 := D1.cell 1
          have c2 := D1.cell 2
          have c3 := D1.cell 3
          have c4 := D1.cell 4
          clear D1
          go_enter Try.func47, Try.ntmps47
          go_wp2_with fail
          refine (HI'.out _).mono ?_
          rintro e w' ⟨rfl, rfl⟩
          go_wp2_with fail
          refine (HQ'.out _).mono ?_
          rintro e w' ⟨rfl, rfl⟩
          go_wp2_with fail
          go_ret
          exact ⟨by rw [MM.out]; rfl, K1.out⟩
      · have he0 : (nm.toList == []) = true := by rw [size0 hz, ByteArray.toList_eq]; rfl
        have g1 : decide ((1 : Int) ≤ (nm.size : Int)) = false := decide_eq_false (by omega)
        rw [show inB s 1 1073741824 = true from decide_eq_true h0] at HI
        rw [show inB q 1 1073741824 = false from decide_eq_false h1] at HQ
        have HI' := Lib.hid HI
        have HQ' := Lib.hid HQ
        have MM := Lib.hid (show mayB (Cmd.mk 3 s q nm n) = false from may_f (by unfold MayP; simp only; omega))
        clear HI HQ HN
        clear h0 h1
        unfold Cmd.val Cmd.cs
        have D1 := Blk.fresh w 31 #[.int .i64 3, .int .i64 s, .int .i64 q, .string nm, .int .i64 n]
        have K1 := Lib.hid ((Keep.same Nothing w).alloc (.cells #[.int .i64 3, .int .i64 s, .int .i64 q, .string nm, .int .i64 n] 31))
        have c0 := D1.cell 0
        have c1 := D1.cell 1
        have c2 := D1.cell 2
        have c3 := D1.cell 3
        have c4 := D1.cell 4
        clear D1
        go_enter Try.func47, Try.ntmps47
        go_wp2_with fail
        refine (HI'.out _).mono ?_
        rintro e w' ⟨rfl, rfl⟩
        go_wp2_with fail
        refine (HQ'.out _).mono ?_
        rintro e w' ⟨rfl, rfl⟩
        go_wp2_with fail
        go_ret
        exact ⟨by rw [MM.out]; rfl, K1.out⟩
    · have he0 : (nm.toList == []) = true := by rw [size0 hz, ByteArray.toList_eq]; rfl
      have g1 : decide ((1 : Int) ≤ (nm.size : Int)) = false := decide_eq_false (by omega)
      rw [show inB s 1 1073741824 = false from decide_eq_false h0] at HI
      generalize inB q 1 1073741824 = bq at HQ
      have HI' := Lib.hid HI
      have HQ' := Lib.hid HQ
      have MM := Lib.hid (show mayB (Cmd.mk 3 s q nm n) = false from may_f (by unfold MayP; simp only; omega))
      clear HI HQ HN
      clear h0
      unfold Cmd.val Cmd.cs
      have D1 := Blk.fresh w 31 #[.int .i64 3, .int .i64 s, .int .i64 q, .string nm, .int .i64 n]
      have K1 := Lib.hid ((Keep.same Nothing w).alloc (.cells #[.int .i64 3, .int .i64 s, .int .i64 q, .string nm, .int .i64 n] 31))
      have c0 := D1.cell 0
      have c1 := D1.cell 1
      have c2 := D1.cell 2
      have c3 := D1.cell 3
      have c4 := D1.cell 4
      clear D1
      go_enter Try.func47, Try.ntmps47
      go_wp2_with fail
      refine (HI'.out _).mono ?_
      rintro e w' ⟨rfl, rfl⟩
      go_wp2_with fail
      refine (HQ'.out _).mono ?_
      rintro e w' ⟨rfl, rfl⟩
      go_wp2_with fail
      go_ret
      exact ⟨by rw [MM.out]; rfl, K1.out⟩
  · by_cases hm : nm.size ≤ 64
    · by_cases h0 : 1 ≤ s ∧ s ≤ 1073741824
      · by_cases h1 : 1 ≤ q ∧ q ≤ 1073741824
        · have he0 : (nm.toList == []) = false := list_ne (by omega)
          have g1 : decide ((1 : Int) ≤ (nm.size : Int)) = true := decide_eq_true (by omega)
          have g2 : decide ((nm.size : Int) ≤ 64) = true := decide_eq_true (by omega)
          rw [show inB s 1 1073741824 = true from decide_eq_true h0] at HI
          rw [show inB q 1 1073741824 = true from decide_eq_true h1] at HQ
          have HI' := Lib.hid HI
          have HQ' := Lib.hid HQ
          have MM := Lib.hid (show mayB (Cmd.mk 3 s q nm n) = false from may_f (by unfold MayP; simp only; omega))
          clear HI HQ HN
          clear h0 h1
          unfold Cmd.val Cmd.cs
          have D1 := Blk.fresh w 31 #[.int .i64 3, .int .i64 s, .int .i64 q, .string nm, .int .i64 n]
          have K1 := Lib.hid ((Keep.same Nothing w).alloc (.cells #[.int .i64 3, .int .i64 s, .int .i64 q, .string nm, .int .i64 n] 31))
          have c0 := D1.cell 0
          have c1 := D1.cell 1
          have c2 := D1.cell 2
          have c3 := D1.cell 3
          have c4 := D1.cell 4
          clear D1
          go_enter Try.func47, Try.ntmps47
          go_wp2_with fail
          refine (HI'.out _).mono ?_
          rintro e w' ⟨rfl, rfl⟩
          go_wp2_with fail
          refine (HQ'.out _).mono ?_
          rintro e w' ⟨rfl, rfl⟩
          go_wp2_with fail
          go_ret
          exact ⟨by rw [MM.out]; rfl, K1.out⟩
        · have he0 : (nm.toList == []) = false := list_ne (by omega)
          have g1 : decide ((1 : Int) ≤ (nm.size : Int)) = true := decide_eq_true (by omega)
          have g2 : decide ((nm.size : Int) ≤ 64) = true := decide_eq_true (by omega)
          rw [show inB s 1 1073741824 = true from decide_eq_true h0] at HI
          rw [show inB q 1 1073741824 = false from decide_eq_false h1] at HQ
          have HI' := Lib.hid HI
          have HQ' := Lib.hid HQ
          have MM := Lib.hid (show mayB (Cmd.mk 3 s q nm n) = false from may_f (by unfold MayP; simp only; omega))
          clear HI HQ HN
          clear h0 h1
          unfold Cmd.val Cmd.cs
          have D1 := Blk.fresh w 31 #[.int .i64 3, .int .i64 s, .int .i64 q, .string nm, .int .i64 n]
          have K1 := Lib.hid ((Keep.same Nothing w).alloc (.cells #[.int .i64 3, .int .i64 s, .int .i64 q, .string nm, .int .i64 n] 31))
          have c0 := D1.cell 0
          have c1 := D1.cell 1
          have c2 := D1.cell 2
          have c3 := D1.cell 3
          have c4 := D1.cell 4
          clear D1
          go_enter Try.func47, Try.ntmps47
          go_wp2_with fail
          refine (HI'.out _).mono ?_
          rintro e w' ⟨rfl, rfl⟩
          go_wp2_with fail
          refine (HQ'.out _).mono ?_
          rintro e w' ⟨rfl, rfl⟩
          go_wp2_with fail
          go_ret
          exact ⟨by rw [MM.out]; rfl, K1.out⟩
      · have he0 : (nm.toList == []) = false := list_ne (by omega)
        have g1 : decide ((1 : Int) ≤ (nm.size : Int)) = true := decide_eq_true (by omega)
        have g2 : decide ((nm.size : Int) ≤ 64) = true := decide_eq_true (by omega)
        rw [show inB s 1 1073741824 = false from decide_eq_false h0] at HI
        generalize inB q 1 1073741824 = bq at HQ
        have HI' := Lib.hid HI
        have HQ' := Lib.hid HQ
        have MM := Lib.hid (show mayB (Cmd.mk 3 s q nm n) = false from may_f (by unfold MayP; simp only; omega))
        clear HI HQ HN
        clear h0
        unfold Cmd.val Cmd.cs
        have D1 := Blk.fresh w 31 #[.int .i64 3, .int .i64 s, .int .i64 q, .string nm, .int .i64 n]
        have K1 := Lib.hid ((Keep.same Nothing w).alloc (.cells #[.int .i64 3, .int .i64 s, .int .i64 q, .string nm, .int .i64 n] 31))
        have c0 := D1.cell 0
        have c1 := D1.cell 1
        have c2 := D1.cell 2
        have c3 := D1.cell 3
        have c4 := D1.cell 4
        clear D1
        go_enter Try.func47, Try.ntmps47
        go_wp2_with fail
        refine (HI'.out _).mono ?_
        rintro e w' ⟨rfl, rfl⟩
        go_wp2_with fail
        refine (HQ'.out _).mono ?_
        rintro e w' ⟨rfl, rfl⟩
        go_wp2_with fail
        go_ret
        exact ⟨by rw [MM.out]; rfl, K1.out⟩
    · by_cases h0 : 1 ≤ s ∧ s ≤ 1073741824
      · by_cases h1 : 1 ≤ q ∧ q ≤ 1073741824
        · have he0 : (nm.toList == []) = false := list_ne (by omega)
          have g1 : decide ((1 : Int) ≤ (nm.size : Int)) = true := decide_eq_true (by omega)
          have g2 : decide ((nm.size : Int) ≤ 64) = false := decide_eq_false (by omega)
          rw [show inB s 1 1073741824 = true from decide_eq_true h0] at HI
          rw [show inB q 1 1073741824 = true from decide_eq_true h1] at HQ
          have HI' := Lib.hid HI
          have HQ' := Lib.hid HQ
          have MM := Lib.hid (show mayB (Cmd.mk 3 s q nm n) = false from may_f (by unfold MayP; simp only; omega))
          clear HI HQ HN
          clear h0 h1
          unfold Cmd.val Cmd.cs
          have D1 := Blk.fresh w 31 #[.int .i64 3, .int .i64 s, .int .i64 q, .string nm, .int .i64 n]
          have K1 := Lib.hid ((Keep.same Nothing w).alloc (.cells #[.int .i64 3, .int .i64 s, .int .i64 q, .string nm, .int .i64 n] 31))
          have c0 := D1.cell 0
          have c1 := D1.cell 1
          have c2 := D1.cell 2
          have c3 := D1.cell 3
          have c4 := D1.cell 4
          clear D1
          go_enter Try.func47, Try.ntmps47
          go_wp2_with fail
          refine (HI'.out _).mono ?_
          rintro e w' ⟨rfl, rfl⟩
          go_wp2_with fail
          refine (HQ'.out _).mono ?_
          rintro e w' ⟨rfl, rfl⟩
          go_wp2_with fail
          go_ret
          exact ⟨by rw [MM.out]; rfl, K1.out⟩
        · have he0 : (nm.toList == []) = false := list_ne (by omega)
          have g1 : decide ((1 : Int) ≤ (nm.size : Int)) = true := decide_eq_true (by omega)
          have g2 : decide ((nm.size : Int) ≤ 64) = false := decide_eq_false (by omega)
          rw [show inB s 1 1073741824 = true from decide_eq_true h0] at HI
          rw [show inB q 1 1073741824 = false from decide_eq_false h1] at HQ
          have HI' := Lib.hid HI
          have HQ' := Lib.hid HQ
          have MM := Lib.hid (show mayB (Cmd.mk 3 s q nm n) = false from may_f (by unfold MayP; simp only; omega))
          clear HI HQ HN
          clear h0 h1
          unfold Cmd.val Cmd.cs
          have D1 := Blk.fresh w 31 #[.int .i64 3, .int .i64 s, .int .i64 q, .string nm, .int .i64 n]
          have K1 := Lib.hid ((Keep.same Nothing w).alloc (.cells #[.int .i64 3, .int .i64 s, .int .i64 q, .string nm, .int .i64 n] 31))
          have c0 := D1.cell 0
          have c1 := D1.cell 1
          have c2 := D1.cell 2
          have c3 := D1.cell 3
          have c4 := D1.cell 4
          clear D1
          go_enter Try.func47, Try.ntmps47
          go_wp2_with fail
          refine (HI'.out _).mono ?_
          rintro e w' ⟨rfl, rfl⟩
          go_wp2_with fail
          refine (HQ'.out _).mono ?_
          rintro e w' ⟨rfl, rfl⟩
          go_wp2_with fail
          go_ret
          exact ⟨by rw [MM.out]; rfl, K1.out⟩
      · have he0 : (nm.toList == []) = false := list_ne (by omega)
        have g1 : decide ((1 : Int) ≤ (nm.size : Int)) = true := decide_eq_true (by omega)
        have g2 : decide ((nm.size : Int) ≤ 64) = false := decide_eq_false (by omega)
        rw [show inB s 1 1073741824 = false from decide_eq_false h0] at HI
        generalize inB q 1 1073741824 = bq at HQ
        have HI' := Lib.hid HI
        have HQ' := Lib.hid HQ
        have MM := Lib.hid (show mayB (Cmd.mk 3 s q nm n) = false from may_f (by unfold MayP; simp only; omega))
        clear HI HQ HN
        clear h0
        unfold Cmd.val Cmd.cs
        have D1 := Blk.fresh w 31 #[.int .i64 3, .int .i64 s, .int .i64 q, .string nm, .int .i64 n]
        have K1 := Lib.hid ((Keep.same Nothing w).alloc (.cells #[.int .i64 3, .int .i64 s, .int .i64 q, .string nm, .int .i64 n] 31))
        have c0 := D1.cell 0
        have c1 := D1.cell 1
        have c2 := D1.cell 2
        have c3 := D1.cell 3
        have c4 := D1.cell 4
        clear D1
        go_enter Try.func47, Try.ntmps47
        go_wp2_with fail
        refine (HI'.out _).mono ?_
        rintro e w' ⟨rfl, rfl⟩
        go_wp2_with fail
        refine (HQ'.out _).mono ?_
        rintro e w' ⟨rfl, rfl⟩
        go_wp2_with fail
        go_ret
        exact ⟨by rw [MM.out]; rfl, K1.out⟩
set_option maxHeartbeats 12800000 in
theorem rmay_4 (w : World) (s q n : Int) (nm : ByteArray) : Calls Try.prog 47 #[(Cmd.mk 4 s q nm n).val] w (maySpec (Cmd.mk 4 s q nm n) w) := by
  have hu := Try.underlying31
  have HI := fun w => within_calls w s 1 1073741824
  have HQ := fun w => within_calls w q 1 1073741824
  have HN := fun w => within_calls w n (1) 1099511627776
  by_cases hz : nm.size = 0
  · by_cases h0 : 1 ≤ s ∧ s ≤ 1073741824
    · by_cases h1 : q = 0
      · by_cases h3 : 1 ≤ n ∧ n ≤ 1099511627776
        · have he0 : (nm.toList == []) = true := by rw [size0 hz, ByteArray.toList_eq]; rfl
          have g1 : decide ((1 : Int) ≤ (nm.size : Int)) = false := decide_eq_false (by omega)
          have q1 : (q == 0) = true := by rw [beq_iff_eq]; exact h1
          rw [show inB s 1 1073741824 = true from decide_eq_true h0] at HI
          rw [show inB n 1 1099511627776 = true from decide_eq_true h3] at HN
          generalize inB q 1 1073741824 = bq at HQ
          have HI' := Lib.hid HI
          have HQ' := Lib.hid HQ
          have HN' := Lib.hid HN
          have MM := Lib.hid (show mayB (Cmd.mk 4 s q nm n) = true from may_t (by have hnm := size0 hz; subst hnm; unfold MayP; simp; try omega))
          clear HI HQ HN
          clear h0 h1 h3
          unfold Cmd.val Cmd.cs
          have D1 := Blk.fresh w 31 #[.int .i64 4, .int .i64 s, .int .i64 q, .string nm, .int .i64 n]
          have K1 := Lib.hid ((Keep.same Nothing w).alloc (.cells #[.int .i64 4, .int .i64 s, .int .i64 q, .string nm, .int .i64 n] 31))
          have c0 := D1.cell 0
          have c1 := D1.cell 1
          have c2 := D1.cell 2
          have c3 := D1.cell 3
          have c4 := D1.cell 4
          clear D1
          go_enter Try.func47, Try.ntmps47
          go_wp2_with fail
          refine (HI'.out _).mono ?_
          rintro e w' ⟨rfl, rfl⟩
          go_wp2_with fail
          refine (HQ'.out _).mono ?_
          rintro e w' ⟨rfl, rfl⟩
          go_wp2_with fail
          refine (HN'.out _).mono ?_
          rintro e w' ⟨rfl, rfl⟩
          go_wp2_with fail
          go_ret
          exact ⟨by rw [MM.out]; rfl, K1.out⟩
        · have he0 : (nm.toList == []) = true := by rw [size0 hz, ByteArray.toList_eq]; rfl
          have g1 : decide ((1 : Int) ≤ (nm.size : Int)) = false := decide_eq_false (by omega)
          have q1 : (q == 0) = true := by rw [beq_iff_eq]; exact h1
          rw [show inB s 1 1073741824 = true from decide_eq_true h0] at HI
          rw [show inB n 1 1099511627776 = false from decide_eq_false h3] at HN
          generalize inB q 1 1073741824 = bq at HQ
          have HI' := Lib.hid HI
          have HQ' := Lib.hid HQ
          have HN' := Lib.hid HN
          have MM := Lib.hid (show mayB (Cmd.mk 4 s q nm n) = false from may_f (by unfold MayP; simp only; omega))
          clear HI HQ HN
          clear h0 h1 h3
          unfold Cmd.val Cmd.cs
          have D1 := Blk.fresh w 31 #[.int .i64 4, .int .i64 s, .int .i64 q, .string nm, .int .i64 n]
          have K1 := Lib.hid ((Keep.same Nothing w).alloc (.cells #[.int .i64 4, .int .i64 s, .int .i64 q, .string nm, .int .i64 n] 31))
          have c0 := D1.cell 0
          have c1 := D1.cell 1
          have c2 := D1.cell 2
          have c3 := D1.cell 3
          have c4 := D1.cell 4
          clear D1
          go_enter Try.func47, Try.ntmps47
          go_wp2_with fail
          refine (HI'.out _).mono ?_
          rintro e w' ⟨rfl, rfl⟩
          go_wp2_with fail
          refine (HQ'.out _).mono ?_
          rintro e w' ⟨rfl, rfl⟩
          go_wp2_with fail
          refine (HN'.out _).mono ?_
          rintro e w' ⟨rfl, rfl⟩
          go_wp2_with fail
          go_ret
          exact ⟨by rw [MM.out]; rfl, K1.out⟩
      · have he0 : (nm.toList == []) = true := by rw [size0 hz, ByteArray.toList_eq]; rfl
        have g1 : decide ((1 : Int) ≤ (nm.size : Int)) = false := decide_eq_false (by omega)
        have q1 : (q == 0) = false := by rw [beq_eq_false_iff_ne]; exact h1
        rw [show inB s 1 1073741824 = true from decide_eq_true h0] at HI
        generalize inB q 1 1073741824 = bq at HQ
        have HI' := Lib.hid HI
        have HQ' := Lib.hid HQ
        have MM := Lib.hid (show mayB (Cmd.mk 4 s q nm n) = false from may_f (by unfold MayP; simp only; omega))
        clear HI HQ HN
        clear h0 h1
        unfold Cmd.val Cmd.cs
        have D1 := Blk.fresh w 31 #[.int .i64 4, .int .i64 s, .int .i64 q, .string nm, .int .i64 n]
        have K1 := Lib.hid ((Keep.same Nothing w).alloc (.cells #[.int .i64 4, .int .i64 s, .int .i64 q, .string nm, .int .i64 n] 31))
        have c0 := D1.cell 0
        have c1 := D1.cell 1
        have c2 := D1.cell 2
        have c3 := D1.cell 3
        have c4 := D1.cell 4
        clear D1
        go_enter Try.func47, Try.ntmps47
        go_wp2_with fail
        refine (HI'.out _).mono ?_
        rintro e w' ⟨rfl, rfl⟩
        go_wp2_with fail
        refine (HQ'.out _).mono ?_
        rintro e w' ⟨rfl, rfl⟩
        go_wp2_with fail
        go_ret
        exact ⟨by rw [MM.out]; rfl, K1.out⟩
    · have he0 : (nm.toList == []) = true := by rw [size0 hz, ByteArray.toList_eq]; rfl
      have g1 : decide ((1 : Int) ≤ (nm.size : Int)) = false := decide_eq_false (by omega)
      rw [show inB s 1 1073741824 = false from decide_eq_false h0] at HI
      generalize inB q 1 1073741824 = bq at HQ
      have HI' := Lib.hid HI
      have HQ' := Lib.hid HQ
      have MM := Lib.hid (show mayB (Cmd.mk 4 s q nm n) = false from may_f (by unfold MayP; simp only; omega))
      clear HI HQ HN
      clear h0
      unfold Cmd.val Cmd.cs
      have D1 := Blk.fresh w 31 #[.int .i64 4, .int .i64 s, .int .i64 q, .string nm, .int .i64 n]
      have K1 := Lib.hid ((Keep.same Nothing w).alloc (.cells #[.int .i64 4, .int .i64 s, .int .i64 q, .string nm, .int .i64 n] 31))
      have c0 := D1.cell 0
      have c1 := D1.cell 1
      have c2 := D1.cell 2
      have c3 := D1.cell 3
      have c4 := D1.cell 4
      clear D1
      go_enter Try.func47, Try.ntmps47
      go_wp2_with fail
      refine (HI'.out _).mono ?_
      rintro e w' ⟨rfl, rfl⟩
      go_wp2_with fail
      refine (HQ'.out _).mono ?_
      rintro e w' ⟨rfl, rfl⟩
      go_wp2_with fail
      go_ret
      exact ⟨by rw [MM.out]; rfl, K1.out⟩
  · by_cases hm : nm.size ≤ 64
    · by_cases h0 : 1 ≤ s ∧ s ≤ 1073741824
      · by_cases h1 : q = 0
        · have he0 : (nm.toList == []) = false := list_ne (by omega)
          have g1 : decide ((1 : Int) ≤ (nm.size : Int)) = true := decide_eq_true (by omega)
          have g2 : decide ((nm.size : Int) ≤ 64) = true := decide_eq_true (by omega)
          have q1 : (q == 0) = true := by rw [beq_iff_eq]; exact h1
          rw [show inB s 1 1073741824 = true from decide_eq_true h0] at HI
          generalize inB q 1 1073741824 = bq at HQ
          have HI' := Lib.hid HI
          have HQ' := Lib.hid HQ
          have MM := Lib.hid (show mayB (Cmd.mk 4 s q nm n) = false from may_f (by unfold MayP; simp only; omega))
          clear HI HQ HN
          clear h0 h1
          unfold Cmd.val Cmd.cs
          have D1 := Blk.fresh w 31 #[.int .i64 4, .int .i64 s, .int .i64 q, .string nm, .int .i64 n]
          have K1 := Lib.hid ((Keep.same Nothing w).alloc (.cells #[.int .i64 4, .int .i64 s, .int .i64 q, .string nm, .int .i64 n] 31))
          have c0 := D1.cell 0
          have c1 := D1.cell 1
          have c2 := D1.cell 2
          have c3 := D1.cell 3
          have c4 := D1.cell 4
          clear D1
          go_enter Try.func47, Try.ntmps47
          go_wp2_with fail
          refine (HI'.out _).mono ?_
          rintro e w' ⟨rfl, rfl⟩
          go_wp2_with fail
          refine (HQ'.out _).mono ?_
          rintro e w' ⟨rfl, rfl⟩
          go_wp2_with fail
          go_ret
          exact ⟨by rw [MM.out]; rfl, K1.out⟩
        · have he0 : (nm.toList == []) = false := list_ne (by omega)
          have g1 : decide ((1 : Int) ≤ (nm.size : Int)) = true := decide_eq_true (by omega)
          have g2 : decide ((nm.size : Int) ≤ 64) = true := decide_eq_true (by omega)
          have q1 : (q == 0) = false := by rw [beq_eq_false_iff_ne]; exact h1
          rw [show inB s 1 1073741824 = true from decide_eq_true h0] at HI
          generalize inB q 1 1073741824 = bq at HQ
          have HI' := Lib.hid HI
          have HQ' := Lib.hid HQ
          have MM := Lib.hid (show mayB (Cmd.mk 4 s q nm n) = false from may_f (by unfold MayP; simp only; omega))
          clear HI HQ HN
          clear h0 h1
          unfold Cmd.val Cmd.cs
          have D1 := Blk.fresh w 31 #[.int .i64 4, .int .i64 s, .int .i64 q, .string nm, .int .i64 n]
          have K1 := Lib.hid ((Keep.same Nothing w).alloc (.cells #[.int .i64 4, .int .i64 s, .int .i64 q, .string nm, .int .i64 n] 31))
          have c0 := D1.cell 0
          have c1 := D1.cell 1
          have c2 := D1.cell 2
          have c3 := D1.cell 3
          have c4 := D1.cell 4
          clear D1
          go_enter Try.func47, Try.ntmps47
          go_wp2_with fail
          refine (HI'.out _).mono ?_
          rintro e w' ⟨rfl, rfl⟩
          go_wp2_with fail
          refine (HQ'.out _).mono ?_
          rintro e w' ⟨rfl, rfl⟩
          go_wp2_with fail
          go_ret
          exact ⟨by rw [MM.out]; rfl, K1.out⟩
      · have he0 : (nm.toList == []) = false := list_ne (by omega)
        have g1 : decide ((1 : Int) ≤ (nm.size : Int)) = true := decide_eq_true (by omega)
        have g2 : decide ((nm.size : Int) ≤ 64) = true := decide_eq_true (by omega)
        rw [show inB s 1 1073741824 = false from decide_eq_false h0] at HI
        generalize inB q 1 1073741824 = bq at HQ
        have HI' := Lib.hid HI
        have HQ' := Lib.hid HQ
        have MM := Lib.hid (show mayB (Cmd.mk 4 s q nm n) = false from may_f (by unfold MayP; simp only; omega))
        clear HI HQ HN
        clear h0
        unfold Cmd.val Cmd.cs
        have D1 := Blk.fresh w 31 #[.int .i64 4, .int .i64 s, .int .i64 q, .string nm, .int .i64 n]
        have K1 := Lib.hid ((Keep.same Nothing w).alloc (.cells #[.int .i64 4, .int .i64 s, .int .i64 q, .string nm, .int .i64 n] 31))
        have c0 := D1.cell 0
        have c1 := D1.cell 1
        have c2 := D1.cell 2
        have c3 := D1.cell 3
        have c4 := D1.cell 4
        clear D1
        go_enter Try.func47, Try.ntmps47
        go_wp2_with fail
        refine (HI'.out _).mono ?_
        rintro e w' ⟨rfl, rfl⟩
        go_wp2_with fail
        refine (HQ'.out _).mono ?_
        rintro e w' ⟨rfl, rfl⟩
        go_wp2_with fail
        go_ret
        exact ⟨by rw [MM.out]; rfl, K1.out⟩
    · by_cases h0 : 1 ≤ s ∧ s ≤ 1073741824
      · by_cases h1 : q = 0
        · have he0 : (nm.toList == []) = false := list_ne (by omega)
          have g1 : decide ((1 : Int) ≤ (nm.size : Int)) = true := decide_eq_true (by omega)
          have g2 : decide ((nm.size : Int) ≤ 64) = false := decide_eq_false (by omega)
          have q1 : (q == 0) = true := by rw [beq_iff_eq]; exact h1
          rw [show inB s 1 1073741824 = true from decide_eq_true h0] at HI
          generalize inB q 1 1073741824 = bq at HQ
          have HI' := Lib.hid HI
          have HQ' := Lib.hid HQ
          have MM := Lib.hid (show mayB (Cmd.mk 4 s q nm n) = false from may_f (by unfold MayP; simp only; omega))
          clear HI HQ HN
          clear h0 h1
          unfold Cmd.val Cmd.cs
          have D1 := Blk.fresh w 31 #[.int .i64 4, .int .i64 s, .int .i64 q, .string nm, .int .i64 n]
          have K1 := Lib.hid ((Keep.same Nothing w).alloc (.cells #[.int .i64 4, .int .i64 s, .int .i64 q, .string nm, .int .i64 n] 31))
          have c0 := D1.cell 0
          have c1 := D1.cell 1
          have c2 := D1.cell 2
          have c3 := D1.cell 3
          have c4 := D1.cell 4
          clear D1
          go_enter Try.func47, Try.ntmps47
          go_wp2_with fail
          refine (HI'.out _).mono ?_
          rintro e w' ⟨rfl, rfl⟩
          go_wp2_with fail
          refine (HQ'.out _).mono ?_
          rintro e w' ⟨rfl, rfl⟩
          go_wp2_with fail
          go_ret
          exact ⟨by rw [MM.out]; rfl, K1.out⟩
        · have he0 : (nm.toList == []) = false := list_ne (by omega)
          have g1 : decide ((1 : Int) ≤ (nm.size : Int)) = true := decide_eq_true (by omega)
          have g2 : decide ((nm.size : Int) ≤ 64) = false := decide_eq_false (by omega)
          have q1 : (q == 0) = false := by rw [beq_eq_false_iff_ne]; exact h1
          rw [show inB s 1 1073741824 = true from decide_eq_true h0] at HI
          generalize inB q 1 1073741824 = bq at HQ
          have HI' := Lib.hid HI
          have HQ' := Lib.hid HQ
          have MM := Lib.hid (show mayB (Cmd.mk 4 s q nm n) = false from may_f (by unfold MayP; simp only; omega))
          clear HI HQ HN
          clear h0 h1
          unfold Cmd.val Cmd.cs
          have D1 := Blk.fresh w 31 #[.int .i64 4, .int .i64 s, .int .i64 q, .string nm, .int .i64 n]
          have K1 := Lib.hid ((Keep.same Nothing w).alloc (.cells #[.int .i64 4, .int .i64 s, .int .i64 q, .string nm, .int .i64 n] 31))
          have c0 := D1.cell 0
          have c1 := D1.cell 1
          have c2 := D1.cell 2
          have c3 := D1.cell 3
          have c4 := D1.cell 4
          clear D1
          go_enter Try.func47, Try.ntmps47
          go_wp2_with fail
          refine (HI'.out _).mono ?_
          rintro e w' ⟨rfl, rfl⟩
          go_wp2_with fail
          refine (HQ'.out _).mono ?_
          rintro e w' ⟨rfl, rfl⟩
          go_wp2_with fail
          go_ret
          exact ⟨by rw [MM.out]; rfl, K1.out⟩
      · have he0 : (nm.toList == []) = false := list_ne (by omega)
        have g1 : decide ((1 : Int) ≤ (nm.size : Int)) = true := decide_eq_true (by omega)
        have g2 : decide ((nm.size : Int) ≤ 64) = false := decide_eq_false (by omega)
        rw [show inB s 1 1073741824 = false from decide_eq_false h0] at HI
        generalize inB q 1 1073741824 = bq at HQ
        have HI' := Lib.hid HI
        have HQ' := Lib.hid HQ
        have MM := Lib.hid (show mayB (Cmd.mk 4 s q nm n) = false from may_f (by unfold MayP; simp only; omega))
        clear HI HQ HN
        clear h0
        unfold Cmd.val Cmd.cs
        have D1 := Blk.fresh w 31 #[.int .i64 4, .int .i64 s, .int .i64 q, .string nm, .int .i64 n]
        have K1 := Lib.hid ((Keep.same Nothing w).alloc (.cells #[.int .i64 4, .int .i64 s, .int .i64 q, .string nm, .int .i64 n] 31))
        have c0 := D1.cell 0
        have c1 := D1.cell 1
        have c2 := D1.cell 2
        have c3 := D1.cell 3
        have c4 := D1.cell 4
        clear D1
        go_enter Try.func47, Try.ntmps47
        go_wp2_with fail
        refine (HI'.out _).mono ?_
        rintro e w' ⟨rfl, rfl⟩
        go_wp2_with fail
        refine (HQ'.out _).mono ?_
        rintro e w' ⟨rfl, rfl⟩
        go_wp2_with fail
        go_ret
        exact ⟨by rw [MM.out]; rfl, K1.out⟩

set_option maxHeartbeats 12800000 in
theorem rmay_other (w : World) (k s q n : Int) (nm : ByteArray) (h : k < 0 ∨ 12 < k) : Calls Try.prog 47 #[(Cmd.mk k s q nm n).val] w (maySpec (Cmd.mk k s q nm n) w) := by
  have hu := Try.underlying31
  have M := Lib.hid (may_f (c := Cmd.mk k s q nm n) (by unfold MayP; simp only; omega))
  have k0 : (k == 0) = false := by rw [beq_eq_false_iff_ne]; omega
  have k1 : (k == 1) = false := by rw [beq_eq_false_iff_ne]; omega
  have k2 : (k == 2) = false := by rw [beq_eq_false_iff_ne]; omega
  have k3 : (k == 3) = false := by rw [beq_eq_false_iff_ne]; omega
  have k4 : (k == 4) = false := by rw [beq_eq_false_iff_ne]; omega
  have k5 : (k == 5) = false := by rw [beq_eq_false_iff_ne]; omega
  have k6 : (k == 6) = false := by rw [beq_eq_false_iff_ne]; omega
  have k7 : (k == 7) = false := by rw [beq_eq_false_iff_ne]; omega
  have k8 : (k == 8) = false := by rw [beq_eq_false_iff_ne]; omega
  have k9 : (k == 9) = false := by rw [beq_eq_false_iff_ne]; omega
  have k10 : (k == 10) = false := by rw [beq_eq_false_iff_ne]; omega
  have k11 : (k == 11) = false := by rw [beq_eq_false_iff_ne]; omega
  have k12 : (k == 12) = false := by rw [beq_eq_false_iff_ne]; omega
  clear h
  by_cases hz : nm.size = 0
  · have he0 : (nm.toList == []) = true := by rw [size0 hz, ByteArray.toList_eq]; rfl
    have g1 : decide ((1 : Int) ≤ (nm.size : Int)) = false := decide_eq_false (by omega)
    have HI := fun w => within_calls w s 1 1073741824
    have HQ := fun w => within_calls w q 1 1073741824
    generalize inB s 1 1073741824 = bi at HI
    generalize inB q 1 1073741824 = bq at HQ
    have HI' := Lib.hid HI
    have HQ' := Lib.hid HQ
    clear HI HQ
    unfold Cmd.val Cmd.cs
    have D1 := Blk.fresh w 31 #[.int .i64 k, .int .i64 s, .int .i64 q, .string nm, .int .i64 n]
    have K1 := Lib.hid ((Keep.same Nothing w).alloc (.cells #[.int .i64 k, .int .i64 s, .int .i64 q, .string nm, .int .i64 n] 31))
    have c0 := D1.cell 0
    have c1 := D1.cell 1
    have c2 := D1.cell 2
    have c3 := D1.cell 3
    have c4 := D1.cell 4
    clear D1
    go_enter Try.func47, Try.ntmps47
    go_wp2_with fail
    refine (HI'.out _).mono ?_
    rintro e w' ⟨rfl, rfl⟩
    go_wp2_with fail
    refine (HQ'.out _).mono ?_
    rintro e w' ⟨rfl, rfl⟩
    go_wp2_with fail
    all_goals go_ret
    all_goals exact ⟨by rw [M.out]; rfl, K1.out⟩
  · by_cases hm : nm.size ≤ 64
    · have he0 : (nm.toList == []) = false := list_ne (by omega)
      have g1 : decide ((1 : Int) ≤ (nm.size : Int)) = true := decide_eq_true (by omega)
      have g2 : decide ((nm.size : Int) ≤ 64) = true := decide_eq_true (by omega)
      have HI := fun w => within_calls w s 1 1073741824
      have HQ := fun w => within_calls w q 1 1073741824
      generalize inB s 1 1073741824 = bi at HI
      generalize inB q 1 1073741824 = bq at HQ
      have HI' := Lib.hid HI
      have HQ' := Lib.hid HQ
      clear HI HQ
      unfold Cmd.val Cmd.cs
      have D1 := Blk.fresh w 31 #[.int .i64 k, .int .i64 s, .int .i64 q, .string nm, .int .i64 n]
      have K1 := Lib.hid ((Keep.same Nothing w).alloc (.cells #[.int .i64 k, .int .i64 s, .int .i64 q, .string nm, .int .i64 n] 31))
      have c0 := D1.cell 0
      have c1 := D1.cell 1
      have c2 := D1.cell 2
      have c3 := D1.cell 3
      have c4 := D1.cell 4
      clear D1
      go_enter Try.func47, Try.ntmps47
      go_wp2_with fail
      refine (HI'.out _).mono ?_
      rintro e w' ⟨rfl, rfl⟩
      go_wp2_with fail
      refine (HQ'.out _).mono ?_
      rintro e w' ⟨rfl, rfl⟩
      go_wp2_with fail
      all_goals go_ret
      all_goals exact ⟨by rw [M.out]; rfl, K1.out⟩
    · have he0 : (nm.toList == []) = false := list_ne (by omega)
      have g1 : decide ((1 : Int) ≤ (nm.size : Int)) = true := decide_eq_true (by omega)
      have g2 : decide ((nm.size : Int) ≤ 64) = false := decide_eq_false (by omega)
      have HI := fun w => within_calls w s 1 1073741824
      have HQ := fun w => within_calls w q 1 1073741824
      generalize inB s 1 1073741824 = bi at HI
      generalize inB q 1 1073741824 = bq at HQ
      have HI' := Lib.hid HI
      have HQ' := Lib.hid HQ
      clear HI HQ
      unfold Cmd.val Cmd.cs
      have D1 := Blk.fresh w 31 #[.int .i64 k, .int .i64 s, .int .i64 q, .string nm, .int .i64 n]
      have K1 := Lib.hid ((Keep.same Nothing w).alloc (.cells #[.int .i64 k, .int .i64 s, .int .i64 q, .string nm, .int .i64 n] 31))
      have c0 := D1.cell 0
      have c1 := D1.cell 1
      have c2 := D1.cell 2
      have c3 := D1.cell 3
      have c4 := D1.cell 4
      clear D1
      go_enter Try.func47, Try.ntmps47
      go_wp2_with fail
      refine (HI'.out _).mono ?_
      rintro e w' ⟨rfl, rfl⟩
      go_wp2_with fail
      refine (HQ'.out _).mono ?_
      rintro e w' ⟨rfl, rfl⟩
      go_wp2_with fail
      all_goals go_ret
      all_goals exact ⟨by rw [M.out]; rfl, K1.out⟩
set_option maxHeartbeats 12800000 in
theorem rmay_0 (w : World) (s q n : Int) (nm : ByteArray) : Calls Try.prog 47 #[(Cmd.mk 0 s q nm n).val] w (maySpec (Cmd.mk 0 s q nm n) w) := by
  have hu := Try.underlying31
  by_cases hs : s = 0
  · subst hs
    by_cases hq : q = 0
    · subst hq
      by_cases hz : nm.size = 0
      · have he := size0 hz
        subst he
        by_cases hn : n = 0
        · subst hn
          have M := Lib.hid (may_t (c := Cmd.mk 0 0 0 ByteArray.empty 0) (by decide))
          clear hz
          have HI := fun w => within_calls w 0 1 1073741824
          have HQ := fun w => within_calls w 0 1 1073741824
          generalize inB 0 1 1073741824 = bi at HI
          generalize inB 0 1 1073741824 = bq at HQ
          have HI' := Lib.hid HI
          have HQ' := Lib.hid HQ
          clear HI HQ
          unfold Cmd.val Cmd.cs
          have D1 := Blk.fresh w 31 #[.int .i64 0, .int .i64 0, .int .i64 0, .string ByteArray.empty, .int .i64 0]
          have K1 := Lib.hid ((Keep.same Nothing w).alloc (.cells #[.int .i64 0, .int .i64 0, .int .i64 0, .string ByteArray.empty, .int .i64 0] 31))
          have c0 := D1.cell 0
          have c1 := D1.cell 1
          have c2 := D1.cell 2
          have c3 := D1.cell 3
          have c4 := D1.cell 4
          clear D1
          go_enter Try.func47, Try.ntmps47
          go_wp2_with fail
          refine (HI'.out _).mono ?_
          rintro e w' ⟨rfl, rfl⟩
          go_wp2_with fail
          refine (HQ'.out _).mono ?_
          rintro e w' ⟨rfl, rfl⟩
          go_wp2_with fail
          all_goals go_ret
          all_goals exact ⟨by rw [M.out]; rfl, K1.out⟩
        · have M := Lib.hid (may_f (c := Cmd.mk 0 0 0 ByteArray.empty n) (by unfold MayP; simp only; omega))
          have gn : (n == 0) = false := by rw [beq_eq_false_iff_ne]; exact hn
          clear hz
          have HI := fun w => within_calls w 0 1 1073741824
          have HQ := fun w => within_calls w 0 1 1073741824
          generalize inB 0 1 1073741824 = bi at HI
          generalize inB 0 1 1073741824 = bq at HQ
          have HI' := Lib.hid HI
          have HQ' := Lib.hid HQ
          clear HI HQ
          unfold Cmd.val Cmd.cs
          have D1 := Blk.fresh w 31 #[.int .i64 0, .int .i64 0, .int .i64 0, .string ByteArray.empty, .int .i64 n]
          have K1 := Lib.hid ((Keep.same Nothing w).alloc (.cells #[.int .i64 0, .int .i64 0, .int .i64 0, .string ByteArray.empty, .int .i64 n] 31))
          have c0 := D1.cell 0
          have c1 := D1.cell 1
          have c2 := D1.cell 2
          have c3 := D1.cell 3
          have c4 := D1.cell 4
          clear D1
          go_enter Try.func47, Try.ntmps47
          go_wp2_with fail
          refine (HI'.out _).mono ?_
          rintro e w' ⟨rfl, rfl⟩
          go_wp2_with fail
          refine (HQ'.out _).mono ?_
          rintro e w' ⟨rfl, rfl⟩
          go_wp2_with fail
          all_goals go_ret
          all_goals exact ⟨by rw [M.out]; rfl, K1.out⟩
      · by_cases hm : nm.size ≤ 64
        · have M := Lib.hid (may_f (c := Cmd.mk 0 0 0 nm n) (by unfold MayP; simp only; omega))
          have he0 : (nm.toList == []) = false := list_ne (by omega)
          have g1 : decide ((1 : Int) ≤ (nm.size : Int)) = true := decide_eq_true (by omega)
          have g2 : decide ((nm.size : Int) ≤ 64) = true := decide_eq_true (by omega)
          have HI := fun w => within_calls w 0 1 1073741824
          have HQ := fun w => within_calls w 0 1 1073741824
          generalize inB 0 1 1073741824 = bi at HI
          generalize inB 0 1 1073741824 = bq at HQ
          have HI' := Lib.hid HI
          have HQ' := Lib.hid HQ
          clear HI HQ
          unfold Cmd.val Cmd.cs
          have D1 := Blk.fresh w 31 #[.int .i64 0, .int .i64 0, .int .i64 0, .string nm, .int .i64 n]
          have K1 := Lib.hid ((Keep.same Nothing w).alloc (.cells #[.int .i64 0, .int .i64 0, .int .i64 0, .string nm, .int .i64 n] 31))
          have c0 := D1.cell 0
          have c1 := D1.cell 1
          have c2 := D1.cell 2
          have c3 := D1.cell 3
          have c4 := D1.cell 4
          clear D1
          go_enter Try.func47, Try.ntmps47
          go_wp2_with fail
          refine (HI'.out _).mono ?_
          rintro e w' ⟨rfl, rfl⟩
          go_wp2_with fail
          refine (HQ'.out _).mono ?_
          rintro e w' ⟨rfl, rfl⟩
          go_wp2_with fail
          all_goals go_ret
          all_goals exact ⟨by rw [M.out]; rfl, K1.out⟩
        · have M := Lib.hid (may_f (c := Cmd.mk 0 0 0 nm n) (by unfold MayP; simp only; omega))
          have he0 : (nm.toList == []) = false := list_ne (by omega)
          have g1 : decide ((1 : Int) ≤ (nm.size : Int)) = true := decide_eq_true (by omega)
          have g2 : decide ((nm.size : Int) ≤ 64) = false := decide_eq_false (by omega)
          have HI := fun w => within_calls w 0 1 1073741824
          have HQ := fun w => within_calls w 0 1 1073741824
          generalize inB 0 1 1073741824 = bi at HI
          generalize inB 0 1 1073741824 = bq at HQ
          have HI' := Lib.hid HI
          have HQ' := Lib.hid HQ
          clear HI HQ
          unfold Cmd.val Cmd.cs
          have D1 := Blk.fresh w 31 #[.int .i64 0, .int .i64 0, .int .i64 0, .string nm, .int .i64 n]
          have K1 := Lib.hid ((Keep.same Nothing w).alloc (.cells #[.int .i64 0, .int .i64 0, .int .i64 0, .string nm, .int .i64 n] 31))
          have c0 := D1.cell 0
          have c1 := D1.cell 1
          have c2 := D1.cell 2
          have c3 := D1.cell 3
          have c4 := D1.cell 4
          clear D1
          go_enter Try.func47, Try.ntmps47
          go_wp2_with fail
          refine (HI'.out _).mono ?_
          rintro e w' ⟨rfl, rfl⟩
          go_wp2_with fail
          refine (HQ'.out _).mono ?_
          rintro e w' ⟨rfl, rfl⟩
          go_wp2_with fail
          all_goals go_ret
          all_goals exact ⟨by rw [M.out]; rfl, K1.out⟩
    · have M := Lib.hid (may_f (c := Cmd.mk 0 0 q nm n) (by unfold MayP; simp only; omega))
      have gq : (q == 0) = false := by rw [beq_eq_false_iff_ne]; exact hq
      by_cases hz : nm.size = 0
      · have he0 : (nm.toList == []) = true := by rw [size0 hz, ByteArray.toList_eq]; rfl
        have g1 : decide ((1 : Int) ≤ (nm.size : Int)) = false := decide_eq_false (by omega)
        have HI := fun w => within_calls w 0 1 1073741824
        have HQ := fun w => within_calls w q 1 1073741824
        generalize inB 0 1 1073741824 = bi at HI
        generalize inB q 1 1073741824 = bq at HQ
        have HI' := Lib.hid HI
        have HQ' := Lib.hid HQ
        clear HI HQ
        unfold Cmd.val Cmd.cs
        have D1 := Blk.fresh w 31 #[.int .i64 0, .int .i64 0, .int .i64 q, .string nm, .int .i64 n]
        have K1 := Lib.hid ((Keep.same Nothing w).alloc (.cells #[.int .i64 0, .int .i64 0, .int .i64 q, .string nm, .int .i64 n] 31))
        have c0 := D1.cell 0
        have c1 := D1.cell 1
        have c2 := D1.cell 2
        have c3 := D1.cell 3
        have c4 := D1.cell 4
        clear D1
        go_enter Try.func47, Try.ntmps47
        go_wp2_with fail
        refine (HI'.out _).mono ?_
        rintro e w' ⟨rfl, rfl⟩
        go_wp2_with fail
        refine (HQ'.out _).mono ?_
        rintro e w' ⟨rfl, rfl⟩
        go_wp2_with fail
        all_goals go_ret
        all_goals exact ⟨by rw [M.out]; rfl, K1.out⟩
      · by_cases hm : nm.size ≤ 64
        · have he0 : (nm.toList == []) = false := list_ne (by omega)
          have g1 : decide ((1 : Int) ≤ (nm.size : Int)) = true := decide_eq_true (by omega)
          have g2 : decide ((nm.size : Int) ≤ 64) = true := decide_eq_true (by omega)
          have HI := fun w => within_calls w 0 1 1073741824
          have HQ := fun w => within_calls w q 1 1073741824
          generalize inB 0 1 1073741824 = bi at HI
          generalize inB q 1 1073741824 = bq at HQ
          have HI' := Lib.hid HI
          have HQ' := Lib.hid HQ
          clear HI HQ
          unfold Cmd.val Cmd.cs
          have D1 := Blk.fresh w 31 #[.int .i64 0, .int .i64 0, .int .i64 q, .string nm, .int .i64 n]
          have K1 := Lib.hid ((Keep.same Nothing w).alloc (.cells #[.int .i64 0, .int .i64 0, .int .i64 q, .string nm, .int .i64 n] 31))
          have c0 := D1.cell 0
          have c1 := D1.cell 1
          have c2 := D1.cell 2
          have c3 := D1.cell 3
          have c4 := D1.cell 4
          clear D1
          go_enter Try.func47, Try.ntmps47
          go_wp2_with fail
          refine (HI'.out _).mono ?_
          rintro e w' ⟨rfl, rfl⟩
          go_wp2_with fail
          refine (HQ'.out _).mono ?_
          rintro e w' ⟨rfl, rfl⟩
          go_wp2_with fail
          all_goals go_ret
          all_goals exact ⟨by rw [M.out]; rfl, K1.out⟩
        · have he0 : (nm.toList == []) = false := list_ne (by omega)
          have g1 : decide ((1 : Int) ≤ (nm.size : Int)) = true := decide_eq_true (by omega)
          have g2 : decide ((nm.size : Int) ≤ 64) = false := decide_eq_false (by omega)
          have HI := fun w => within_calls w 0 1 1073741824
          have HQ := fun w => within_calls w q 1 1073741824
          generalize inB 0 1 1073741824 = bi at HI
          generalize inB q 1 1073741824 = bq at HQ
          have HI' := Lib.hid HI
          have HQ' := Lib.hid HQ
          clear HI HQ
          unfold Cmd.val Cmd.cs
          have D1 := Blk.fresh w 31 #[.int .i64 0, .int .i64 0, .int .i64 q, .string nm, .int .i64 n]
          have K1 := Lib.hid ((Keep.same Nothing w).alloc (.cells #[.int .i64 0, .int .i64 0, .int .i64 q, .string nm, .int .i64 n] 31))
          have c0 := D1.cell 0
          have c1 := D1.cell 1
          have c2 := D1.cell 2
          have c3 := D1.cell 3
          have c4 := D1.cell 4
          clear D1
          go_enter Try.func47, Try.ntmps47
          go_wp2_with fail
          refine (HI'.out _).mono ?_
          rintro e w' ⟨rfl, rfl⟩
          go_wp2_with fail
          refine (HQ'.out _).mono ?_
          rintro e w' ⟨rfl, rfl⟩
          go_wp2_with fail
          all_goals go_ret
          all_goals exact ⟨by rw [M.out]; rfl, K1.out⟩
  · have M := Lib.hid (may_f (c := Cmd.mk 0 s q nm n) (by unfold MayP; simp only; omega))
    have gs : (s == 0) = false := by rw [beq_eq_false_iff_ne]; exact hs
    by_cases hz : nm.size = 0
    · have he0 : (nm.toList == []) = true := by rw [size0 hz, ByteArray.toList_eq]; rfl
      have g1 : decide ((1 : Int) ≤ (nm.size : Int)) = false := decide_eq_false (by omega)
      have HI := fun w => within_calls w s 1 1073741824
      have HQ := fun w => within_calls w q 1 1073741824
      generalize inB s 1 1073741824 = bi at HI
      generalize inB q 1 1073741824 = bq at HQ
      have HI' := Lib.hid HI
      have HQ' := Lib.hid HQ
      clear HI HQ
      unfold Cmd.val Cmd.cs
      have D1 := Blk.fresh w 31 #[.int .i64 0, .int .i64 s, .int .i64 q, .string nm, .int .i64 n]
      have K1 := Lib.hid ((Keep.same Nothing w).alloc (.cells #[.int .i64 0, .int .i64 s, .int .i64 q, .string nm, .int .i64 n] 31))
      have c0 := D1.cell 0
      have c1 := D1.cell 1
      have c2 := D1.cell 2
      have c3 := D1.cell 3
      have c4 := D1.cell 4
      clear D1
      go_enter Try.func47, Try.ntmps47
      go_wp2_with fail
      refine (HI'.out _).mono ?_
      rintro e w' ⟨rfl, rfl⟩
      go_wp2_with fail
      refine (HQ'.out _).mono ?_
      rintro e w' ⟨rfl, rfl⟩
      go_wp2_with fail
      all_goals go_ret
      all_goals exact ⟨by rw [M.out]; rfl, K1.out⟩
    · by_cases hm : nm.size ≤ 64
      · have he0 : (nm.toList == []) = false := list_ne (by omega)
        have g1 : decide ((1 : Int) ≤ (nm.size : Int)) = true := decide_eq_true (by omega)
        have g2 : decide ((nm.size : Int) ≤ 64) = true := decide_eq_true (by omega)
        have HI := fun w => within_calls w s 1 1073741824
        have HQ := fun w => within_calls w q 1 1073741824
        generalize inB s 1 1073741824 = bi at HI
        generalize inB q 1 1073741824 = bq at HQ
        have HI' := Lib.hid HI
        have HQ' := Lib.hid HQ
        clear HI HQ
        unfold Cmd.val Cmd.cs
        have D1 := Blk.fresh w 31 #[.int .i64 0, .int .i64 s, .int .i64 q, .string nm, .int .i64 n]
        have K1 := Lib.hid ((Keep.same Nothing w).alloc (.cells #[.int .i64 0, .int .i64 s, .int .i64 q, .string nm, .int .i64 n] 31))
        have c0 := D1.cell 0
        have c1 := D1.cell 1
        have c2 := D1.cell 2
        have c3 := D1.cell 3
        have c4 := D1.cell 4
        clear D1
        go_enter Try.func47, Try.ntmps47
        go_wp2_with fail
        refine (HI'.out _).mono ?_
        rintro e w' ⟨rfl, rfl⟩
        go_wp2_with fail
        refine (HQ'.out _).mono ?_
        rintro e w' ⟨rfl, rfl⟩
        go_wp2_with fail
        all_goals go_ret
        all_goals exact ⟨by rw [M.out]; rfl, K1.out⟩
      · have he0 : (nm.toList == []) = false := list_ne (by omega)
        have g1 : decide ((1 : Int) ≤ (nm.size : Int)) = true := decide_eq_true (by omega)
        have g2 : decide ((nm.size : Int) ≤ 64) = false := decide_eq_false (by omega)
        have HI := fun w => within_calls w s 1 1073741824
        have HQ := fun w => within_calls w q 1 1073741824
        generalize inB s 1 1073741824 = bi at HI
        generalize inB q 1 1073741824 = bq at HQ
        have HI' := Lib.hid HI
        have HQ' := Lib.hid HQ
        clear HI HQ
        unfold Cmd.val Cmd.cs
        have D1 := Blk.fresh w 31 #[.int .i64 0, .int .i64 s, .int .i64 q, .string nm, .int .i64 n]
        have K1 := Lib.hid ((Keep.same Nothing w).alloc (.cells #[.int .i64 0, .int .i64 s, .int .i64 q, .string nm, .int .i64 n] 31))
        have c0 := D1.cell 0
        have c1 := D1.cell 1
        have c2 := D1.cell 2
        have c3 := D1.cell 3
        have c4 := D1.cell 4
        clear D1
        go_enter Try.func47, Try.ntmps47
        go_wp2_with fail
        refine (HI'.out _).mono ?_
        rintro e w' ⟨rfl, rfl⟩
        go_wp2_with fail
        refine (HQ'.out _).mono ?_
        rintro e w' ⟨rfl, rfl⟩
        go_wp2_with fail
        all_goals go_ret
        all_goals exact ⟨by rw [M.out]; rfl, K1.out⟩
end Go.Proofs.Ythlfcinjmljbjaa.A
