/-
  The reference's May: kinds 5 to 12. Printed by port_once.py out of lcod's texts.
-/
import Derived.Test.YthlfcinjmljbjaaS1
namespace Go.Proofs.Ythlfcinjmljbjaa.A
open Go.RowKit Go.Proofs.Ythlfcinjmljbjaa.U
set_option linter.unusedVariables false
set_option linter.unusedSimpArgs false
set_option maxRecDepth 100000


set_option maxHeartbeats 12800000 in
theorem rmay_9 (w : World) (s q n : Int) (nm : ByteArray) : Calls Try.prog 47 #[(Cmd.mk 9 s q nm n).val] w (maySpec (Cmd.mk 9 s q nm n) w) := by
  have hu := Try.underlying31
  have HI := fun w => within_calls w s 1 1073741824
  have HQ := fun w => within_calls w q 1 1073741824
  have HN := fun w => within_calls w n (-1073741824) 1073741824
  by_cases hz : nm.size = 0
  · by_cases h0 : 1 ≤ s ∧ s ≤ 1073741824
    · by_cases h1 : 1 ≤ q ∧ q ≤ 1073741824
      · have he0 : (nm.toList == []) = true := by rw [size0 hz, ByteArray.toList_eq]; rfl
        have g1 : decide ((1 : Int) ≤ (nm.size : Int)) = false := decide_eq_false (by omega)
        rw [show inB s 1 1073741824 = true from decide_eq_true h0] at HI
        rw [show inB q 1 1073741824 = true from decide_eq_true h1] at HQ
        have HI' := Lib.hid HI
        have HQ' := Lib.hid HQ
        have MM := Lib.hid (show mayB (Cmd.mk 9 s q nm n) = false from may_f (by unfold MayP; simp only; omega))
        clear HI HQ HN
        clear h0 h1
        unfold Cmd.val Cmd.cs
        have D1 := Blk.fresh w 31 #[.int .i64 9, .int .i64 s, .int .i64 q, .string nm, .int .i64 n]
        have K1 := Lib.hid ((Keep.same Nothing w).alloc (.cells #[.int .i64 9, .int .i64 s, .int .i64 q, .string nm, .int .i64 n] 31))
        have c0 := D1.cell 0
        have c1 := D1.cell 1
        have c2 := D1.cell 2
        have c3 := D1.cell 3
        have c4 := D1.cell 4
        clear D1
        go_enter Try.func47, Try.ntmps47
        go_wp2_with fail
        refine (HI'.out _).mono ?_
        rintro e w' ⟨rfl, rfl⟩
        go_wp2_with fail
        refine (HQ'.out _).mono ?_
        rintro e w' ⟨rfl, rfl⟩
        go_wp2_with fail
        go_ret
        exact ⟨by rw [MM.out]; rfl, K1.out⟩
      · have he0 : (nm.toList == []) = true := by rw [size0 hz, ByteArray.toList_eq]; rfl
        have g1 : decide ((1 : Int) ≤ (nm.size : Int)) = false := decide_eq_false (by omega)
        rw [show inB s 1 1073741824 = true from decide_eq_true h0] at HI
        rw [show inB q 1 1073741824 = false from decide_eq_false h1] at HQ
        have HI' := Lib.hid HI
        have HQ' := Lib.hid HQ
        have MM := Lib.hid (show mayB (Cmd.mk 9 s q nm n) = false from may_f (by unfold MayP; simp only; omega))
        clear HI HQ HN
        clear h0 h1
        unfold Cmd.val Cmd.cs
        have D1 := Blk.fresh w 31 #[.int .i64 9, .int .i64 s, .int .i64 q, .string nm, .int .i64 n]
        have K1 := Lib.hid ((Keep.same Nothing w).alloc (.cells #[.int .i64 9, .int .i64 s, .int .i64 q, .string nm, .int .i64 n] 31))
        have c0 := D1.cell 0
        have c1 := D1.cell 1
        have c2 := D1.cell 2
        have c3 := D1.cell 3
        have c4 := D1.cell 4
        clear D1
        go_enter Try.func47, Try.ntmps47
        go_wp2_with fail
        refine (HI'.out _).mono ?_
        rintro e w' ⟨rfl, rfl⟩
        go_wp2_with fail
        refine (HQ'.out _).mono ?_
        rintro e w' ⟨rfl, rfl⟩
        go_wp2_with fail
        go_ret
        exact ⟨by rw [MM.out]; rfl, K1.out⟩
    · have he0 : (nm.toList == []) = true := by rw [size0 hz, ByteArray.toList_eq]; rfl
      have g1 : decide ((1 : Int) ≤ (nm.size : Int)) = false := decide_eq_false (by omega)
      rw [show inB s 1 1073741824 = false from decide_eq_false h0] at HI
      generalize inB q 1 1073741824 = bq at HQ
      have HI' := Lib.hid HI
      have HQ' := Lib.hid HQ
      have MM := Lib.hid (show mayB (Cmd.mk 9 s q nm n) = false from may_f (by unfold MayP; simp only; omega))
      clear HI HQ HN
      clear h0
      unfold Cmd.val Cmd.cs
      have D1 := Blk.fresh w 31 #[.int .i64 9, .int .i64 s, .int .i64 q, .string nm, .int .i64 n]
      have K1 := Lib.hid ((Keep.same Nothing w).alloc (.cells #[.int .i64 9, .int .i64 s, .int .i64 q, .string nm, .int .i64 n] 31))
      have c0 := D1.cell 0
      have c1 := D1.cell 1
      have c2 := D1.cell 2
      have c3 := D1.cell 3
      have c4 := D1.cell 4
      clear D1
      go_enter Try.func47, Try.ntmps47
      go_wp2_with fail
      refine (HI'.out _).mono ?_
      rintro e w' ⟨rfl, rfl⟩
      go_wp2_with fail
      refine (HQ'.out _).mono ?_
      rintro e w' ⟨rfl, rfl⟩
      go_wp2_with fail
      go_ret
      exact ⟨by rw [MM.out]; rfl, K1.out⟩
  · by_cases hm : nm.size ≤ 64
    · by_cases h0 : 1 ≤ s ∧ s ≤ 1073741824
      · by_cases h1 : 1 ≤ q ∧ q ≤ 1073741824
        · by_cases h3 : -1073741824 ≤ n ∧ n ≤ 1073741824
          · have he0 : (nm.toList == []) = false := list_ne (by omega)
            have g1 : decide ((1 : Int) ≤ (nm.size : Int)) = true := decide_eq_true (by omega)
            have g2 : decide ((nm.size : Int) ≤ 64) = true := decide_eq_true (by omega)
            rw [show inB s 1 1073741824 = true from decide_eq_true h0] at HI
            rw [show inB q 1 1073741824 = true from decide_eq_true h1] at HQ
            rw [show inB n (-1073741824) 1073741824 = true from decide_eq_true h3] at HN
            have HI' := Lib.hid HI
            have HQ' := Lib.hid HQ
            have HN' := Lib.hid HN
            have MM := Lib.hid (show mayB (Cmd.mk 9 s q nm n) = true from may_t (by unfold MayP; simp; try omega))
            clear HI HQ HN
            clear h0 h1 h3
            unfold Cmd.val Cmd.cs
            have D1 := Blk.fresh w 31 #[.int .i64 9, .int .i64 s, .int .i64 q, .string nm, .int .i64 n]
            have K1 := Lib.hid ((Keep.same Nothing w).alloc (.cells #[.int .i64 9, .int .i64 s, .int .i64 q, .string nm, .int .i64 n] 31))
            have c0 := D1.cell 0
            have c1 := D1.cell 1
            have c2 := D1.cell 2
            have c3 := D1.cell 3
            have c4 := D1.cell 4
            clear D1
            go_enter Try.func47, Try.ntmps47
            go_wp2_with fail
            refine (HI'.out _).mono ?_
            rintro e w' ⟨rfl, rfl⟩
            go_wp2_with fail
            refine (HQ'.out _).mono ?_
            rintro e w' ⟨rfl, rfl⟩
            go_wp2_with fail
            refine (HN'.out _).mono ?_
            rintro e w' ⟨rfl, rfl⟩
            go_wp2_with fail
            go_ret
            exact ⟨by rw [MM.out]; rfl, K1.out⟩
          · have he0 : (nm.toList == []) = false := list_ne (by omega)
            have g1 : decide ((1 : Int) ≤ (nm.size : Int)) = true := decide_eq_true (by omega)
            have g2 : decide ((nm.size : Int) ≤ 64) = true := decide_eq_true (by omega)
            rw [show inB s 1 1073741824 = true from decide_eq_true h0] at HI
            rw [show inB q 1 1073741824 = true from decide_eq_true h1] at HQ
            rw [show inB n (-1073741824) 1073741824 = false from decide_eq_false h3] at HN
            have HI' := Lib.hid HI
            have HQ' := Lib.hid HQ
            have HN' := Lib.hid HN
            have MM := Lib.hid (show mayB (Cmd.mk 9 s q nm n) = false from may_f (by unfold MayP; simp only; omega))
            clear HI HQ HN
            clear h0 h1 h3
            unfold Cmd.val Cmd.cs
            have D1 := Blk.fresh w 31 #[.int .i64 9, .int .i64 s, .int .i64 q, .string nm, .int .i64 n]
            have K1 := Lib.hid ((Keep.same Nothing w).alloc (.cells #[.int .i64 9, .int .i64 s, .int .i64 q, .string nm, .int .i64 n] 31))
            have c0 := D1.cell 0
            have c1 := D1.cell 1
            have c2 := D1.cell 2
            have c3 := D1.cell 3
            have c4 := D1.cell 4
            clear D1
            go_enter Try.func47, Try.ntmps47
            go_wp2_with fail
            refine (HI'.out _).mono ?_
            rintro e w' ⟨rfl, rfl⟩
            go_wp2_with fail
            refine (HQ'.out _).mono ?_
            rintro e w' ⟨rfl, rfl⟩
            go_wp2_with fail
            refine (HN'.out _).mono ?_
            rintro e w' ⟨rfl, rfl⟩
            go_wp2_with fail
            go_ret
            exact ⟨by rw [MM.out]; rfl, K1.out⟩
        · have he0 : (nm.toList == []) = false := list_ne (by omega)
          have g1 : decide ((1 : Int) ≤ (nm.size : Int)) = true := decide_eq_true (by omega)
          have g2 : decide ((nm.size : Int) ≤ 64) = true := decide_eq_true (by omega)
          rw [show inB s 1 1073741824 = true from decide_eq_true h0] at HI
          rw [show inB q 1 1073741824 = false from decide_eq_false h1] at HQ
          have HI' := Lib.hid HI
          have HQ' := Lib.hid HQ
          have MM := Lib.hid (show mayB (Cmd.mk 9 s q nm n) = false from may_f (by unfold MayP; simp only; omega))
          clear HI HQ HN
          clear h0 h1
          unfold Cmd.val Cmd.cs
          have D1 := Blk.fresh w 31 #[.int .i64 9, .int .i64 s, .int .i64 q, .string nm, .int .i64 n]
          have K1 := Lib.hid ((Keep.same Nothing w).alloc (.cells #[.int .i64 9, .int .i64 s, .int .i64 q, .string nm, .int .i64 n] 31))
          have c0 := D1.cell 0
          have c1 := D1.cell 1
          have c2 := D1.cell 2
          have c3 := D1.cell 3
          have c4 := D1.cell 4
          clear D1
          go_enter Try.func47, Try.ntmps47
          go_wp2_with fail
          refine (HI'.out _).mono ?_
          rintro e w' ⟨rfl, rfl⟩
          go_wp2_with fail
          refine (HQ'.out _).mono ?_
          rintro e w' ⟨rfl, rfl⟩
          go_wp2_with fail
          go_ret
          exact ⟨by rw [MM.out]; rfl, K1.out⟩
      · have he0 : (nm.toList == []) = false := list_ne (by omega)
        have g1 : decide ((1 : Int) ≤ (nm.size : Int)) = true := decide_eq_true (by omega)
        have g2 : decide ((nm.size : Int) ≤ 64) = true := decide_eq_true (by omega)
        rw [show inB s 1 1073741824 = false from decide_eq_false h0] at HI
        generalize inB q 1 1073741824 = bq at HQ
        have HI' := Lib.hid HI
        have HQ' := Lib.hid HQ
        have MM := Lib.hid (show mayB (Cmd.mk 9 s q nm n) = false from may_f (by unfold MayP; simp only; omega))
        clear HI HQ HN
        clear h0
        unfold Cmd.val Cmd.cs
        have D1 := Blk.fresh w 31 #[.int .i64 9, .int .i64 s, .int .i64 q, .string nm, .int .i64 n]
        have K1 := Lib.hid ((Keep.same Nothing w).alloc (.cells #[.int .i64 9, .int .i64 s, .int .i64 q, .string nm, .int .i64 n] 31))
        have c0 := D1.cell 0
        have c1 := D1.cell 1
        have c2 := D1.cell 2
        have c3 := D1.cell 3
        have c4 := D1.cell 4
        clear D1
        go_enter Try.func47, Try.ntmps47
        go_wp2_with fail
        refine (HI'.out _).mono ?_
        rintro e w' ⟨rfl, rfl⟩
        go_wp2_with fail
        refine (HQ'.out _).mono ?_
        rintro e w' ⟨rfl, rfl⟩
        go_wp2_with fail
        go_ret
        exact ⟨by rw [MM.out]; rfl, K1.out⟩
    · by_cases h0 : 1 ≤ s ∧ s ≤ 1073741824
      · by_cases h1 : 1 ≤ q ∧ q ≤ 1073741824
        · have he0 : (nm.toList == []) = false := list_ne (by omega)
          have g1 : decide ((1 : Int) ≤ (nm.size : Int)) = true := decide_eq_true (by omega)
          have g2 : decide ((nm.size : Int) ≤ 64) = false := decide_eq_false (by omega)
          rw [show inB s 1 1073741824 = true from decide_eq_true h0] at HI
          rw [show inB q 1 1073741824 = true from decide_eq_true h1] at HQ
          have HI' := Lib.hid HI
          have HQ' := Lib.hid HQ
          have MM := Lib.hid (show mayB (Cmd.mk 9 s q nm n) = false from may_f (by unfold MayP; simp only; omega))
          clear HI HQ HN
          clear h0 h1
          unfold Cmd.val Cmd.cs
          have D1 := Blk.fresh w 31 #[.int .i64 9, .int .i64 s, .int .i64 q, .string nm, .int .i64 n]
          have K1 := Lib.hid ((Keep.same Nothing w).alloc (.cells #[.int .i64 9, .int .i64 s, .int .i64 q, .string nm, .int .i64 n] 31))
          have c0 := D1.cell 0
          have c1 := D1.cell 1
          have c2 := D1.cell 2
          have c3 := D1.cell 3
          have c4 := D1.cell 4
          clear D1
          go_enter Try.func47, Try.ntmps47
          go_wp2_with fail
          refine (HI'.out _).mono ?_
          rintro e w' ⟨rfl, rfl⟩
          go_wp2_with fail
          refine (HQ'.out _).mono ?_
          rintro e w' ⟨rfl, rfl⟩
          go_wp2_with fail
          go_ret
          exact ⟨by rw [MM.out]; rfl, K1.out⟩
        · have he0 : (nm.toList == []) = false := list_ne (by omega)
          have g1 : decide ((1 : Int) ≤ (nm.size : Int)) = true := decide_eq_true (by omega)
          have g2 : decide ((nm.size : Int) ≤ 64) = false := decide_eq_false (by omega)
          rw [show inB s 1 1073741824 = true from decide_eq_true h0] at HI
          rw [show inB q 1 1073741824 = false from decide_eq_false h1] at HQ
          have HI' := Lib.hid HI
          have HQ' := Lib.hid HQ
          have MM := Lib.hid (show mayB (Cmd.mk 9 s q nm n) = false from may_f (by unfold MayP; simp only; omega))
          clear HI HQ HN
          clear h0 h1
          unfold Cmd.val Cmd.cs
          have D1 := Blk.fresh w 31 #[.int .i64 9, .int .i64 s, .int .i64 q, .string nm, .int .i64 n]
          have K1 := Lib.hid ((Keep.same Nothing w).alloc (.cells #[.int .i64 9, .int .i64 s, .int .i64 q, .string nm, .int .i64 n] 31))
          have c0 := D1.cell 0
          have c1 := D1.cell 1
          have c2 := D1.cell 2
          have c3 := D1.cell 3
          have c4 := D1.cell 4
          clear D1
          go_enter Try.func47, Try.ntmps47
          go_wp2_with fail
          refine (HI'.out _).mono ?_
          rintro e w' ⟨rfl, rfl⟩
          go_wp2_with fail
          refine (HQ'.out _).mono ?_
          rintro e w' ⟨rfl, rfl⟩
          go_wp2_with fail
          go_ret
          exact ⟨by rw [MM.out]; rfl, K1.out⟩
      · have he0 : (nm.toList == []) = false := list_ne (by omega)
        have g1 : decide ((1 : Int) ≤ (nm.size : Int)) = true := decide_eq_true (by omega)
        have g2 : decide ((nm.size : Int) ≤ 64) = false := decide_eq_false (by omega)
        rw [show inB s 1 1073741824 = false from decide_eq_false h0] at HI
        generalize inB q 1 1073741824 = bq at HQ
        have HI' := Lib.hid HI
        have HQ' := Lib.hid HQ
        have MM := Lib.hid (show mayB (Cmd.mk 9 s q nm n) = false from may_f (by unfold MayP; simp only; omega))
        clear HI HQ HN
        clear h0
        unfold Cmd.val Cmd.cs
        have D1 := Blk.fresh w 31 #[.int .i64 9, .int .i64 s, .int .i64 q, .string nm, .int .i64 n]
        have K1 := Lib.hid ((Keep.same Nothing w).alloc (.cells #[.int .i64 9, .int .i64 s, .int .i64 q, .string nm, .int .i64 n] 31))
        have c0 := D1.cell 0
        have c1 := D1.cell 1
        have c2 := D1.cell 2
        have c3 := D1.cell 3
        have c4 := D1.cell 4
        clear D1
        go_enter Try.func47, Try.ntmps47
        go_wp2_with fail
        refine (HI'.out _).mono ?_
        rintro e w' ⟨rfl, rfl⟩
        go_wp2_with fail
        refine (HQ'.out _).mono ?_
        rintro e w' ⟨rfl, rfl⟩
        go_wp2_with fail
        go_ret
        exact ⟨by rw [MM.out]; rfl, K1.out⟩
set_option maxHeartbeats 12800000 in
theorem rmay_5 (w : World) (s q n : Int) (nm : ByteArray) : Calls Try.prog 47 #[(Cmd.mk 5 s q nm n).val] w (maySpec (Cmd.mk 5 s q nm n) w) := by
  have hu := Try.underlying31
  have HI := fun w => within_calls w s 1 1073741824
  have HQ := fun w => within_calls w q 1 1073741824
  have HN := fun w => within_calls w n (0) 0
  by_cases hz : nm.size = 0
  · by_cases h0 : 1 ≤ s ∧ s ≤ 1073741824
    · by_cases h1 : 1 ≤ q ∧ q ≤ 1073741824
      · have he0 : (nm.toList == []) = true := by rw [size0 hz, ByteArray.toList_eq]; rfl
        have g1 : decide ((1 : Int) ≤ (nm.size : Int)) = false := decide_eq_false (by omega)
        rw [show inB s 1 1073741824 = true from decide_eq_true h0] at HI
        rw [show inB q 1 1073741824 = true from decide_eq_true h1] at HQ
        have HI' := Lib.hid HI
        have HQ' := Lib.hid HQ
        have MM := Lib.hid (show mayB (Cmd.mk 5 s q nm n) = false from may_f (by unfold MayP; simp only; omega))
        clear HI HQ HN
        clear h0 h1
        unfold Cmd.val Cmd.cs
        have D1 := Blk.fresh w 31 #[.int .i64 5, .int .i64 s, .int .i64 q, .string nm, .int .i64 n]
        have K1 := Lib.hid ((Keep.same Nothing w).alloc (.cells #[.int .i64 5, .int .i64 s, .int .i64 q, .string nm, .int .i64 n] 31))
        have c0 := D1.cell 0
        have c1 := D1.cell 1
        have c2 := D1.cell 2
        have c3 := D1.cell 3
        have c4 := D1.cell 4
        clear D1
        go_enter Try.func47, Try.ntmps47
        go_wp2_with fail
        refine (HI'.out _).mono ?_
        rintro e w' ⟨rfl, rfl⟩
        go_wp2_with fail
        refine (HQ'.out _).mono ?_
        rintro e w' ⟨rfl, rfl⟩
        go_wp2_with fail
        go_ret
        exact ⟨by rw [MM.out]; rfl, K1.out⟩
      · have he0 : (nm.toList == []) = true := by rw [size0 hz, ByteArray.toList_eq]; rfl
        have g1 : decide ((1 : Int) ≤ (nm.size : Int)) = false := decide_eq_false (by omega)
        rw [show inB s 1 1073741824 = true from decide_eq_true h0] at HI
        rw [show inB q 1 1073741824 = false from decide_eq_false h1] at HQ
        have HI' := Lib.hid HI
        have HQ' := Lib.hid HQ
        have MM := Lib.hid (show mayB (Cmd.mk 5 s q nm n) = false from may_f (by unfold MayP; simp only; omega))
        clear HI HQ HN
        clear h0 h1
        unfold Cmd.val Cmd.cs
        have D1 := Blk.fresh w 31 #[.int .i64 5, .int .i64 s, .int .i64 q, .string nm, .int .i64 n]
        have K1 := Lib.hid ((Keep.same Nothing w).alloc (.cells #[.int .i64 5, .int .i64 s, .int .i64 q, .string nm, .int .i64 n] 31))
        have c0 := D1.cell 0
        have c1 := D1.cell 1
        have c2 := D1.cell 2
        have c3 := D1.cell 3
        have c4 := D1.cell 4
        clear D1
        go_enter Try.func47, Try.ntmps47
        go_wp2_with fail
        refine (HI'.out _).mono ?_
        rintro e w' ⟨rfl, rfl⟩
        go_wp2_with fail
        refine (HQ'.out _).mono ?_
        rintro e w' ⟨rfl, rfl⟩
        go_wp2_with fail
        go_ret
        exact ⟨by rw [MM.out]; rfl, K1.out⟩
    · have he0 : (nm.toList == []) = true := by rw [size0 hz, ByteArray.toList_eq]; rfl
      have g1 : decide ((1 : Int) ≤ (nm.size : Int)) = false := decide_eq_false (by omega)
      rw [show inB s 1 1073741824 = false from decide_eq_false h0] at HI
      generalize inB q 1 1073741824 = bq at HQ
      have HI' := Lib.hid HI
      have HQ' := Lib.hid HQ
      have MM := Lib.hid (show mayB (Cmd.mk 5 s q nm n) = false from may_f (by unfold MayP; simp only; omega))
      clear HI HQ HN
      clear h0
      unfold Cmd.val Cmd.cs
      have D1 := Blk.fresh w 31 #[.int .i64 5, .int .i64 s, .int .i64 q, .string nm, .int .i64 n]
      have K1 := Lib.hid ((Keep.same Nothing w).alloc (.cells #[.int .i64 5, .int .i64 s, .int .i64 q, .string nm, .int .i64 n] 31))
      have c0 := D1.cell 0
      have c1 := D1.cell 1
      have c2 := D1.cell 2
      have c3 := D1.cell 3
      have c4 := D1.cell 4
      clear D1
      go_enter Try.func47, Try.ntmps47
      go_wp2_with fail
      refine (HI'.out _).mono ?_
      rintro e w' ⟨rfl, rfl⟩
      go_wp2_with fail
      refine (HQ'.out _).mono ?_
      rintro e w' ⟨rfl, rfl⟩
      go_wp2_with fail
      go_ret
      exact ⟨by rw [MM.out]; rfl, K1.out⟩
  · by_cases hm : nm.size ≤ 64
    · by_cases h0 : 1 ≤ s ∧ s ≤ 1073741824
      · by_cases h1 : 1 ≤ q ∧ q ≤ 1073741824
        · by_cases h3 : n = 0
          · have he0 : (nm.toList == []) = false := list_ne (by omega)
            have g1 : decide ((1 : Int) ≤ (nm.size : Int)) = true := decide_eq_true (by omega)
            have g2 : decide ((nm.size : Int) ≤ 64) = true := decide_eq_true (by omega)
            have q3 : (n == 0) = true := by rw [beq_iff_eq]; exact h3
            rw [show inB s 1 1073741824 = true from decide_eq_true h0] at HI
            rw [show inB q 1 1073741824 = true from decide_eq_true h1] at HQ
            have HI' := Lib.hid HI
            have HQ' := Lib.hid HQ
            have MM := Lib.hid (show mayB (Cmd.mk 5 s q nm n) = true from may_t (by unfold MayP; simp; try omega))
            clear HI HQ HN
            clear h0 h1 h3
            unfold Cmd.val Cmd.cs
            have D1 := Blk.fresh w 31 #[.int .i64 5, .int .i64 s, .int .i64 q, .string nm, .int .i64 n]
            have K1 := Lib.hid ((Keep.same Nothing w).alloc (.cells #[.int .i64 5, .int .i64 s, .int .i64 q, .string nm, .int .i64 n] 31))
            have c0 := D1.cell 0
            have c1 := D1.cell 1
            have c2 := D1.cell 2
            have c3 := D1.cell 3
            have c4 := D1.cell 4
            clear D1
            go_enter Try.func47, Try.ntmps47
            go_wp2_with fail
            refine (HI'.out _).mono ?_
            rintro e w' ⟨rfl, rfl⟩
            go_wp2_with fail
            refine (HQ'.out _).mono ?_
            rintro e w' ⟨rfl, rfl⟩
            go_wp2_with fail
            go_ret
            exact ⟨by rw [MM.out]; rfl, K1.out⟩
          · have he0 : (nm.toList == []) = false := list_ne (by omega)
            have g1 : decide ((1 : Int) ≤ (nm.size : Int)) = true := decide_eq_true (by omega)
            have g2 : decide ((nm.size : Int) ≤ 64) = true := decide_eq_true (by omega)
            have q3 : (n == 0) = false := by rw [beq_eq_false_iff_ne]; exact h3
            rw [show inB s 1 1073741824 = true from decide_eq_true h0] at HI
            rw [show inB q 1 1073741824 = true from decide_eq_true h1] at HQ
            have HI' := Lib.hid HI
            have HQ' := Lib.hid HQ
            have MM := Lib.hid (show mayB (Cmd.mk 5 s q nm n) = false from may_f (by unfold MayP; simp only; omega))
            clear HI HQ HN
            clear h0 h1 h3
            unfold Cmd.val Cmd.cs
            have D1 := Blk.fresh w 31 #[.int .i64 5, .int .i64 s, .int .i64 q, .string nm, .int .i64 n]
            have K1 := Lib.hid ((Keep.same Nothing w).alloc (.cells #[.int .i64 5, .int .i64 s, .int .i64 q, .string nm, .int .i64 n] 31))
            have c0 := D1.cell 0
            have c1 := D1.cell 1
            have c2 := D1.cell 2
            have c3 := D1.cell 3
            have c4 := D1.cell 4
            clear D1
            go_enter Try.func47, Try.ntmps47
            go_wp2_with fail
            refine (HI'.out _).mono ?_
            rintro e w' ⟨rfl, rfl⟩
            go_wp2_with fail
            refine (HQ'.out _).mono ?_
            rintro e w' ⟨rfl, rfl⟩
            go_wp2_with fail
            go_ret
            exact ⟨by rw [MM.out]; rfl, K1.out⟩
        · have he0 : (nm.toList == []) = false := list_ne (by omega)
          have g1 : decide ((1 : Int) ≤ (nm.size : Int)) = true := decide_eq_true (by omega)
          have g2 : decide ((nm.size : Int) ≤ 64) = true := decide_eq_true (by omega)
          rw [show inB s 1 1073741824 = true from decide_eq_true h0] at HI
          rw [show inB q 1 1073741824 = false from decide_eq_false h1] at HQ
          have HI' := Lib.hid HI
          have HQ' := Lib.hid HQ
          have MM := Lib.hid (show mayB (Cmd.mk 5 s q nm n) = false from may_f (by unfold MayP; simp only; omega))
          clear HI HQ HN
          clear h0 h1
          unfold Cmd.val Cmd.cs
          have D1 := Blk.fresh w 31 #[.int .i64 5, .int .i64 s, .int .i64 q, .string nm, .int .i64 n]
          have K1 := Lib.hid ((Keep.same Nothing w).alloc (.cells #[.int .i64 5, .int .i64 s, .int .i64 q, .string nm, .int .i64 n] 31))
          have c0 := D1.cell 0
          have c1 := D1.cell 1
          have c2 := D1.cell 2
          have c3 := D1.cell 3
          have c4 := D1.cell 4
          clear D1
          go_enter Try.func47, Try.ntmps47
          go_wp2_with fail
          refine (HI'.out _).mono ?_
          rintro e w' ⟨rfl, rfl⟩
          go_wp2_with fail
          refine (HQ'.out _).mono ?_
          rintro e w' ⟨rfl, rfl⟩
          go_wp2_with fail
          go_ret
          exact ⟨by rw [MM.out]; rfl, K1.out⟩
      · have he0 : (nm.toList == []) = false := list_ne (by omega)
        have g1 : decide ((1 : Int) ≤ (nm.size : Int)) = true := decide_eq_true (by omega)
        have g2 : decide ((nm.size : Int) ≤ 64) = true := decide_eq_true (by omega)
        rw [show inB s 1 1073741824 = false from decide_eq_false h0] at HI
        generalize inB q 1 1073741824 = bq at HQ
        have HI' := Lib.hid HI
        have HQ' := Lib.hid HQ
        have MM := Lib.hid (show mayB (Cmd.mk 5 s q nm n) = false from may_f (by unfold MayP; simp only; omega))
        clear HI HQ HN
        clear h0
        unfold Cmd.val Cmd.cs
        have D1 := Blk.fresh w 31 #[.int .i64 5, .int .i64 s, .int .i64 q, .string nm, .int .i64 n]
        have K1 := Lib.hid ((Keep.same Nothing w).alloc (.cells #[.int .i64 5, .int .i64 s, .int .i64 q, .string nm, .int .i64 n] 31))
        have c0 := D1.cell 0
        have c1 := D1.cell 1
        have c2 := D1.cell 2
        have c3 := D1.cell 3
        have c4 := D1.cell 4
        clear D1
        go_enter Try.func47, Try.ntmps47
        go_wp2_with fail
        refine (HI'.out _).mono ?_
        rintro e w' ⟨rfl, rfl⟩
        go_wp2_with fail
        refine (HQ'.out _).mono ?_
        rintro e w' ⟨rfl, rfl⟩
        go_wp2_with fail
        go_ret
        exact ⟨by rw [MM.out]; rfl, K1.out⟩
    · by_cases h0 : 1 ≤ s ∧ s ≤ 1073741824
      · by_cases h1 : 1 ≤ q ∧ q ≤ 1073741824
        · have he0 : (nm.toList == []) = false := list_ne (by omega)
          have g1 : decide ((1 : Int) ≤ (nm.size : Int)) = true := decide_eq_true (by omega)
          have g2 : decide ((nm.size : Int) ≤ 64) = false := decide_eq_false (by omega)
          rw [show inB s 1 1073741824 = true from decide_eq_true h0] at HI
          rw [show inB q 1 1073741824 = true from decide_eq_true h1] at HQ
          have HI' := Lib.hid HI
          have HQ' := Lib.hid HQ
          have MM := Lib.hid (show mayB (Cmd.mk 5 s q nm n) = false from may_f (by unfold MayP; simp only; omega))
          clear HI HQ HN
          clear h0 h1
          unfold Cmd.val Cmd.cs
          have D1 := Blk.fresh w 31 #[.int .i64 5, .int .i64 s, .int .i64 q, .string nm, .int .i64 n]
          have K1 := Lib.hid ((Keep.same Nothing w).alloc (.cells #[.int .i64 5, .int .i64 s, .int .i64 q, .string nm, .int .i64 n] 31))
          have c0 := D1.cell 0
          have c1 := D1.cell 1
          have c2 := D1.cell 2
          have c3 := D1.cell 3
          have c4 := D1.cell 4
          clear D1
          go_enter Try.func47, Try.ntmps47
          go_wp2_with fail
          refine (HI'.out _).mono ?_
          rintro e w' ⟨rfl, rfl⟩
          go_wp2_with fail
          refine (HQ'.out _).mono ?_
          rintro e w' ⟨rfl, rfl⟩
          go_wp2_with fail
          go_ret
          exact ⟨by rw [MM.out]; rfl, K1.out⟩
        · have he0 : (nm.toList == []) = false := list_ne (by omega)
          have g1 : decide ((1 : Int) ≤ (nm.size : Int)) = true := decide_eq_true (by omega)
          have g2 : decide ((nm.size : Int) ≤ 64) = false := decide_eq_false (by omega)
          rw [show inB s 1 1073741824 = true from decide_eq_true h0] at HI
          rw [show inB q 1 1073741824 = false from decide_eq_false h1] at HQ
          have HI' := Lib.hid HI
          have HQ' := Lib.hid HQ
          have MM := Lib.hid (show mayB (Cmd.mk 5 s q nm n) = false from may_f (by unfold MayP; simp only; omega))
          clear HI HQ HN
          clear h0 h1
          unfold Cmd.val Cmd.cs
          have D1 := Blk.fresh w 31 #[.int .i64 5, .int .i64 s, .int .i64 q, .string nm, .int .i64 n]
          have K1 := Lib.hid ((Keep.same Nothing w).alloc (.cells #[.int .i64 5, .int .i64 s, .int .i64 q, .string nm, .int .i64 n] 31))
          have c0 := D1.cell 0
          have c1 := D1.cell 1
          have c2 := D1.cell 2
          have c3 := D1.cell 3
          have c4 := D1.cell 4
          clear D1
          go_enter Try.func47, Try.ntmps47
          go_wp2_with fail
          refine (HI'.out _).mono ?_
          rintro e w' ⟨rfl, rfl⟩
          go_wp2_with fail
          refine (HQ'.out _).mono ?_
          rintro e w' ⟨rfl, rfl⟩
          go_wp2_with fail
          go_ret
          exact ⟨by rw [MM.out]; rfl, K1.out⟩
      · have he0 : (nm.toList == []) = false := list_ne (by omega)
        have g1 : decide ((1 : Int) ≤ (nm.size : Int)) = true := decide_eq_true (by omega)
        have g2 : decide ((nm.size : Int) ≤ 64) = false := decide_eq_false (by omega)
        rw [show inB s 1 1073741824 = false from decide_eq_false h0] at HI
        generalize inB q 1 1073741824 = bq at HQ
        have HI' := Lib.hid HI
        have HQ' := Lib.hid HQ
        have MM := Lib.hid (show mayB (Cmd.mk 5 s q nm n) = false from may_f (by unfold MayP; simp only; omega))
        clear HI HQ HN
        clear h0
        unfold Cmd.val Cmd.cs
        have D1 := Blk.fresh w 31 #[.int .i64 5, .int .i64 s, .int .i64 q, .string nm, .int .i64 n]
        have K1 := Lib.hid ((Keep.same Nothing w).alloc (.cells #[.int .i64 5, .int .i64 s, .int .i64 q, .string nm, .int .i64 n] 31))
        have c0 := D1.cell 0
        have c1 := D1.cell 1
        have c2 := D1.cell 2
        have c3 := D1.cell 3
        have c4 := D1.cell 4
        clear D1
        go_enter Try.func47, Try.ntmps47
        go_wp2_with fail
        refine (HI'.out _).mono ?_
        rintro e w' ⟨rfl, rfl⟩
        go_wp2_with fail
        refine (HQ'.out _).mono ?_
        rintro e w' ⟨rfl, rfl⟩
        go_wp2_with fail
        go_ret
        exact ⟨by rw [MM.out]; rfl, K1.out⟩
set_option maxHeartbeats 12800000 in
theorem rmay_6 (w : World) (s q n : Int) (nm : ByteArray) : Calls Try.prog 47 #[(Cmd.mk 6 s q nm n).val] w (maySpec (Cmd.mk 6 s q nm n) w) := by
  have hu := Try.underlying31
  have HI := fun w => within_calls w s 1 1073741824
  have HQ := fun w => within_calls w q 1 1073741824
  have HN := fun w => within_calls w n (0) 0
  by_cases hz : nm.size = 0
  · by_cases h0 : 1 ≤ s ∧ s ≤ 1073741824
    · by_cases h1 : 1 ≤ q ∧ q ≤ 1073741824
      · have he0 : (nm.toList == []) = true := by rw [size0 hz, ByteArray.toList_eq]; rfl
        have g1 : decide ((1 : Int) ≤ (nm.size : Int)) = false := decide_eq_false (by omega)
        rw [show inB s 1 1073741824 = true from decide_eq_true h0] at HI
        rw [show inB q 1 1073741824 = true from decide_eq_true h1] at HQ
        have HI' := Lib.hid HI
        have HQ' := Lib.hid HQ
        have MM := Lib.hid (show mayB (Cmd.mk 6 s q nm n) = false from may_f (by unfold MayP; simp only; omega))
        clear HI HQ HN
        clear h0 h1
        unfold Cmd.val Cmd.cs
        have D1 := Blk.fresh w 31 #[.int .i64 6, .int .i64 s, .int .i64 q, .string nm, .int .i64 n]
        have K1 := Lib.hid ((Keep.same Nothing w).alloc (.cells #[.int .i64 6, .int .i64 s, .int .i64 q, .string nm, .int .i64 n] 31))
        have c0 := D1.cell 0
        have c1 := D1.cell 1
        have c2 := D1.cell 2
        have c3 := D1.cell 3
        have c4 := D1.cell 4
        clear D1
        go_enter Try.func47, Try.ntmps47
        go_wp2_with fail
        refine (HI'.out _).mono ?_
        rintro e w' ⟨rfl, rfl⟩
        go_wp2_with fail
        refine (HQ'.out _).mono ?_
        rintro e w' ⟨rfl, rfl⟩
        go_wp2_with fail
        go_ret
        exact ⟨by rw [MM.out]; rfl, K1.out⟩
      · have he0 : (nm.toList == []) = true := by rw [size0 hz, ByteArray.toList_eq]; rfl
        have g1 : decide ((1 : Int) ≤ (nm.size : Int)) = false := decide_eq_false (by omega)
        rw [show inB s 1 1073741824 = true from decide_eq_true h0] at HI
        rw [show inB q 1 1073741824 = false from decide_eq_false h1] at HQ
        have HI' := Lib.hid HI
        have HQ' := Lib.hid HQ
        have MM := Lib.hid (show mayB (Cmd.mk 6 s q nm n) = false from may_f (by unfold MayP; simp only; omega))
        clear HI HQ HN
        clear h0 h1
        unfold Cmd.val Cmd.cs
        have D1 := Blk.fresh w 31 #[.int .i64 6, .int .i64 s, .int .i64 q, .string nm, .int .i64 n]
        have K1 := Lib.hid ((Keep.same Nothing w).alloc (.cells #[.int .i64 6, .int .i64 s, .int .i64 q, .string nm, .int .i64 n] 31))
        have c0 := D1.cell 0
        have c1 := D1.cell 1
        have c2 := D1.cell 2
        have c3 := D1.cell 3
        have c4 := D1.cell 4
        clear D1
        go_enter Try.func47, Try.ntmps47
        go_wp2_with fail
        refine (HI'.out _).mono ?_
        rintro e w' ⟨rfl, rfl⟩
        go_wp2_with fail
        refine (HQ'.out _).mono ?_
        rintro e w' ⟨rfl, rfl⟩
        go_wp2_with fail
        go_ret
        exact ⟨by rw [MM.out]; rfl, K1.out⟩
    · have he0 : (nm.toList == []) = true := by rw [size0 hz, ByteArray.toList_eq]; rfl
      have g1 : decide ((1 : Int) ≤ (nm.size : Int)) = false := decide_eq_false (by omega)
      rw [show inB s 1 1073741824 = false from decide_eq_false h0] at HI
      generalize inB q 1 1073741824 = bq at HQ
      have HI' := Lib.hid HI
      have HQ' := Lib.hid HQ
      have MM := Lib.hid (show mayB (Cmd.mk 6 s q nm n) = false from may_f (by unfold MayP; simp only; omega))
      clear HI HQ HN
      clear h0
      unfold Cmd.val Cmd.cs
      have D1 := Blk.fresh w 31 #[.int .i64 6, .int .i64 s, .int .i64 q, .string nm, .int .i64 n]
      have K1 := Lib.hid ((Keep.same Nothing w).alloc (.cells #[.int .i64 6, .int .i64 s, .int .i64 q, .string nm, .int .i64 n] 31))
      have c0 := D1.cell 0
      have c1 := D1.cell 1
      have c2 := D1.cell 2
      have c3 := D1.cell 3
      have c4 := D1.cell 4
      clear D1
      go_enter Try.func47, Try.ntmps47
      go_wp2_with fail
      refine (HI'.out _).mono ?_
      rintro e w' ⟨rfl, rfl⟩
      go_wp2_with fail
      refine (HQ'.out _).mono ?_
      rintro e w' ⟨rfl, rfl⟩
      go_wp2_with fail
      go_ret
      exact ⟨by rw [MM.out]; rfl, K1.out⟩
  · by_cases hm : nm.size ≤ 64
    · by_cases h0 : 1 ≤ s ∧ s ≤ 1073741824
      · by_cases h1 : 1 ≤ q ∧ q ≤ 1073741824
        · by_cases h3 : n = 0
          · have he0 : (nm.toList == []) = false := list_ne (by omega)
            have g1 : decide ((1 : Int) ≤ (nm.size : Int)) = true := decide_eq_true (by omega)
            have g2 : decide ((nm.size : Int) ≤ 64) = true := decide_eq_true (by omega)
            have q3 : (n == 0) = true := by rw [beq_iff_eq]; exact h3
            rw [show inB s 1 1073741824 = true from decide_eq_true h0] at HI
            rw [show inB q 1 1073741824 = true from decide_eq_true h1] at HQ
            have HI' := Lib.hid HI
            have HQ' := Lib.hid HQ
            have MM := Lib.hid (show mayB (Cmd.mk 6 s q nm n) = true from may_t (by unfold MayP; simp; try omega))
            clear HI HQ HN
            clear h0 h1 h3
            unfold Cmd.val Cmd.cs
            have D1 := Blk.fresh w 31 #[.int .i64 6, .int .i64 s, .int .i64 q, .string nm, .int .i64 n]
            have K1 := Lib.hid ((Keep.same Nothing w).alloc (.cells #[.int .i64 6, .int .i64 s, .int .i64 q, .string nm, .int .i64 n] 31))
            have c0 := D1.cell 0
            have c1 := D1.cell 1
            have c2 := D1.cell 2
            have c3 := D1.cell 3
            have c4 := D1.cell 4
            clear D1
            go_enter Try.func47, Try.ntmps47
            go_wp2_with fail
            refine (HI'.out _).mono ?_
            rintro e w' ⟨rfl, rfl⟩
            go_wp2_with fail
            refine (HQ'.out _).mono ?_
            rintro e w' ⟨rfl, rfl⟩
            go_wp2_with fail
            go_ret
            exact ⟨by rw [MM.out]; rfl, K1.out⟩
          · have he0 : (nm.toList == []) = false := list_ne (by omega)
            have g1 : decide ((1 : Int) ≤ (nm.size : Int)) = true := decide_eq_true (by omega)
            have g2 : decide ((nm.size : Int) ≤ 64) = true := decide_eq_true (by omega)
            have q3 : (n == 0) = false := by rw [beq_eq_false_iff_ne]; exact h3
            rw [show inB s 1 1073741824 = true from decide_eq_true h0] at HI
            rw [show inB q 1 1073741824 = true from decide_eq_true h1] at HQ
            have HI' := Lib.hid HI
            have HQ' := Lib.hid HQ
            have MM := Lib.hid (show mayB (Cmd.mk 6 s q nm n) = false from may_f (by unfold MayP; simp only; omega))
            clear HI HQ HN
            clear h0 h1 h3
            unfold Cmd.val Cmd.cs
            have D1 := Blk.fresh w 31 #[.int .i64 6, .int .i64 s, .int .i64 q, .string nm, .int .i64 n]
            have K1 := Lib.hid ((Keep.same Nothing w).alloc (.cells #[.int .i64 6, .int .i64 s, .int .i64 q, .string nm, .int .i64 n] 31))
            have c0 := D1.cell 0
            have c1 := D1.cell 1
            have c2 := D1.cell 2
            have c3 := D1.cell 3
            have c4 := D1.cell 4
            clear D1
            go_enter Try.func47, Try.ntmps47
            go_wp2_with fail
            refine (HI'.out _).mono ?_
            rintro e w' ⟨rfl, rfl⟩
            go_wp2_with fail
            refine (HQ'.out _).mono ?_
            rintro e w' ⟨rfl, rfl⟩
            go_wp2_with fail
            go_ret
            exact ⟨by rw [MM.out]; rfl, K1.out⟩
        · have he0 : (nm.toList == []) = false := list_ne (by omega)
          have g1 : decide ((1 : Int) ≤ (nm.size : Int)) = true := decide_eq_true (by omega)
          have g2 : decide ((nm.size : Int) ≤ 64) = true := decide_eq_true (by omega)
          rw [show inB s 1 1073741824 = true from decide_eq_true h0] at HI
          rw [show inB q 1 1073741824 = false from decide_eq_false h1] at HQ
          have HI' := Lib.hid HI
          have HQ' := Lib.hid HQ
          have MM := Lib.hid (show mayB (Cmd.mk 6 s q nm n) = false from may_f (by unfold MayP; simp only; omega))
          clear HI HQ HN
          clear h0 h1
          unfold Cmd.val Cmd.cs
          have D1 := Blk.fresh w 31 #[.int .i64 6, .int .i64 s, .int .i64 q, .string nm, .int .i64 n]
          have K1 := Lib.hid ((Keep.same Nothing w).alloc (.cells #[.int .i64 6, .int .i64 s, .int .i64 q, .string nm, .int .i64 n] 31))
          have c0 := D1.cell 0
          have c1 := D1.cell 1
          have c2 := D1.cell 2
          have c3 := D1.cell 3
          have c4 := D1.cell 4
          clear D1
          go_enter Try.func47, Try.ntmps47
          go_wp2_with fail
          refine (HI'.out _).mono ?_
          rintro e w' ⟨rfl, rfl⟩
          go_wp2_with fail
          refine (HQ'.out _).mono ?_
          rintro e w' ⟨rfl, rfl⟩
          go_wp2_with fail
          go_ret
          exact ⟨by rw [MM.out]; rfl, K1.out⟩
      · have he0 : (nm.toList == []) = false := list_ne (by omega)
        have g1 : decide ((1 : Int) ≤ (nm.size : Int)) = true := decide_eq_true (by omega)
        have g2 : decide ((nm.size : Int) ≤ 64) = true := decide_eq_true (by omega)
        rw [show inB s 1 1073741824 = false from decide_eq_false h0] at HI
        generalize inB q 1 1073741824 = bq at HQ
        have HI' := Lib.hid HI
        have HQ' := Lib.hid HQ
        have MM := Lib.hid (show mayB (Cmd.mk 6 s q nm n) = false from may_f (by unfold MayP; simp only; omega))
        clear HI HQ HN
        clear h0
        unfold Cmd.val Cmd.cs
        have D1 := Blk.fresh w 31 #[.int .i64 6, .int .i64 s, .int .i64 q, .string nm, .int .i64 n]
        have K1 := Lib.hid ((Keep.same Nothing w).alloc (.cells #[.int .i64 6, .int .i64 s, .int .i64 q, .string nm, .int .i64 n] 31))
        have c0 := D1.cell 0
        have c1 := D1.cell 1
        have c2 := D1.cell 2
        have c3 := D1.cell 3
        have c4 := D1.cell 4
        clear D1
        go_enter Try.func47, Try.ntmps47
        go_wp2_with fail
        refine (HI'.out _).mono ?_
        rintro e w' ⟨rfl, rfl⟩
        go_wp2_with fail
        refine (HQ'.out _).mono ?_
        rintro e w' ⟨rfl, rfl⟩
        go_wp2_with fail
        go_ret
        exact ⟨by rw [MM.out]; rfl, K1.out⟩
    · by_cases h0 : 1 ≤ s ∧ s ≤ 1073741824
      · by_cases h1 : 1 ≤ q ∧ q ≤ 1073741824
        · have he0 : (nm.toList == []) = false := list_ne (by omega)
          have g1 : decide ((1 : Int) ≤ (nm.size : Int)) = true := decide_eq_true (by omega)
          have g2 : decide ((nm.size : Int) ≤ 64) = false := decide_eq_false (by omega)
          rw [show inB s 1 1073741824 = true from decide_eq_true h0] at HI
          rw [show inB q 1 1073741824 = true from decide_eq_true h1] at HQ
          have HI' := Lib.hid HI
          have HQ' := Lib.hid HQ
          have MM := Lib.hid (show mayB (Cmd.mk 6 s q nm n) = false from may_f (by unfold MayP; simp only; omega))
          clear HI HQ HN
          clear h0 h1
          unfold Cmd.val Cmd.cs
          have D1 := Blk.fresh w 31 #[.int .i64 6, .int .i64 s, .int .i64 q, .string nm, .int .i64 n]
          have K1 := Lib.hid ((Keep.same Nothing w).alloc (.cells #[.int .i64 6, .int .i64 s, .int .i64 q, .string nm, .int .i64 n] 31))
          have c0 := D1.cell 0
          have c1 := D1.cell 1
          have c2 := D1.cell 2
          have c3 := D1.cell 3
          have c4 := D1.cell 4
          clear D1
          go_enter Try.func47, Try.ntmps47
          go_wp2_with fail
          refine (HI'.out _).mono ?_
          rintro e w' ⟨rfl, rfl⟩
          go_wp2_with fail
          refine (HQ'.out _).mono ?_
          rintro e w' ⟨rfl, rfl⟩
          go_wp2_with fail
          go_ret
          exact ⟨by rw [MM.out]; rfl, K1.out⟩
        · have he0 : (nm.toList == []) = false := list_ne (by omega)
          have g1 : decide ((1 : Int) ≤ (nm.size : Int)) = true := decide_eq_true (by omega)
          have g2 : decide ((nm.size : Int) ≤ 64) = false := decide_eq_false (by omega)
          rw [show inB s 1 1073741824 = true from decide_eq_true h0] at HI
          rw [show inB q 1 1073741824 = false from decide_eq_false h1] at HQ
          have HI' := Lib.hid HI
          have HQ' := Lib.hid HQ
          have MM := Lib.hid (show mayB (Cmd.mk 6 s q nm n) = false from may_f (by unfold MayP; simp only; omega))
          clear HI HQ HN
          clear h0 h1
          unfold Cmd.val Cmd.cs
          have D1 := Blk.fresh w 31 #[.int .i64 6, .int .i64 s, .int .i64 q, .string nm, .int .i64 n]
          have K1 := Lib.hid ((Keep.same Nothing w).alloc (.cells #[.int .i64 6, .int .i64 s, .int .i64 q, .string nm, .int .i64 n] 31))
          have c0 := D1.cell 0
          have c1 := D1.cell 1
          have c2 := D1.cell 2
          have c3 := D1.cell 3
          have c4 := D1.cell 4
          clear D1
          go_enter Try.func47, Try.ntmps47
          go_wp2_with fail
          refine (HI'.out _).mono ?_
          rintro e w' ⟨rfl, rfl⟩
          go_wp2_with fail
          refine (HQ'.out _).mono ?_
          rintro e w' ⟨rfl, rfl⟩
          go_wp2_with fail
          go_ret
          exact ⟨by rw [MM.out]; rfl, K1.out⟩
      · have he0 : (nm.toList == []) = false := list_ne (by omega)
        have g1 : decide ((1 : Int) ≤ (nm.size : Int)) = true := decide_eq_true (by omega)
        have g2 : decide ((nm.size : Int) ≤ 64) = false := decide_eq_false (by omega)
        rw [show inB s 1 1073741824 = false from decide_eq_false h0] at HI
        generalize inB q 1 1073741824 = bq at HQ
        have HI' := Lib.hid HI
        have HQ' := Lib.hid HQ
        have MM := Lib.hid (show mayB (Cmd.mk 6 s q nm n) = false from may_f (by unfold MayP; simp only; omega))
        clear HI HQ HN
        clear h0
        unfold Cmd.val Cmd.cs
        have D1 := Blk.fresh w 31 #[.int .i64 6, .int .i64 s, .int .i64 q, .string nm, .int .i64 n]
        have K1 := Lib.hid ((Keep.same Nothing w).alloc (.cells #[.int .i64 6, .int .i64 s, .int .i64 q, .string nm, .int .i64 n] 31))
        have c0 := D1.cell 0
        have c1 := D1.cell 1
        have c2 := D1.cell 2
        have c3 := D1.cell 3
        have c4 := D1.cell 4
        clear D1
        go_enter Try.func47, Try.ntmps47
        go_wp2_with fail
        refine (HI'.out _).mono ?_
        rintro e w' ⟨rfl, rfl⟩
        go_wp2_with fail
        refine (HQ'.out _).mono ?_
        rintro e w' ⟨rfl, rfl⟩
        go_wp2_with fail
        go_ret
        exact ⟨by rw [MM.out]; rfl, K1.out⟩
set_option maxHeartbeats 12800000 in
theorem rmay_7 (w : World) (s q n : Int) (nm : ByteArray) : Calls Try.prog 47 #[(Cmd.mk 7 s q nm n).val] w (maySpec (Cmd.mk 7 s q nm n) w) := by
  have hu := Try.underlying31
  have HI := fun w => within_calls w s 1 1073741824
  have HQ := fun w => within_calls w q 1 1073741824
  have HN := fun w => within_calls w n (0) 0
  by_cases hz : nm.size = 0
  · by_cases h0 : 1 ≤ s ∧ s ≤ 1073741824
    · by_cases h1 : 1 ≤ q ∧ q ≤ 1073741824
      · have he0 : (nm.toList == []) = true := by rw [size0 hz, ByteArray.toList_eq]; rfl
        have g1 : decide ((1 : Int) ≤ (nm.size : Int)) = false := decide_eq_false (by omega)
        rw [show inB s 1 1073741824 = true from decide_eq_true h0] at HI
        rw [show inB q 1 1073741824 = true from decide_eq_true h1] at HQ
        have HI' := Lib.hid HI
        have HQ' := Lib.hid HQ
        have MM := Lib.hid (show mayB (Cmd.mk 7 s q nm n) = false from may_f (by unfold MayP; simp only; omega))
        clear HI HQ HN
        clear h0 h1
        unfold Cmd.val Cmd.cs
        have D1 := Blk.fresh w 31 #[.int .i64 7, .int .i64 s, .int .i64 q, .string nm, .int .i64 n]
        have K1 := Lib.hid ((Keep.same Nothing w).alloc (.cells #[.int .i64 7, .int .i64 s, .int .i64 q, .string nm, .int .i64 n] 31))
        have c0 := D1.cell 0
        have c1 := D1.cell 1
        have c2 := D1.cell 2
        have c3 := D1.cell 3
        have c4 := D1.cell 4
        clear D1
        go_enter Try.func47, Try.ntmps47
        go_wp2_with fail
        refine (HI'.out _).mono ?_
        rintro e w' ⟨rfl, rfl⟩
        go_wp2_with fail
        refine (HQ'.out _).mono ?_
        rintro e w' ⟨rfl, rfl⟩
        go_wp2_with fail
        go_ret
        exact ⟨by rw [MM.out]; rfl, K1.out⟩
      · have he0 : (nm.toList == []) = true := by rw [size0 hz, ByteArray.toList_eq]; rfl
        have g1 : decide ((1 : Int) ≤ (nm.size : Int)) = false := decide_eq_false (by omega)
        rw [show inB s 1 1073741824 = true from decide_eq_true h0] at HI
        rw [show inB q 1 1073741824 = false from decide_eq_false h1] at HQ
        have HI' := Lib.hid HI
        have HQ' := Lib.hid HQ
        have MM := Lib.hid (show mayB (Cmd.mk 7 s q nm n) = false from may_f (by unfold MayP; simp only; omega))
        clear HI HQ HN
        clear h0 h1
        unfold Cmd.val Cmd.cs
        have D1 := Blk.fresh w 31 #[.int .i64 7, .int .i64 s, .int .i64 q, .string nm, .int .i64 n]
        have K1 := Lib.hid ((Keep.same Nothing w).alloc (.cells #[.int .i64 7, .int .i64 s, .int .i64 q, .string nm, .int .i64 n] 31))
        have c0 := D1.cell 0
        have c1 := D1.cell 1
        have c2 := D1.cell 2
        have c3 := D1.cell 3
        have c4 := D1.cell 4
        clear D1
        go_enter Try.func47, Try.ntmps47
        go_wp2_with fail
        refine (HI'.out _).mono ?_
        rintro e w' ⟨rfl, rfl⟩
        go_wp2_with fail
        refine (HQ'.out _).mono ?_
        rintro e w' ⟨rfl, rfl⟩
        go_wp2_with fail
        go_ret
        exact ⟨by rw [MM.out]; rfl, K1.out⟩
    · have he0 : (nm.toList == []) = true := by rw [size0 hz, ByteArray.toList_eq]; rfl
      have g1 : decide ((1 : Int) ≤ (nm.size : Int)) = false := decide_eq_false (by omega)
      rw [show inB s 1 1073741824 = false from decide_eq_false h0] at HI
      generalize inB q 1 1073741824 = bq at HQ
      have HI' := Lib.hid HI
      have HQ' := Lib.hid HQ
      have MM := Lib.hid (show mayB (Cmd.mk 7 s q nm n) = false from may_f (by unfold MayP; simp only; omega))
      clear HI HQ HN
      clear h0
      unfold Cmd.val Cmd.cs
      have D1 := Blk.fresh w 31 #[.int .i64 7, .int .i64 s, .int .i64 q, .string nm, .int .i64 n]
      have K1 := Lib.hid ((Keep.same Nothing w).alloc (.cells #[.int .i64 7, .int .i64 s, .int .i64 q, .string nm, .int .i64 n] 31))
      have c0 := D1.cell 0
      have c1 := D1.cell 1
      have c2 := D1.cell 2
      have c3 := D1.cell 3
      have c4 := D1.cell 4
      clear D1
      go_enter Try.func47, Try.ntmps47
      go_wp2_with fail
      refine (HI'.out _).mono ?_
      rintro e w' ⟨rfl, rfl⟩
      go_wp2_with fail
      refine (HQ'.out _).mono ?_
      rintro e w' ⟨rfl, rfl⟩
      go_wp2_with fail
      go_ret
      exact ⟨by rw [MM.out]; rfl, K1.out⟩
  · by_cases hm : nm.size ≤ 64
    · by_cases h0 : 1 ≤ s ∧ s ≤ 1073741824
      · by_cases h1 : 1 ≤ q ∧ q ≤ 1073741824
        · by_cases h3 : n = 0
          · have he0 : (nm.toList == []) = false := list_ne (by omega)
            have g1 : decide ((1 : Int) ≤ (nm.size : Int)) = true := decide_eq_true (by omega)
            have g2 : decide ((nm.size : Int) ≤ 64) = true := decide_eq_true (by omega)
            have q3 : (n == 0) = true := by rw [beq_iff_eq]; exact h3
            rw [show inB s 1 1073741824 = true from decide_eq_true h0] at HI
            rw [show inB q 1 1073741824 = true from decide_eq_true h1] at HQ
            have HI' := Lib.hid HI
            have HQ' := Lib.hid HQ
            have MM := Lib.hid (show mayB (Cmd.mk 7 s q nm n) = true from may_t (by unfold MayP; simp; try omega))
            clear HI HQ HN
            clear h0 h1 h3
            unfold Cmd.val Cmd.cs
            have D1 := Blk.fresh w 31 #[.int .i64 7, .int .i64 s, .int .i64 q, .string nm, .int .i64 n]
            have K1 := Lib.hid ((Keep.same Nothing w).alloc (.cells #[.int .i64 7, .int .i64 s, .int .i64 q, .string nm, .int .i64 n] 31))
            have c0 := D1.cell 0
            have c1 := D1.cell 1
            have c2 := D1.cell 2
            have c3 := D1.cell 3
            have c4 := D1.cell 4
            clear D1
            go_enter Try.func47, Try.ntmps47
            go_wp2_with fail
            refine (HI'.out _).mono ?_
            rintro e w' ⟨rfl, rfl⟩
            go_wp2_with fail
            refine (HQ'.out _).mono ?_
            rintro e w' ⟨rfl, rfl⟩
            go_wp2_with fail
            go_ret
            exact ⟨by rw [MM.out]; rfl, K1.out⟩
          · have he0 : (nm.toList == []) = false := list_ne (by omega)
            have g1 : decide ((1 : Int) ≤ (nm.size : Int)) = true := decide_eq_true (by omega)
            have g2 : decide ((nm.size : Int) ≤ 64) = true := decide_eq_true (by omega)
            have q3 : (n == 0) = false := by rw [beq_eq_false_iff_ne]; exact h3
            rw [show inB s 1 1073741824 = true from decide_eq_true h0] at HI
            rw [show inB q 1 1073741824 = true from decide_eq_true h1] at HQ
            have HI' := Lib.hid HI
            have HQ' := Lib.hid HQ
            have MM := Lib.hid (show mayB (Cmd.mk 7 s q nm n) = false from may_f (by unfold MayP; simp only; omega))
            clear HI HQ HN
            clear h0 h1 h3
            unfold Cmd.val Cmd.cs
            have D1 := Blk.fresh w 31 #[.int .i64 7, .int .i64 s, .int .i64 q, .string nm, .int .i64 n]
            have K1 := Lib.hid ((Keep.same Nothing w).alloc (.cells #[.int .i64 7, .int .i64 s, .int .i64 q, .string nm, .int .i64 n] 31))
            have c0 := D1.cell 0
            have c1 := D1.cell 1
            have c2 := D1.cell 2
            have c3 := D1.cell 3
            have c4 := D1.cell 4
            clear D1
            go_enter Try.func47, Try.ntmps47
            go_wp2_with fail
            refine (HI'.out _).mono ?_
            rintro e w' ⟨rfl, rfl⟩
            go_wp2_with fail
            refine (HQ'.out _).mono ?_
            rintro e w' ⟨rfl, rfl⟩
            go_wp2_with fail
            go_ret
            exact ⟨by rw [MM.out]; rfl, K1.out⟩
        · have he0 : (nm.toList == []) = false := list_ne (by omega)
          have g1 : decide ((1 : Int) ≤ (nm.size : Int)) = true := decide_eq_true (by omega)
          have g2 : decide ((nm.size : Int) ≤ 64) = true := decide_eq_true (by omega)
          rw [show inB s 1 1073741824 = true from decide_eq_true h0] at HI
          rw [show inB q 1 1073741824 = false from decide_eq_false h1] at HQ
          have HI' := Lib.hid HI
          have HQ' := Lib.hid HQ
          have MM := Lib.hid (show mayB (Cmd.mk 7 s q nm n) = false from may_f (by unfold MayP; simp only; omega))
          clear HI HQ HN
          clear h0 h1
          unfold Cmd.val Cmd.cs
          have D1 := Blk.fresh w 31 #[.int .i64 7, .int .i64 s, .int .i64 q, .string nm, .int .i64 n]
          have K1 := Lib.hid ((Keep.same Nothing w).alloc (.cells #[.int .i64 7, .int .i64 s, .int .i64 q, .string nm, .int .i64 n] 31))
          have c0 := D1.cell 0
          have c1 := D1.cell 1
          have c2 := D1.cell 2
          have c3 := D1.cell 3
          have c4 := D1.cell 4
          clear D1
          go_enter Try.func47, Try.ntmps47
          go_wp2_with fail
          refine (HI'.out _).mono ?_
          rintro e w' ⟨rfl, rfl⟩
          go_wp2_with fail
          refine (HQ'.out _).mono ?_
          rintro e w' ⟨rfl, rfl⟩
          go_wp2_with fail
          go_ret
          exact ⟨by rw [MM.out]; rfl, K1.out⟩
      · have he0 : (nm.toList == []) = false := list_ne (by omega)
        have g1 : decide ((1 : Int) ≤ (nm.size : Int)) = true := decide_eq_true (by omega)
        have g2 : decide ((nm.size : Int) ≤ 64) = true := decide_eq_true (by omega)
        rw [show inB s 1 1073741824 = false from decide_eq_false h0] at HI
        generalize inB q 1 1073741824 = bq at HQ
        have HI' := Lib.hid HI
        have HQ' := Lib.hid HQ
        have MM := Lib.hid (show mayB (Cmd.mk 7 s q nm n) = false from may_f (by unfold MayP; simp only; omega))
        clear HI HQ HN
        clear h0
        unfold Cmd.val Cmd.cs
        have D1 := Blk.fresh w 31 #[.int .i64 7, .int .i64 s, .int .i64 q, .string nm, .int .i64 n]
        have K1 := Lib.hid ((Keep.same Nothing w).alloc (.cells #[.int .i64 7, .int .i64 s, .int .i64 q, .string nm, .int .i64 n] 31))
        have c0 := D1.cell 0
        have c1 := D1.cell 1
        have c2 := D1.cell 2
        have c3 := D1.cell 3
        have c4 := D1.cell 4
        clear D1
        go_enter Try.func47, Try.ntmps47
        go_wp2_with fail
        refine (HI'.out _).mono ?_
        rintro e w' ⟨rfl, rfl⟩
        go_wp2_with fail
        refine (HQ'.out _).mono ?_
        rintro e w' ⟨rfl, rfl⟩
        go_wp2_with fail
        go_ret
        exact ⟨by rw [MM.out]; rfl, K1.out⟩
    · by_cases h0 : 1 ≤ s ∧ s ≤ 1073741824
      · by_cases h1 : 1 ≤ q ∧ q ≤ 1073741824
        · have he0 : (nm.toList == []) = false := list_ne (by omega)
          have g1 : decide ((1 : Int) ≤ (nm.size : Int)) = true := decide_eq_true (by omega)
          have g2 : decide ((nm.size : Int) ≤ 64) = false := decide_eq_false (by omega)
          rw [show inB s 1 1073741824 = true from decide_eq_true h0] at HI
          rw [show inB q 1 1073741824 = true from decide_eq_true h1] at HQ
          have HI' := Lib.hid HI
          have HQ' := Lib.hid HQ
          have MM := Lib.hid (show mayB (Cmd.mk 7 s q nm n) = false from may_f (by unfold MayP; simp only; omega))
          clear HI HQ HN
          clear h0 h1
          unfold Cmd.val Cmd.cs
          have D1 := Blk.fresh w 31 #[.int .i64 7, .int .i64 s, .int .i64 q, .string nm, .int .i64 n]
          have K1 := Lib.hid ((Keep.same Nothing w).alloc (.cells #[.int .i64 7, .int .i64 s, .int .i64 q, .string nm, .int .i64 n] 31))
          have c0 := D1.cell 0
          have c1 := D1.cell 1
          have c2 := D1.cell 2
          have c3 := D1.cell 3
          have c4 := D1.cell 4
          clear D1
          go_enter Try.func47, Try.ntmps47
          go_wp2_with fail
          refine (HI'.out _).mono ?_
          rintro e w' ⟨rfl, rfl⟩
          go_wp2_with fail
          refine (HQ'.out _).mono ?_
          rintro e w' ⟨rfl, rfl⟩
          go_wp2_with fail
          go_ret
          exact ⟨by rw [MM.out]; rfl, K1.out⟩
        · have he0 : (nm.toList == []) = false := list_ne (by omega)
          have g1 : decide ((1 : Int) ≤ (nm.size : Int)) = true := decide_eq_true (by omega)
          have g2 : decide ((nm.size : Int) ≤ 64) = false := decide_eq_false (by omega)
          rw [show inB s 1 1073741824 = true from decide_eq_true h0] at HI
          rw [show inB q 1 1073741824 = false from decide_eq_false h1] at HQ
          have HI' := Lib.hid HI
          have HQ' := Lib.hid HQ
          have MM := Lib.hid (show mayB (Cmd.mk 7 s q nm n) = false from may_f (by unfold MayP; simp only; omega))
          clear HI HQ HN
          clear h0 h1
          unfold Cmd.val Cmd.cs
          have D1 := Blk.fresh w 31 #[.int .i64 7, .int .i64 s, .int .i64 q, .string nm, .int .i64 n]
          have K1 := Lib.hid ((Keep.same Nothing w).alloc (.cells #[.int .i64 7, .int .i64 s, .int .i64 q, .string nm, .int .i64 n] 31))
          have c0 := D1.cell 0
          have c1 := D1.cell 1
          have c2 := D1.cell 2
          have c3 := D1.cell 3
          have c4 := D1.cell 4
          clear D1
          go_enter Try.func47, Try.ntmps47
          go_wp2_with fail
          refine (HI'.out _).mono ?_
          rintro e w' ⟨rfl, rfl⟩
          go_wp2_with fail
          refine (HQ'.out _).mono ?_
          rintro e w' ⟨rfl, rfl⟩
          go_wp2_with fail
          go_ret
          exact ⟨by rw [MM.out]; rfl, K1.out⟩
      · have he0 : (nm.toList == []) = false := list_ne (by omega)
        have g1 : decide ((1 : Int) ≤ (nm.size : Int)) = true := decide_eq_true (by omega)
        have g2 : decide ((nm.size : Int) ≤ 64) = false := decide_eq_false (by omega)
        rw [show inB s 1 1073741824 = false from decide_eq_false h0] at HI
        generalize inB q 1 1073741824 = bq at HQ
        have HI' := Lib.hid HI
        have HQ' := Lib.hid HQ
        have MM := Lib.hid (show mayB (Cmd.mk 7 s q nm n) = false from may_f (by unfold MayP; simp only; omega))
        clear HI HQ HN
        clear h0
        unfold Cmd.val Cmd.cs
        have D1 := Blk.fresh w 31 #[.int .i64 7, .int .i64 s, .int .i64 q, .string nm, .int .i64 n]
        have K1 := Lib.hid ((Keep.same Nothing w).alloc (.cells #[.int .i64 7, .int .i64 s, .int .i64 q, .string nm, .int .i64 n] 31))
        have c0 := D1.cell 0
        have c1 := D1.cell 1
        have c2 := D1.cell 2
        have c3 := D1.cell 3
        have c4 := D1.cell 4
        clear D1
        go_enter Try.func47, Try.ntmps47
        go_wp2_with fail
        refine (HI'.out _).mono ?_
        rintro e w' ⟨rfl, rfl⟩
        go_wp2_with fail
        refine (HQ'.out _).mono ?_
        rintro e w' ⟨rfl, rfl⟩
        go_wp2_with fail
        go_ret
        exact ⟨by rw [MM.out]; rfl, K1.out⟩

set_option maxHeartbeats 12800000 in
theorem rmay_8 (w : World) (s q n : Int) (nm : ByteArray) : Calls Try.prog 47 #[(Cmd.mk 8 s q nm n).val] w (maySpec (Cmd.mk 8 s q nm n) w) := by
  have hu := Try.underlying31
  have HI := fun w => within_calls w s 1 1073741824
  have HQ := fun w => within_calls w q 1 1073741824
  have HN := fun w => within_calls w n (0) 0
  by_cases hz : nm.size = 0
  · by_cases h0 : 1 ≤ s ∧ s ≤ 1073741824
    · by_cases h1 : 1 ≤ q ∧ q ≤ 1073741824
      · have he0 : (nm.toList == []) = true := by rw [size0 hz, ByteArray.toList_eq]; rfl
        have g1 : decide ((1 : Int) ≤ (nm.size : Int)) = false := decide_eq_false (by omega)
        rw [show inB s 1 1073741824 = true from decide_eq_true h0] at HI
        rw [show inB q 1 1073741824 = true from decide_eq_true h1] at HQ
        have HI' := Lib.hid HI
        have HQ' := Lib.hid HQ
        have MM := Lib.hid (show mayB (Cmd.mk 8 s q nm n) = false from may_f (by unfold MayP; simp only; omega))
        clear HI HQ HN
        clear h0 h1
        unfold Cmd.val Cmd.cs
        have D1 := Blk.fresh w 31 #[.int .i64 8, .int .i64 s, .int .i64 q, .string nm, .int .i64 n]
        have K1 := Lib.hid ((Keep.same Nothing w).alloc (.cells #[.int .i64 8, .int .i64 s, .int .i64 q, .string nm, .int .i64 n] 31))
        have c0 := D1.cell 0
        have c1 := D1.cell 1
        have c2 := D1.cell 2
        have c3 := D1.cell 3
        have c4 := D1.cell 4
        clear D1
        go_enter Try.func47, Try.ntmps47
        go_wp2_with fail
        refine (HI'.out _).mono ?_
        rintro e w' ⟨rfl, rfl⟩
        go_wp2_with fail
        refine (HQ'.out _).mono ?_
        rintro e w' ⟨rfl, rfl⟩
        go_wp2_with fail
        go_ret
        exact ⟨by rw [MM.out]; rfl, K1.out⟩
      · have he0 : (nm.toList == []) = true := by rw [size0 hz, ByteArray.toList_eq]; rfl
        have g1 : decide ((1 : Int) ≤ (nm.size : Int)) = false := decide_eq_false (by omega)
        rw [show inB s 1 1073741824 = true from decide_eq_true h0] at HI
        rw [show inB q 1 1073741824 = false from decide_eq_false h1] at HQ
        have HI' := Lib.hid HI
        have HQ' := Lib.hid HQ
        have MM := Lib.hid (show mayB (Cmd.mk 8 s q nm n) = false from may_f (by unfold MayP; simp only; omega))
        clear HI HQ HN
        clear h0 h1
        unfold Cmd.val Cmd.cs
        have D1 := Blk.fresh w 31 #[.int .i64 8, .int .i64 s, .int .i64 q, .string nm, .int .i64 n]
        have K1 := Lib.hid ((Keep.same Nothing w).alloc (.cells #[.int .i64 8, .int .i64 s, .int .i64 q, .string nm, .int .i64 n] 31))
        have c0 := D1.cell 0
        have c1 := D1.cell 1
        have c2 := D1.cell 2
        have c3 := D1.cell 3
        have c4 := D1.cell 4
        clear D1
        go_enter Try.func47, Try.ntmps47
        go_wp2_with fail
        refine (HI'.out _).mono ?_
        rintro e w' ⟨rfl, rfl⟩
        go_wp2_with fail
        refine (HQ'.out _).mono ?_
        rintro e w' ⟨rfl, rfl⟩
        go_wp2_with fail
        go_ret
        exact ⟨by rw [MM.out]; rfl, K1.out⟩
    · have he0 : (nm.toList == []) = true := by rw [size0 hz, ByteArray.toList_eq]; rfl
      have g1 : decide ((1 : Int) ≤ (nm.size : Int)) = false := decide_eq_false (by omega)
      rw [show inB s 1 1073741824 = false from decide_eq_false h0] at HI
      generalize inB q 1 1073741824 = bq at HQ
      have HI' := Lib.hid HI
      have HQ' := Lib.hid HQ
      have MM := Lib.hid (show mayB (Cmd.mk 8 s q nm n) = false from may_f (by unfold MayP; simp only; omega))
      clear HI HQ HN
      clear h0
      unfold Cmd.val Cmd.cs
      have D1 := Blk.fresh w 31 #[.int .i64 8, .int .i64 s, .int .i64 q, .string nm, .int .i64 n]
      have K1 := Lib.hid ((Keep.same Nothing w).alloc (.cells #[.int .i64 8, .int .i64 s, .int .i64 q, .string nm, .int .i64 n] 31))
      have c0 := D1.cell 0
      have c1 := D1.cell 1
      have c2 := D1.cell 2
      have c3 := D1.cell 3
      have c4 := D1.cell 4
      clear D1
      go_enter Try.func47, Try.ntmps47
      go_wp2_with fail
      refine (HI'.out _).mono ?_
      rintro e w' ⟨rfl, rfl⟩
      go_wp2_with fail
      refine (HQ'.out _).mono ?_
      rintro e w' ⟨rfl, rfl⟩
      go_wp2_with fail
      go_ret
      exact ⟨by rw [MM.out]; rfl, K1.out⟩
  · by_cases hm : nm.size ≤ 64
    · by_cases h0 : 1 ≤ s ∧ s ≤ 1073741824
      · by_cases h1 : 1 ≤ q ∧ q ≤ 1073741824
        · by_cases h3 : n = 0
          · have he0 : (nm.toList == []) = false := list_ne (by omega)
            have g1 : decide ((1 : Int) ≤ (nm.size : Int)) = true := decide_eq_true (by omega)
            have g2 : decide ((nm.size : Int) ≤ 64) = true := decide_eq_true (by omega)
            have q3 : (n == 0) = true := by rw [beq_iff_eq]; exact h3
            rw [show inB s 1 1073741824 = true from decide_eq_true h0] at HI
            rw [show inB q 1 1073741824 = true from decide_eq_true h1] at HQ
            have HI' := Lib.hid HI
            have HQ' := Lib.hid HQ
            have MM := Lib.hid (show mayB (Cmd.mk 8 s q nm n) = true from may_t (by unfold MayP; simp; try omega))
            clear HI HQ HN
            clear h0 h1 h3
            unfold Cmd.val Cmd.cs
            have D1 := Blk.fresh w 31 #[.int .i64 8, .int .i64 s, .int .i64 q, .string nm, .int .i64 n]
            have K1 := Lib.hid ((Keep.same Nothing w).alloc (.cells #[.int .i64 8, .int .i64 s, .int .i64 q, .string nm, .int .i64 n] 31))
            have c0 := D1.cell 0
            have c1 := D1.cell 1
            have c2 := D1.cell 2
            have c3 := D1.cell 3
            have c4 := D1.cell 4
            clear D1
            go_enter Try.func47, Try.ntmps47
            go_wp2_with fail
            refine (HI'.out _).mono ?_
            rintro e w' ⟨rfl, rfl⟩
            go_wp2_with fail
            refine (HQ'.out _).mono ?_
            rintro e w' ⟨rfl, rfl⟩
            go_wp2_with fail
            go_ret
            exact ⟨by rw [MM.out]; rfl, K1.out⟩
          · have he0 : (nm.toList == []) = false := list_ne (by omega)
            have g1 : decide ((1 : Int) ≤ (nm.size : Int)) = true := decide_eq_true (by omega)
            have g2 : decide ((nm.size : Int) ≤ 64) = true := decide_eq_true (by omega)
            have q3 : (n == 0) = false := by rw [beq_eq_false_iff_ne]; exact h3
            rw [show inB s 1 1073741824 = true from decide_eq_true h0] at HI
            rw [show inB q 1 1073741824 = true from decide_eq_true h1] at HQ
            have HI' := Lib.hid HI
            have HQ' := Lib.hid HQ
            have MM := Lib.hid (show mayB (Cmd.mk 8 s q nm n) = false from may_f (by unfold MayP; simp only; omega))
            clear HI HQ HN
            clear h0 h1 h3
            unfold Cmd.val Cmd.cs
            have D1 := Blk.fresh w 31 #[.int .i64 8, .int .i64 s, .int .i64 q, .string nm, .int .i64 n]
            have K1 := Lib.hid ((Keep.same Nothing w).alloc (.cells #[.int .i64 8, .int .i64 s, .int .i64 q, .string nm, .int .i64 n] 31))
            have c0 := D1.cell 0
            have c1 := D1.cell 1
            have c2 := D1.cell 2
            have c3 := D1.cell 3
            have c4 := D1.cell 4
            clear D1
            go_enter Try.func47, Try.ntmps47
            go_wp2_with fail
            refine (HI'.out _).mono ?_
            rintro e w' ⟨rfl, rfl⟩
            go_wp2_with fail
            refine (HQ'.out _).mono ?_
            rintro e w' ⟨rfl, rfl⟩
            go_wp2_with fail
            go_ret
            exact ⟨by rw [MM.out]; rfl, K1.out⟩
        · have he0 : (nm.toList == []) = false := list_ne (by omega)
          have g1 : decide ((1 : Int) ≤ (nm.size : Int)) = true := decide_eq_true (by omega)
          have g2 : decide ((nm.size : Int) ≤ 64) = true := decide_eq_true (by omega)
          rw [show inB s 1 1073741824 = true from decide_eq_true h0] at HI
          rw [show inB q 1 1073741824 = false from decide_eq_false h1] at HQ
          have HI' := Lib.hid HI
          have HQ' := Lib.hid HQ
          have MM := Lib.hid (show mayB (Cmd.mk 8 s q nm n) = false from may_f (by unfold MayP; simp only; omega))
          clear HI HQ HN
          clear h0 h1
          unfold Cmd.val Cmd.cs
          have D1 := Blk.fresh w 31 #[.int .i64 8, .int .i64 s, .int .i64 q, .string nm, .int .i64 n]
          have K1 := Lib.hid ((Keep.same Nothing w).alloc (.cells #[.int .i64 8, .int .i64 s, .int .i64 q, .string nm, .int .i64 n] 31))
          have c0 := D1.cell 0
          have c1 := D1.cell 1
          have c2 := D1.cell 2
          have c3 := D1.cell 3
          have c4 := D1.cell 4
          clear D1
          go_enter Try.func47, Try.ntmps47
          go_wp2_with fail
          refine (HI'.out _).mono ?_
          rintro e w' ⟨rfl, rfl⟩
          go_wp2_with fail
          refine (HQ'.out _).mono ?_
          rintro e w' ⟨rfl, rfl⟩
          go_wp2_with fail
          go_ret
          exact ⟨by rw [MM.out]; rfl, K1.out⟩
      · have he0 : (nm.toList == []) = false := list_ne (by omega)
        have g1 : decide ((1 : Int) ≤ (nm.size : Int)) = true := decide_eq_true (by omega)
        have g2 : decide ((nm.size : Int) ≤ 64) = true := decide_eq_true (by omega)
        rw [show inB s 1 1073741824 = false from decide_eq_false h0] at HI
        generalize inB q 1 1073741824 = bq at HQ
        have HI' := Lib.hid HI
        have HQ' := Lib.hid HQ
        have MM := Lib.hid (show mayB (Cmd.mk 8 s q nm n) = false from may_f (by unfold MayP; simp only; omega))
        clear HI HQ HN
        clear h0
        unfold Cmd.val Cmd.cs
        have D1 := Blk.fresh w 31 #[.int .i64 8, .int .i64 s, .int .i64 q, .string nm, .int .i64 n]
        have K1 := Lib.hid ((Keep.same Nothing w).alloc (.cells #[.int .i64 8, .int .i64 s, .int .i64 q, .string nm, .int .i64 n] 31))
        have c0 := D1.cell 0
        have c1 := D1.cell 1
        have c2 := D1.cell 2
        have c3 := D1.cell 3
        have c4 := D1.cell 4
        clear D1
        go_enter Try.func47, Try.ntmps47
        go_wp2_with fail
        refine (HI'.out _).mono ?_
        rintro e w' ⟨rfl, rfl⟩
        go_wp2_with fail
        refine (HQ'.out _).mono ?_
        rintro e w' ⟨rfl, rfl⟩
        go_wp2_with fail
        go_ret
        exact ⟨by rw [MM.out]; rfl, K1.out⟩
    · by_cases h0 : 1 ≤ s ∧ s ≤ 1073741824
      · by_cases h1 : 1 ≤ q ∧ q ≤ 1073741824
        · have he0 : (nm.toList == []) = false := list_ne (by omega)
          have g1 : decide ((1 : Int) ≤ (nm.size : Int)) = true := decide_eq_true (by omega)
          have g2 : decide ((nm.size : Int) ≤ 64) = false := decide_eq_false (by omega)
          rw [show inB s 1 1073741824 = true from decide_eq_true h0] at HI
          rw [show inB q 1 1073741824 = true from decide_eq_true h1] at HQ
          have HI' := Lib.hid HI
          have HQ' := Lib.hid HQ
          have MM := Lib.hid (show mayB (Cmd.mk 8 s q nm n) = false from may_f (by unfold MayP; simp only; omega))
          clear HI HQ HN
          clear h0 h1
          unfold Cmd.val Cmd.cs
          have D1 := Blk.fresh w 31 #[.int .i64 8, .int .i64 s, .int .i64 q, .string nm, .int .i64 n]
          have K1 := Lib.hid ((Keep.same Nothing w).alloc (.cells #[.int .i64 8, .int .i64 s, .int .i64 q, .string nm, .int .i64 n] 31))
          have c0 := D1.cell 0
          have c1 := D1.cell 1
          have c2 := D1.cell 2
          have c3 := D1.cell 3
          have c4 := D1.cell 4
          clear D1
          go_enter Try.func47, Try.ntmps47
          go_wp2_with fail
          refine (HI'.out _).mono ?_
          rintro e w' ⟨rfl, rfl⟩
          go_wp2_with fail
          refine (HQ'.out _).mono ?_
          rintro e w' ⟨rfl, rfl⟩
          go_wp2_with fail
          go_ret
          exact ⟨by rw [MM.out]; rfl, K1.out⟩
        · have he0 : (nm.toList == []) = false := list_ne (by omega)
          have g1 : decide ((1 : Int) ≤ (nm.size : Int)) = true := decide_eq_true (by omega)
          have g2 : decide ((nm.size : Int) ≤ 64) = false := decide_eq_false (by omega)
          rw [show inB s 1 1073741824 = true from decide_eq_true h0] at HI
          rw [show inB q 1 1073741824 = false from decide_eq_false h1] at HQ
          have HI' := Lib.hid HI
          have HQ' := Lib.hid HQ
          have MM := Lib.hid (show mayB (Cmd.mk 8 s q nm n) = false from may_f (by unfold MayP; simp only; omega))
          clear HI HQ HN
          clear h0 h1
          unfold Cmd.val Cmd.cs
          have D1 := Blk.fresh w 31 #[.int .i64 8, .int .i64 s, .int .i64 q, .string nm, .int .i64 n]
          have K1 := Lib.hid ((Keep.same Nothing w).alloc (.cells #[.int .i64 8, .int .i64 s, .int .i64 q, .string nm, .int .i64 n] 31))
          have c0 := D1.cell 0
          have c1 := D1.cell 1
          have c2 := D1.cell 2
          have c3 := D1.cell 3
          have c4 := D1.cell 4
          clear D1
          go_enter Try.func47, Try.ntmps47
          go_wp2_with fail
          refine (HI'.out _).mono ?_
          rintro e w' ⟨rfl, rfl⟩
          go_wp2_with fail
          refine (HQ'.out _).mono ?_
          rintro e w' ⟨rfl, rfl⟩
          go_wp2_with fail
          go_ret
          exact ⟨by rw [MM.out]; rfl, K1.out⟩
      · have he0 : (nm.toList == []) = false := list_ne (by omega)
        have g1 : decide ((1 : Int) ≤ (nm.size : Int)) = true := decide_eq_true (by omega)
        have g2 : decide ((nm.size : Int) ≤ 64) = false := decide_eq_false (by omega)
        rw [show inB s 1 1073741824 = false from decide_eq_false h0] at HI
        generalize inB q 1 1073741824 = bq at HQ
        have HI' := Lib.hid HI
        have HQ' := Lib.hid HQ
        have MM := Lib.hid (show mayB (Cmd.mk 8 s q nm n) = false from may_f (by unfold MayP; simp only; omega))
        clear HI HQ HN
        clear h0
        unfold Cmd.val Cmd.cs
        have D1 := Blk.fresh w 31 #[.int .i64 8, .int .i64 s, .int .i64 q, .string nm, .int .i64 n]
        have K1 := Lib.hid ((Keep.same Nothing w).alloc (.cells #[.int .i64 8, .int .i64 s, .int .i64 q, .string nm, .int .i64 n] 31))
        have c0 := D1.cell 0
        have c1 := D1.cell 1
        have c2 := D1.cell 2
        have c3 := D1.cell 3
        have c4 := D1.cell 4
        clear D1
        go_enter Try.func47, Try.ntmps47
        go_wp2_with fail
        refine (HI'.out _).mono ?_
        rintro e w' ⟨rfl, rfl⟩
        go_wp2_with fail
        refine (HQ'.out _).mono ?_
        rintro e w' ⟨rfl, rfl⟩
        go_wp2_with fail
        go_ret
        exact ⟨by rw [MM.out]; rfl, K1.out⟩
set_option maxHeartbeats 12800000 in
theorem rmay_10 (w : World) (s q n : Int) (nm : ByteArray) : Calls Try.prog 47 #[(Cmd.mk 10 s q nm n).val] w (maySpec (Cmd.mk 10 s q nm n) w) := by
  have hu := Try.underlying31
  have HI := fun w => within_calls w s 1 1073741824
  have HQ := fun w => within_calls w q 1 1073741824
  have HN := fun w => within_calls w n (0) 0
  by_cases hz : nm.size = 0
  · by_cases h0 : 1 ≤ s ∧ s ≤ 1073741824
    · by_cases h1 : 1 ≤ q ∧ q ≤ 1073741824
      · have he0 : (nm.toList == []) = true := by rw [size0 hz, ByteArray.toList_eq]; rfl
        have g1 : decide ((1 : Int) ≤ (nm.size : Int)) = false := decide_eq_false (by omega)
        rw [show inB s 1 1073741824 = true from decide_eq_true h0] at HI
        rw [show inB q 1 1073741824 = true from decide_eq_true h1] at HQ
        have HI' := Lib.hid HI
        have HQ' := Lib.hid HQ
        have MM := Lib.hid (show mayB (Cmd.mk 10 s q nm n) = false from may_f (by unfold MayP; simp only; omega))
        clear HI HQ HN
        clear h0 h1
        unfold Cmd.val Cmd.cs
        have D1 := Blk.fresh w 31 #[.int .i64 10, .int .i64 s, .int .i64 q, .string nm, .int .i64 n]
        have K1 := Lib.hid ((Keep.same Nothing w).alloc (.cells #[.int .i64 10, .int .i64 s, .int .i64 q, .string nm, .int .i64 n] 31))
        have c0 := D1.cell 0
        have c1 := D1.cell 1
        have c2 := D1.cell 2
        have c3 := D1.cell 3
        have c4 := D1.cell 4
        clear D1
        go_enter Try.func47, Try.ntmps47
        go_wp2_with fail
        refine (HI'.out _).mono ?_
        rintro e w' ⟨rfl, rfl⟩
        go_wp2_with fail
        refine (HQ'.out _).mono ?_
        rintro e w' ⟨rfl, rfl⟩
        go_wp2_with fail
        go_ret
        exact ⟨by rw [MM.out]; rfl, K1.out⟩
      · have he0 : (nm.toList == []) = true := by rw [size0 hz, ByteArray.toList_eq]; rfl
        have g1 : decide ((1 : Int) ≤ (nm.size : Int)) = false := decide_eq_false (by omega)
        rw [show inB s 1 1073741824 = true from decide_eq_true h0] at HI
        rw [show inB q 1 1073741824 = false from decide_eq_false h1] at HQ
        have HI' := Lib.hid HI
        have HQ' := Lib.hid HQ
        have MM := Lib.hid (show mayB (Cmd.mk 10 s q nm n) = false from may_f (by unfold MayP; simp only; omega))
        clear HI HQ HN
        clear h0 h1
        unfold Cmd.val Cmd.cs
        have D1 := Blk.fresh w 31 #[.int .i64 10, .int .i64 s, .int .i64 q, .string nm, .int .i64 n]
        have K1 := Lib.hid ((Keep.same Nothing w).alloc (.cells #[.int .i64 10, .int .i64 s, .int .i64 q, .string nm, .int .i64 n] 31))
        have c0 := D1.cell 0
        have c1 := D1.cell 1
        have c2 := D1.cell 2
        have c3 := D1.cell 3
        have c4 := D1.cell 4
        clear D1
        go_enter Try.func47, Try.ntmps47
        go_wp2_with fail
        refine (HI'.out _).mono ?_
        rintro e w' ⟨rfl, rfl⟩
        go_wp2_with fail
        refine (HQ'.out _).mono ?_
        rintro e w' ⟨rfl, rfl⟩
        go_wp2_with fail
        go_ret
        exact ⟨by rw [MM.out]; rfl, K1.out⟩
    · have he0 : (nm.toList == []) = true := by rw [size0 hz, ByteArray.toList_eq]; rfl
      have g1 : decide ((1 : Int) ≤ (nm.size : Int)) = false := decide_eq_false (by omega)
      rw [show inB s 1 1073741824 = false from decide_eq_false h0] at HI
      generalize inB q 1 1073741824 = bq at HQ
      have HI' := Lib.hid HI
      have HQ' := Lib.hid HQ
      have MM := Lib.hid (show mayB (Cmd.mk 10 s q nm n) = false from may_f (by unfold MayP; simp only; omega))
      clear HI HQ HN
      clear h0
      unfold Cmd.val Cmd.cs
      have D1 := Blk.fresh w 31 #[.int .i64 10, .int .i64 s, .int .i64 q, .string nm, .int .i64 n]
      have K1 := Lib.hid ((Keep.same Nothing w).alloc (.cells #[.int .i64 10, .int .i64 s, .int .i64 q, .string nm, .int .i64 n] 31))
      have c0 := D1.cell 0
      have c1 := D1.cell 1
      have c2 := D1.cell 2
      have c3 := D1.cell 3
      have c4 := D1.cell 4
      clear D1
      go_enter Try.func47, Try.ntmps47
      go_wp2_with fail
      refine (HI'.out _).mono ?_
      rintro e w' ⟨rfl, rfl⟩
      go_wp2_with fail
      refine (HQ'.out _).mono ?_
      rintro e w' ⟨rfl, rfl⟩
      go_wp2_with fail
      go_ret
      exact ⟨by rw [MM.out]; rfl, K1.out⟩
  · by_cases hm : nm.size ≤ 64
    · by_cases h0 : 1 ≤ s ∧ s ≤ 1073741824
      · by_cases h1 : 1 ≤ q ∧ q ≤ 1073741824
        · by_cases h3 : n = 0
          · have he0 : (nm.toList == []) = false := list_ne (by omega)
            have g1 : decide ((1 : Int) ≤ (nm.size : Int)) = true := decide_eq_true (by omega)
            have g2 : decide ((nm.size : Int) ≤ 64) = true := decide_eq_true (by omega)
            have q3 : (n == 0) = true := by rw [beq_iff_eq]; exact h3
            rw [show inB s 1 1073741824 = true from decide_eq_true h0] at HI
            rw [show inB q 1 1073741824 = true from decide_eq_true h1] at HQ
            have HI' := Lib.hid HI
            have HQ' := Lib.hid HQ
            have MM := Lib.hid (show mayB (Cmd.mk 10 s q nm n) = true from may_t (by unfold MayP; simp; try omega))
            clear HI HQ HN
            clear h0 h1 h3
            unfold Cmd.val Cmd.cs
            have D1 := Blk.fresh w 31 #[.int .i64 10, .int .i64 s, .int .i64 q, .string nm, .int .i64 n]
            have K1 := Lib.hid ((Keep.same Nothing w).alloc (.cells #[.int .i64 10, .int .i64 s, .int .i64 q, .string nm, .int .i64 n] 31))
            have c0 := D1.cell 0
            have c1 := D1.cell 1
            have c2 := D1.cell 2
            have c3 := D1.cell 3
            have c4 := D1.cell 4
            clear D1
            go_enter Try.func47, Try.ntmps47
            go_wp2_with fail
            refine (HI'.out _).mono ?_
            rintro e w' ⟨rfl, rfl⟩
            go_wp2_with fail
            refine (HQ'.out _).mono ?_
            rintro e w' ⟨rfl, rfl⟩
            go_wp2_with fail
            go_ret
            exact ⟨by rw [MM.out]; rfl, K1.out⟩
          · have he0 : (nm.toList == []) = false := list_ne (by omega)
            have g1 : decide ((1 : Int) ≤ (nm.size : Int)) = true := decide_eq_true (by omega)
            have g2 : decide ((nm.size : Int) ≤ 64) = true := decide_eq_true (by omega)
            have q3 : (n == 0) = false := by rw [beq_eq_false_iff_ne]; exact h3
            rw [show inB s 1 1073741824 = true from decide_eq_true h0] at HI
            rw [show inB q 1 1073741824 = true from decide_eq_true h1] at HQ
            have HI' := Lib.hid HI
            have HQ' := Lib.hid HQ
            have MM := Lib.hid (show mayB (Cmd.mk 10 s q nm n) = false from may_f (by unfold MayP; simp only; omega))
            clear HI HQ HN
            clear h0 h1 h3
            unfold Cmd.val Cmd.cs
            have D1 := Blk.fresh w 31 #[.int .i64 10, .int .i64 s, .int .i64 q, .string nm, .int .i64 n]
            have K1 := Lib.hid ((Keep.same Nothing w).alloc (.cells #[.int .i64 10, .int .i64 s, .int .i64 q, .string nm, .int .i64 n] 31))
            have c0 := D1.cell 0
            have c1 := D1.cell 1
            have c2 := D1.cell 2
            have c3 := D1.cell 3
            have c4 := D1.cell 4
            clear D1
            go_enter Try.func47, Try.ntmps47
            go_wp2_with fail
            refine (HI'.out _).mono ?_
            rintro e w' ⟨rfl, rfl⟩
            go_wp2_with fail
            refine (HQ'.out _).mono ?_
            rintro e w' ⟨rfl, rfl⟩
            go_wp2_with fail
            go_ret
            exact ⟨by rw [MM.out]; rfl, K1.out⟩
        · have he0 : (nm.toList == []) = false := list_ne (by omega)
          have g1 : decide ((1 : Int) ≤ (nm.size : Int)) = true := decide_eq_true (by omega)
          have g2 : decide ((nm.size : Int) ≤ 64) = true := decide_eq_true (by omega)
          rw [show inB s 1 1073741824 = true from decide_eq_true h0] at HI
          rw [show inB q 1 1073741824 = false from decide_eq_false h1] at HQ
          have HI' := Lib.hid HI
          have HQ' := Lib.hid HQ
          have MM := Lib.hid (show mayB (Cmd.mk 10 s q nm n) = false from may_f (by unfold MayP; simp only; omega))
          clear HI HQ HN
          clear h0 h1
          unfold Cmd.val Cmd.cs
          have D1 := Blk.fresh w 31 #[.int .i64 10, .int .i64 s, .int .i64 q, .string nm, .int .i64 n]
          have K1 := Lib.hid ((Keep.same Nothing w).alloc (.cells #[.int .i64 10, .int .i64 s, .int .i64 q, .string nm, .int .i64 n] 31))
          have c0 := D1.cell 0
          have c1 := D1.cell 1
          have c2 := D1.cell 2
          have c3 := D1.cell 3
          have c4 := D1.cell 4
          clear D1
          go_enter Try.func47, Try.ntmps47
          go_wp2_with fail
          refine (HI'.out _).mono ?_
          rintro e w' ⟨rfl, rfl⟩
          go_wp2_with fail
          refine (HQ'.out _).mono ?_
          rintro e w' ⟨rfl, rfl⟩
          go_wp2_with fail
          go_ret
          exact ⟨by rw [MM.out]; rfl, K1.out⟩
      · have he0 : (nm.toList == []) = false := list_ne (by omega)
        have g1 : decide ((1 : Int) ≤ (nm.size : Int)) = true := decide_eq_true (by omega)
        have g2 : decide ((nm.size : Int) ≤ 64) = true := decide_eq_true (by omega)
        rw [show inB s 1 1073741824 = false from decide_eq_false h0] at HI
        generalize inB q 1 1073741824 = bq at HQ
        have HI' := Lib.hid HI
        have HQ' := Lib.hid HQ
        have MM := Lib.hid (show mayB (Cmd.mk 10 s q nm n) = false from may_f (by unfold MayP; simp only; omega))
        clear HI HQ HN
        clear h0
        unfold Cmd.val Cmd.cs
        have D1 := Blk.fresh w 31 #[.int .i64 10, .int .i64 s, .int .i64 q, .string nm, .int .i64 n]
        have K1 := Lib.hid ((Keep.same Nothing w).alloc (.cells #[.int .i64 10, .int .i64 s, .int .i64 q, .string nm, .int .i64 n] 31))
        have c0 := D1.cell 0
        have c1 := D1.cell 1
        have c2 := D1.cell 2
        have c3 := D1.cell 3
        have c4 := D1.cell 4
        clear D1
        go_enter Try.func47, Try.ntmps47
        go_wp2_with fail
        refine (HI'.out _).mono ?_
        rintro e w' ⟨rfl, rfl⟩
        go_wp2_with fail
        refine (HQ'.out _).mono ?_
        rintro e w' ⟨rfl, rfl⟩
        go_wp2_with fail
        go_ret
        exact ⟨by rw [MM.out]; rfl, K1.out⟩
    · by_cases h0 : 1 ≤ s ∧ s ≤ 1073741824
      · by_cases h1 : 1 ≤ q ∧ q ≤ 1073741824
        · have he0 : (nm.toList == []) = false := list_ne (by omega)
          have g1 : decide ((1 : Int) ≤ (nm.size : Int)) = true := decide_eq_true (by omega)
          have g2 : decide ((nm.size : Int) ≤ 64) = false := decide_eq_false (by omega)
          rw [show inB s 1 1073741824 = true from decide_eq_true h0] at HI
          rw [show inB q 1 1073741824 = true from decide_eq_true h1] at HQ
          have HI' := Lib.hid HI
          have HQ' := Lib.hid HQ
          have MM := Lib.hid (show mayB (Cmd.mk 10 s q nm n) = false from may_f (by unfold MayP; simp only; omega))
          clear HI HQ HN
          clear h0 h1
          unfold Cmd.val Cmd.cs
          have D1 := Blk.fresh w 31 #[.int .i64 10, .int .i64 s, .int .i64 q, .string nm, .int .i64 n]
          have K1 := Lib.hid ((Keep.same Nothing w).alloc (.cells #[.int .i64 10, .int .i64 s, .int .i64 q, .string nm, .int .i64 n] 31))
          have c0 := D1.cell 0
          have c1 := D1.cell 1
          have c2 := D1.cell 2
          have c3 := D1.cell 3
          have c4 := D1.cell 4
          clear D1
          go_enter Try.func47, Try.ntmps47
          go_wp2_with fail
          refine (HI'.out _).mono ?_
          rintro e w' ⟨rfl, rfl⟩
          go_wp2_with fail
          refine (HQ'.out _).mono ?_
          rintro e w' ⟨rfl, rfl⟩
          go_wp2_with fail
          go_ret
          exact ⟨by rw [MM.out]; rfl, K1.out⟩
        · have he0 : (nm.toList == []) = false := list_ne (by omega)
          have g1 : decide ((1 : Int) ≤ (nm.size : Int)) = true := decide_eq_true (by omega)
          have g2 : decide ((nm.size : Int) ≤ 64) = false := decide_eq_false (by omega)
          rw [show inB s 1 1073741824 = true from decide_eq_true h0] at HI
          rw [show inB q 1 1073741824 = false from decide_eq_false h1] at HQ
          have HI' := Lib.hid HI
          have HQ' := Lib.hid HQ
          have MM := Lib.hid (show mayB (Cmd.mk 10 s q nm n) = false from may_f (by unfold MayP; simp only; omega))
          clear HI HQ HN
          clear h0 h1
          unfold Cmd.val Cmd.cs
          have D1 := Blk.fresh w 31 #[.int .i64 10, .int .i64 s, .int .i64 q, .string nm, .int .i64 n]
          have K1 := Lib.hid ((Keep.same Nothing w).alloc (.cells #[.int .i64 10, .int .i64 s, .int .i64 q, .string nm, .int .i64 n] 31))
          have c0 := D1.cell 0
          have c1 := D1.cell 1
          have c2 := D1.cell 2
          have c3 := D1.cell 3
          have c4 := D1.cell 4
          clear D1
          go_enter Try.func47, Try.ntmps47
          go_wp2_with fail
          refine (HI'.out _).mono ?_
          rintro e w' ⟨rfl, rfl⟩
          go_wp2_with fail
          refine (HQ'.out _).mono ?_
          rintro e w' ⟨rfl, rfl⟩
          go_wp2_with fail
          go_ret
          exact ⟨by rw [MM.out]; rfl, K1.out⟩
      · have he0 : (nm.toList == []) = false := list_ne (by omega)
        have g1 : decide ((1 : Int) ≤ (nm.size : Int)) = true := decide_eq_true (by omega)
        have g2 : decide ((nm.size : Int) ≤ 64) = false := decide_eq_false (by omega)
        rw [show inB s 1 1073741824 = false from decide_eq_false h0] at HI
        generalize inB q 1 1073741824 = bq at HQ
        have HI' := Lib.hid HI
        have HQ' := Lib.hid HQ
        have MM := Lib.hid (show mayB (Cmd.mk 10 s q nm n) = false from may_f (by unfold MayP; simp only; omega))
        clear HI HQ HN
        clear h0
        unfold Cmd.val Cmd.cs
        have D1 := Blk.fresh w 31 #[.int .i64 10, .int .i64 s, .int .i64 q, .string nm, .int .i64 n]
        have K1 := Lib.hid ((Keep.same Nothing w).alloc (.cells #[.int .i64 10, .int .i64 s, .int .i64 q, .string nm, .int .i64 n] 31))
        have c0 := D1.cell 0
        have c1 := D1.cell 1
        have c2 := D1.cell 2
        have c3 := D1.cell 3
        have c4 := D1.cell 4
        clear D1
        go_enter Try.func47, Try.ntmps47
        go_wp2_with fail
        refine (HI'.out _).mono ?_
        rintro e w' ⟨rfl, rfl⟩
        go_wp2_with fail
        refine (HQ'.out _).mono ?_
        rintro e w' ⟨rfl, rfl⟩
        go_wp2_with fail
        go_ret
        exact ⟨by rw [MM.out]; rfl, K1.out⟩
set_option maxHeartbeats 12800000 in
theorem rmay_11 (w : World) (s q n : Int) (nm : ByteArray) : Calls Try.prog 47 #[(Cmd.mk 11 s q nm n).val] w (maySpec (Cmd.mk 11 s q nm n) w) := by
  have hu := Try.underlying31
  have HI := fun w => within_calls w s 1 1073741824
  have HQ := fun w => within_calls w q 1 1073741824
  have HN := fun w => within_calls w n (0) 0
  by_cases hz : nm.size = 0
  · by_cases h0 : 1 ≤ s ∧ s ≤ 1073741824
    · by_cases h1 : 1 ≤ q ∧ q ≤ 1073741824
      · have he0 : (nm.toList == []) = true := by rw [size0 hz, ByteArray.toList_eq]; rfl
        have g1 : decide ((1 : Int) ≤ (nm.size : Int)) = false := decide_eq_false (by omega)
        rw [show inB s 1 1073741824 = true from decide_eq_true h0] at HI
        rw [show inB q 1 1073741824 = true from decide_eq_true h1] at HQ
        have HI' := Lib.hid HI
        have HQ' := Lib.hid HQ
        have MM := Lib.hid (show mayB (Cmd.mk 11 s q nm n) = false from may_f (by unfold MayP; simp only; omega))
        clear HI HQ HN
        clear h0 h1
        unfold Cmd.val Cmd.cs
        have D1 := Blk.fresh w 31 #[.int .i64 11, .int .i64 s, .int .i64 q, .string nm, .int .i64 n]
        have K1 := Lib.hid ((Keep.same Nothing w).alloc (.cells #[.int .i64 11, .int .i64 s, .int .i64 q, .string nm, .int .i64 n] 31))
        have c0 := D1.cell 0
        have c1 := D1.cell 1
        have c2 := D1.cell 2
        have c3 := D1.cell 3
        have c4 := D1.cell 4
        clear D1
        go_enter Try.func47, Try.ntmps47
        go_wp2_with fail
        refine (HI'.out _).mono ?_
        rintro e w' ⟨rfl, rfl⟩
        go_wp2_with fail
        refine (HQ'.out _).mono ?_
        rintro e w' ⟨rfl, rfl⟩
        go_wp2_with fail
        go_ret
        exact ⟨by rw [MM.out]; rfl, K1.out⟩
      · have he0 : (nm.toList == []) = true := by rw [size0 hz, ByteArray.toList_eq]; rfl
        have g1 : decide ((1 : Int) ≤ (nm.size : Int)) = false := decide_eq_false (by omega)
        rw [show inB s 1 1073741824 = true from decide_eq_true h0] at HI
        rw [show inB q 1 1073741824 = false from decide_eq_false h1] at HQ
        have HI' := Lib.hid HI
        have HQ' := Lib.hid HQ
        have MM := Lib.hid (show mayB (Cmd.mk 11 s q nm n) = false from may_f (by unfold MayP; simp only; omega))
        clear HI HQ HN
        clear h0 h1
        unfold Cmd.val Cmd.cs
        have D1 := Blk.fresh w 31 #[.int .i64 11, .int .i64 s, .int .i64 q, .string nm, .int .i64 n]
        have K1 := Lib.hid ((Keep.same Nothing w).alloc (.cells #[.int .i64 11, .int .i64 s, .int .i64 q, .string nm, .int .i64 n] 31))
        have c0 := D1.cell 0
        have c1 := D1.cell 1
        have c2 := D1.cell 2
        have c3 := D1.cell 3
        have c4 := D1.cell 4
        clear D1
        go_enter Try.func47, Try.ntmps47
        go_wp2_with fail
        refine (HI'.out _).mono ?_
        rintro e w' ⟨rfl, rfl⟩
        go_wp2_with fail
        refine (HQ'.out _).mono ?_
        rintro e w' ⟨rfl, rfl⟩
        go_wp2_with fail
        go_ret
        exact ⟨by rw [MM.out]; rfl, K1.out⟩
    · have he0 : (nm.toList == []) = true := by rw [size0 hz, ByteArray.toList_eq]; rfl
      have g1 : decide ((1 : Int) ≤ (nm.size : Int)) = false := decide_eq_false (by omega)
      rw [show inB s 1 1073741824 = false from decide_eq_false h0] at HI
      generalize inB q 1 1073741824 = bq at HQ
      have HI' := Lib.hid HI
      have HQ' := Lib.hid HQ
      have MM := Lib.hid (show mayB (Cmd.mk 11 s q nm n) = false from may_f (by unfold MayP; simp only; omega))
      clear HI HQ HN
      clear h0
      unfold Cmd.val Cmd.cs
      have D1 := Blk.fresh w 31 #[.int .i64 11, .int .i64 s, .int .i64 q, .string nm, .int .i64 n]
      have K1 := Lib.hid ((Keep.same Nothing w).alloc (.cells #[.int .i64 11, .int .i64 s, .int .i64 q, .string nm, .int .i64 n] 31))
      have c0 := D1.cell 0
      have c1 := D1.cell 1
      have c2 := D1.cell 2
      have c3 := D1.cell 3
      have c4 := D1.cell 4
      clear D1
      go_enter Try.func47, Try.ntmps47
      go_wp2_with fail
      refine (HI'.out _).mono ?_
      rintro e w' ⟨rfl, rfl⟩
      go_wp2_with fail
      refine (HQ'.out _).mono ?_
      rintro e w' ⟨rfl, rfl⟩
      go_wp2_with fail
      go_ret
      exact ⟨by rw [MM.out]; rfl, K1.out⟩
  · by_cases hm : nm.size ≤ 64
    · by_cases h0 : 1 ≤ s ∧ s ≤ 1073741824
      · by_cases h1 : 1 ≤ q ∧ q ≤ 1073741824
        · by_cases h3 : n = 0
          · have he0 : (nm.toList == []) = false := list_ne (by omega)
            have g1 : decide ((1 : Int) ≤ (nm.size : Int)) = true := decide_eq_true (by omega)
            have g2 : decide ((nm.size : Int) ≤ 64) = true := decide_eq_true (by omega)
            have q3 : (n == 0) = true := by rw [beq_iff_eq]; exact h3
            rw [show inB s 1 1073741824 = true from decide_eq_true h0] at HI
            rw [show inB q 1 1073741824 = true from decide_eq_true h1] at HQ
            have HI' := Lib.hid HI
            have HQ' := Lib.hid HQ
            have MM := Lib.hid (show mayB (Cmd.mk 11 s q nm n) = true from may_t (by unfold MayP; simp; try omega))
            clear HI HQ HN
            clear h0 h1 h3
            unfold Cmd.val Cmd.cs
            have D1 := Blk.fresh w 31 #[.int .i64 11, .int .i64 s, .int .i64 q, .string nm, .int .i64 n]
            have K1 := Lib.hid ((Keep.same Nothing w).alloc (.cells #[.int .i64 11, .int .i64 s, .int .i64 q, .string nm, .int .i64 n] 31))
            have c0 := D1.cell 0
            have c1 := D1.cell 1
            have c2 := D1.cell 2
            have c3 := D1.cell 3
            have c4 := D1.cell 4
            clear D1
            go_enter Try.func47, Try.ntmps47
            go_wp2_with fail
            refine (HI'.out _).mono ?_
            rintro e w' ⟨rfl, rfl⟩
            go_wp2_with fail
            refine (HQ'.out _).mono ?_
            rintro e w' ⟨rfl, rfl⟩
            go_wp2_with fail
            go_ret
            exact ⟨by rw [MM.out]; rfl, K1.out⟩
          · have he0 : (nm.toList == []) = false := list_ne (by omega)
            have g1 : decide ((1 : Int) ≤ (nm.size : Int)) = true := decide_eq_true (by omega)
            have g2 : decide ((nm.size : Int) ≤ 64) = true := decide_eq_true (by omega)
            have q3 : (n == 0) = false := by rw [beq_eq_false_iff_ne]; exact h3
            rw [show inB s 1 1073741824 = true from decide_eq_true h0] at HI
            rw [show inB q 1 1073741824 = true from decide_eq_true h1] at HQ
            have HI' := Lib.hid HI
            have HQ' := Lib.hid HQ
            have MM := Lib.hid (show mayB (Cmd.mk 11 s q nm n) = false from may_f (by unfold MayP; simp only; omega))
            clear HI HQ HN
            clear h0 h1 h3
            unfold Cmd.val Cmd.cs
            have D1 := Blk.fresh w 31 #[.int .i64 11, .int .i64 s, .int .i64 q, .string nm, .int .i64 n]
            have K1 := Lib.hid ((Keep.same Nothing w).alloc (.cells #[.int .i64 11, .int .i64 s, .int .i64 q, .string nm, .int .i64 n] 31))
            have c0 := D1.cell 0
            have c1 := D1.cell 1
            have c2 := D1.cell 2
            have c3 := D1.cell 3
            have c4 := D1.cell 4
            clear D1
            go_enter Try.func47, Try.ntmps47
            go_wp2_with fail
            refine (HI'.out _).mono ?_
            rintro e w' ⟨rfl, rfl⟩
            go_wp2_with fail
            refine (HQ'.out _).mono ?_
            rintro e w' ⟨rfl, rfl⟩
            go_wp2_with fail
            go_ret
            exact ⟨by rw [MM.out]; rfl, K1.out⟩
        · have he0 : (nm.toList == []) = false := list_ne (by omega)
          have g1 : decide ((1 : Int) ≤ (nm.size : Int)) = true := decide_eq_true (by omega)
          have g2 : decide ((nm.size : Int) ≤ 64) = true := decide_eq_true (by omega)
          rw [show inB s 1 1073741824 = true from decide_eq_true h0] at HI
          rw [show inB q 1 1073741824 = false from decide_eq_false h1] at HQ
          have HI' := Lib.hid HI
          have HQ' := Lib.hid HQ
          have MM := Lib.hid (show mayB (Cmd.mk 11 s q nm n) = false from may_f (by unfold MayP; simp only; omega))
          clear HI HQ HN
          clear h0 h1
          unfold Cmd.val Cmd.cs
          have D1 := Blk.fresh w 31 #[.int .i64 11, .int .i64 s, .int .i64 q, .string nm, .int .i64 n]
          have K1 := Lib.hid ((Keep.same Nothing w).alloc (.cells #[.int .i64 11, .int .i64 s, .int .i64 q, .string nm, .int .i64 n] 31))
          have c0 := D1.cell 0
          have c1 := D1.cell 1
          have c2 := D1.cell 2
          have c3 := D1.cell 3
          have c4 := D1.cell 4
          clear D1
          go_enter Try.func47, Try.ntmps47
          go_wp2_with fail
          refine (HI'.out _).mono ?_
          rintro e w' ⟨rfl, rfl⟩
          go_wp2_with fail
          refine (HQ'.out _).mono ?_
          rintro e w' ⟨rfl, rfl⟩
          go_wp2_with fail
          go_ret
          exact ⟨by rw [MM.out]; rfl, K1.out⟩
      · have he0 : (nm.toList == []) = false := list_ne (by omega)
        have g1 : decide ((1 : Int) ≤ (nm.size : Int)) = true := decide_eq_true (by omega)
        have g2 : decide ((nm.size : Int) ≤ 64) = true := decide_eq_true (by omega)
        rw [show inB s 1 1073741824 = false from decide_eq_false h0] at HI
        generalize inB q 1 1073741824 = bq at HQ
        have HI' := Lib.hid HI
        have HQ' := Lib.hid HQ
        have MM := Lib.hid (show mayB (Cmd.mk 11 s q nm n) = false from may_f (by unfold MayP; simp only; omega))
        clear HI HQ HN
        clear h0
        unfold Cmd.val Cmd.cs
        have D1 := Blk.fresh w 31 #[.int .i64 11, .int .i64 s, .int .i64 q, .string nm, .int .i64 n]
        have K1 := Lib.hid ((Keep.same Nothing w).alloc (.cells #[.int .i64 11, .int .i64 s, .int .i64 q, .string nm, .int .i64 n] 31))
        have c0 := D1.cell 0
        have c1 := D1.cell 1
        have c2 := D1.cell 2
        have c3 := D1.cell 3
        have c4 := D1.cell 4
        clear D1
        go_enter Try.func47, Try.ntmps47
        go_wp2_with fail
        refine (HI'.out _).mono ?_
        rintro e w' ⟨rfl, rfl⟩
        go_wp2_with fail
        refine (HQ'.out _).mono ?_
        rintro e w' ⟨rfl, rfl⟩
        go_wp2_with fail
        go_ret
        exact ⟨by rw [MM.out]; rfl, K1.out⟩
    · by_cases h0 : 1 ≤ s ∧ s ≤ 1073741824
      · by_cases h1 : 1 ≤ q ∧ q ≤ 1073741824
        · have he0 : (nm.toList == []) = false := list_ne (by omega)
          have g1 : decide ((1 : Int) ≤ (nm.size : Int)) = true := decide_eq_true (by omega)
          have g2 : decide ((nm.size : Int) ≤ 64) = false := decide_eq_false (by omega)
          rw [show inB s 1 1073741824 = true from decide_eq_true h0] at HI
          rw [show inB q 1 1073741824 = true from decide_eq_true h1] at HQ
          have HI' := Lib.hid HI
          have HQ' := Lib.hid HQ
          have MM := Lib.hid (show mayB (Cmd.mk 11 s q nm n) = false from may_f (by unfold MayP; simp only; omega))
          clear HI HQ HN
          clear h0 h1
          unfold Cmd.val Cmd.cs
          have D1 := Blk.fresh w 31 #[.int .i64 11, .int .i64 s, .int .i64 q, .string nm, .int .i64 n]
          have K1 := Lib.hid ((Keep.same Nothing w).alloc (.cells #[.int .i64 11, .int .i64 s, .int .i64 q, .string nm, .int .i64 n] 31))
          have c0 := D1.cell 0
          have c1 := D1.cell 1
          have c2 := D1.cell 2
          have c3 := D1.cell 3
          have c4 := D1.cell 4
          clear D1
          go_enter Try.func47, Try.ntmps47
          go_wp2_with fail
          refine (HI'.out _).mono ?_
          rintro e w' ⟨rfl, rfl⟩
          go_wp2_with fail
          refine (HQ'.out _).mono ?_
          rintro e w' ⟨rfl, rfl⟩
          go_wp2_with fail
          go_ret
          exact ⟨by rw [MM.out]; rfl, K1.out⟩
        · have he0 : (nm.toList == []) = false := list_ne (by omega)
          have g1 : decide ((1 : Int) ≤ (nm.size : Int)) = true := decide_eq_true (by omega)
          have g2 : decide ((nm.size : Int) ≤ 64) = false := decide_eq_false (by omega)
          rw [show inB s 1 1073741824 = true from decide_eq_true h0] at HI
          rw [show inB q 1 1073741824 = false from decide_eq_false h1] at HQ
          have HI' := Lib.hid HI
          have HQ' := Lib.hid HQ
          have MM := Lib.hid (show mayB (Cmd.mk 11 s q nm n) = false from may_f (by unfold MayP; simp only; omega))
          clear HI HQ HN
          clear h0 h1
          unfold Cmd.val Cmd.cs
          have D1 := Blk.fresh w 31 #[.int .i64 11, .int .i64 s, .int .i64 q, .string nm, .int .i64 n]
          have K1 := Lib.hid ((Keep.same Nothing w).alloc (.cells #[.int .i64 11, .int .i64 s, .int .i64 q, .string nm, .int .i64 n] 31))
          have c0 := D1.cell 0
          have c1 := D1.cell 1
          have c2 := D1.cell 2
          have c3 := D1.cell 3
          have c4 := D1.cell 4
          clear D1
          go_enter Try.func47, Try.ntmps47
          go_wp2_with fail
          refine (HI'.out _).mono ?_
          rintro e w' ⟨rfl, rfl⟩
          go_wp2_with fail
          refine (HQ'.out _).mono ?_
          rintro e w' ⟨rfl, rfl⟩
          go_wp2_with fail
          go_ret
          exact ⟨by rw [MM.out]; rfl, K1.out⟩
      · have he0 : (nm.toList == []) = false := list_ne (by omega)
        have g1 : decide ((1 : Int) ≤ (nm.size : Int)) = true := decide_eq_true (by omega)
        have g2 : decide ((nm.size : Int) ≤ 64) = false := decide_eq_false (by omega)
        rw [show inB s 1 1073741824 = false from decide_eq_false h0] at HI
        generalize inB q 1 1073741824 = bq at HQ
        have HI' := Lib.hid HI
        have HQ' := Lib.hid HQ
        have MM := Lib.hid (show mayB (Cmd.mk 11 s q nm n) = false from may_f (by unfold MayP; simp only; omega))
        clear HI HQ HN
        clear h0
        unfold Cmd.val Cmd.cs
        have D1 := Blk.fresh w 31 #[.int .i64 11, .int .i64 s, .int .i64 q, .string nm, .int .i64 n]
        have K1 := Lib.hid ((Keep.same Nothing w).alloc (.cells #[.int .i64 11, .int .i64 s, .int .i64 q, .string nm, .int .i64 n] 31))
        have c0 := D1.cell 0
        have c1 := D1.cell 1
        have c2 := D1.cell 2
        have c3 := D1.cell 3
        have c4 := D1.cell 4
        clear D1
        go_enter Try.func47, Try.ntmps47
        go_wp2_with fail
        refine (HI'.out _).mono ?_
        rintro e w' ⟨rfl, rfl⟩
        go_wp2_with fail
        refine (HQ'.out _).mono ?_
        rintro e w' ⟨rfl, rfl⟩
        go_wp2_with fail
        go_ret
        exact ⟨by rw [MM.out]; rfl, K1.out⟩
set_option maxHeartbeats 12800000 in
theorem rmay_12 (w : World) (s q n : Int) (nm : ByteArray) : Calls Try.prog 47 #[(Cmd.mk 12 s q nm n).val] w (maySpec (Cmd.mk 12 s q nm n) w) := by
  have hu := Try.underlying31
  have HI := fun w => within_calls w s 1 1073741824
  have HQ := fun w => within_calls w q 1 1073741824
  have HN := fun w => within_calls w n (0) 0
  by_cases hz : nm.size = 0
  · by_cases h0 : 1 ≤ s ∧ s ≤ 1073741824
    · by_cases h1 : 1 ≤ q ∧ q ≤ 1073741824
      · have he0 : (nm.toList == []) = true := by rw [size0 hz, ByteArray.toList_eq]; rfl
        have g1 : decide ((1 : Int) ≤ (nm.size : Int)) = false := decide_eq_false (by omega)
        rw [show inB s 1 1073741824 = true from decide_eq_true h0] at HI
        rw [show inB q 1 1073741824 = true from decide_eq_true h1] at HQ
        have HI' := Lib.hid HI
        have HQ' := Lib.hid HQ
        have MM := Lib.hid (show mayB (Cmd.mk 12 s q nm n) = false from may_f (by unfold MayP; simp only; omega))
        clear HI HQ HN
        clear h0 h1
        unfold Cmd.val Cmd.cs
        have D1 := Blk.fresh w 31 #[.int .i64 12, .int .i64 s, .int .i64 q, .string nm, .int .i64 n]
        have K1 := Lib.hid ((Keep.same Nothing w).alloc (.cells #[.int .i64 12, .int .i64 s, .int .i64 q, .string nm, .int .i64 n] 31))
        have c0 := D1.cell 0
        have c1 := D1.cell 1
        have c2 := D1.cell 2
        have c3 := D1.cell 3
        have c4 := D1.cell 4
        clear D1
        go_enter Try.func47, Try.ntmps47
        go_wp2_with fail
        refine (HI'.out _).mono ?_
        rintro e w' ⟨rfl, rfl⟩
        go_wp2_with fail
        refine (HQ'.out _).mono ?_
        rintro e w' ⟨rfl, rfl⟩
        go_wp2_with fail
        go_ret
        exact ⟨by rw [MM.out]; rfl, K1.out⟩
      · have he0 : (nm.toList == []) = true := by rw [size0 hz, ByteArray.toList_eq]; rfl
        have g1 : decide ((1 : Int) ≤ (nm.size : Int)) = false := decide_eq_false (by omega)
        rw [show inB s 1 1073741824 = true from decide_eq_true h0] at HI
        rw [show inB q 1 1073741824 = false from decide_eq_false h1] at HQ
        have HI' := Lib.hid HI
        have HQ' := Lib.hid HQ
        have MM := Lib.hid (show mayB (Cmd.mk 12 s q nm n) = false from may_f (by unfold MayP; simp only; omega))
        clear HI HQ HN
        clear h0 h1
        unfold Cmd.val Cmd.cs
        have D1 := Blk.fresh w 31 #[.int .i64 12, .int .i64 s, .int .i64 q, .string nm, .int .i64 n]
        have K1 := Lib.hid ((Keep.same Nothing w).alloc (.cells #[.int .i64 12, .int .i64 s, .int .i64 q, .string nm, .int .i64 n] 31))
        have c0 := D1.cell 0
        have c1 := D1.cell 1
        have c2 := D1.cell 2
        have c3 := D1.cell 3
        have c4 := D1.cell 4
        clear D1
        go_enter Try.func47, Try.ntmps47
        go_wp2_with fail
        refine (HI'.out _).mono ?_
        rintro e w' ⟨rfl, rfl⟩
        go_wp2_with fail
        refine (HQ'.out _).mono ?_
        rintro e w' ⟨rfl, rfl⟩
        go_wp2_with fail
        go_ret
        exact ⟨by rw [MM.out]; rfl, K1.out⟩
    · have he0 : (nm.toList == []) = true := by rw [size0 hz, ByteArray.toList_eq]; rfl
      have g1 : decide ((1 : Int) ≤ (nm.size : Int)) = false := decide_eq_false (by omega)
      rw [show inB s 1 1073741824 = false from decide_eq_false h0] at HI
      generalize inB q 1 1073741824 = bq at HQ
      have HI' := Lib.hid HI
      have HQ' := Lib.hid HQ
      have MM := Lib.hid (show mayB (Cmd.mk 12 s q nm n) = false from may_f (by unfold MayP; simp only; omega))
      clear HI HQ HN
      clear h0
      unfold Cmd.val Cmd.cs
      have D1 := Blk.fresh w 31 #[.int .i64 12, .int .i64 s, .int .i64 q, .string nm, .int .i64 n]
      have K1 := Lib.hid ((Keep.same Nothing w).alloc (.cells #[.int .i64 12, .int .i64 s, .int .i64 q, .string nm, .int .i64 n] 31))
      have c0 := D1.cell 0
      have c1 := D1.cell 1
      have c2 := D1.cell 2
      have c3 := D1.cell 3
      have c4 := D1.cell 4
      clear D1
      go_enter Try.func47, Try.ntmps47
      go_wp2_with fail
      refine (HI'.out _).mono ?_
      rintro e w' ⟨rfl, rfl⟩
      go_wp2_with fail
      refine (HQ'.out _).mono ?_
      rintro e w' ⟨rfl, rfl⟩
      go_wp2_with fail
      go_ret
      exact ⟨by rw [MM.out]; rfl, K1.out⟩
  · by_cases hm : nm.size ≤ 64
    · by_cases h0 : 1 ≤ s ∧ s ≤ 1073741824
      · by_cases h1 : 1 ≤ q ∧ q ≤ 1073741824
        · by_cases h3 : n = 0
          · have he0 : (nm.toList == []) = false := list_ne (by omega)
            have g1 : decide ((1 : Int) ≤ (nm.size : Int)) = true := decide_eq_true (by omega)
            have g2 : decide ((nm.size : Int) ≤ 64) = true := decide_eq_true (by omega)
            have q3 : (n == 0) = true := by rw [beq_iff_eq]; exact h3
            rw [show inB s 1 1073741824 = true from decide_eq_true h0] at HI
            rw [show inB q 1 1073741824 = true from decide_eq_true h1] at HQ
            have HI' := Lib.hid HI
            have HQ' := Lib.hid HQ
            have MM := Lib.hid (show mayB (Cmd.mk 12 s q nm n) = true from may_t (by unfold MayP; simp; try omega))
            clear HI HQ HN
            clear h0 h1 h3
            unfold Cmd.val Cmd.cs
            have D1 := Blk.fresh w 31 #[.int .i64 12, .int .i64 s, .int .i64 q, .string nm, .int .i64 n]
            have K1 := Lib.hid ((Keep.same Nothing w).alloc (.cells #[.int .i64 12, .int .i64 s, .int .i64 q, .string nm, .int .i64 n] 31))
            have c0 := D1.cell 0
            have c1 := D1.cell 1
            have c2 := D1.cell 2
            have c3 := D1.cell 3
            have c4 := D1.cell 4
            clear D1
            go_enter Try.func47, Try.ntmps47
            go_wp2_with fail
            refine (HI'.out _).mono ?_
            rintro e w' ⟨rfl, rfl⟩
            go_wp2_with fail
            refine (HQ'.out _).mono ?_
            rintro e w' ⟨rfl, rfl⟩
            go_wp2_with fail
            go_ret
            exact ⟨by rw [MM.out]; rfl, K1.out⟩
          · have he0 : (nm.toList == []) = false := list_ne (by omega)
            have g1 : decide ((1 : Int) ≤ (nm.size : Int)) = true := decide_eq_true (by omega)
            have g2 : decide ((nm.size : Int) ≤ 64) = true := decide_eq_true (by omega)
            have q3 : (n == 0) = false := by rw [beq_eq_false_iff_ne]; exact h3
            rw [show inB s 1 1073741824 = true from decide_eq_true h0] at HI
            rw [show inB q 1 1073741824 = true from decide_eq_true h1] at HQ
            have HI' := Lib.hid HI
            have HQ' := Lib.hid HQ
            have MM := Lib.hid (show mayB (Cmd.mk 12 s q nm n) = false from may_f (by unfold MayP; simp only; omega))
            clear HI HQ HN
            clear h0 h1 h3
            unfold Cmd.val Cmd.cs
            have D1 := Blk.fresh w 31 #[.int .i64 12, .int .i64 s, .int .i64 q, .string nm, .int .i64 n]
            have K1 := Lib.hid ((Keep.same Nothing w).alloc (.cells #[.int .i64 12, .int .i64 s, .int .i64 q, .string nm, .int .i64 n] 31))
            have c0 := D1.cell 0
            have c1 := D1.cell 1
            have c2 := D1.cell 2
            have c3 := D1.cell 3
            have c4 := D1.cell 4
            clear D1
            go_enter Try.func47, Try.ntmps47
            go_wp2_with fail
            refine (HI'.out _).mono ?_
            rintro e w' ⟨rfl, rfl⟩
            go_wp2_with fail
            refine (HQ'.out _).mono ?_
            rintro e w' ⟨rfl, rfl⟩
            go_wp2_with fail
            go_ret
            exact ⟨by rw [MM.out]; rfl, K1.out⟩
        · have he0 : (nm.toList == []) = false := list_ne (by omega)
          have g1 : decide ((1 : Int) ≤ (nm.size : Int)) = true := decide_eq_true (by omega)
          have g2 : decide ((nm.size : Int) ≤ 64) = true := decide_eq_true (by omega)
          rw [show inB s 1 1073741824 = true from decide_eq_true h0] at HI
          rw [show inB q 1 1073741824 = false from decide_eq_false h1] at HQ
          have HI' := Lib.hid HI
          have HQ' := Lib.hid HQ
          have MM := Lib.hid (show mayB (Cmd.mk 12 s q nm n) = false from may_f (by unfold MayP; simp only; omega))
          clear HI HQ HN
          clear h0 h1
          unfold Cmd.val Cmd.cs
          have D1 := Blk.fresh w 31 #[.int .i64 12, .int .i64 s, .int .i64 q, .string nm, .int .i64 n]
          have K1 := Lib.hid ((Keep.same Nothing w).alloc (.cells #[.int .i64 12, .int .i64 s, .int .i64 q, .string nm, .int .i64 n] 31))
          have c0 := D1.cell 0
          have c1 := D1.cell 1
          have c2 := D1.cell 2
          have c3 := D1.cell 3
          have c4 := D1.cell 4
          clear D1
          go_enter Try.func47, Try.ntmps47
          go_wp2_with fail
          refine (HI'.out _).mono ?_
          rintro e w' ⟨rfl, rfl⟩
          go_wp2_with fail
          refine (HQ'.out _).mono ?_
          rintro e w' ⟨rfl, rfl⟩
          go_wp2_with fail
          go_ret
          exact ⟨by rw [MM.out]; rfl, K1.out⟩
      · have he0 : (nm.toList == []) = false := list_ne (by omega)
        have g1 : decide ((1 : Int) ≤ (nm.size : Int)) = true := decide_eq_true (by omega)
        have g2 : decide ((nm.size : Int) ≤ 64) = true := decide_eq_true (by omega)
        rw [show inB s 1 1073741824 = false from decide_eq_false h0] at HI
        generalize inB q 1 1073741824 = bq at HQ
        have HI' := Lib.hid HI
        have HQ' := Lib.hid HQ
        have MM := Lib.hid (show mayB (Cmd.mk 12 s q nm n) = false from may_f (by unfold MayP; simp only; omega))
        clear HI HQ HN
        clear h0
        unfold Cmd.val Cmd.cs
        have D1 := Blk.fresh w 31 #[.int .i64 12, .int .i64 s, .int .i64 q, .string nm, .int .i64 n]
        have K1 := Lib.hid ((Keep.same Nothing w).alloc (.cells #[.int .i64 12, .int .i64 s, .int .i64 q, .string nm, .int .i64 n] 31))
        have c0 := D1.cell 0
        have c1 := D1.cell 1
        have c2 := D1.cell 2
        have c3 := D1.cell 3
        have c4 := D1.cell 4
        clear D1
        go_enter Try.func47, Try.ntmps47
        go_wp2_with fail
        refine (HI'.out _).mono ?_
        rintro e w' ⟨rfl, rfl⟩
        go_wp2_with fail
        refine (HQ'.out _).mono ?_
        rintro e w' ⟨rfl, rfl⟩
        go_wp2_with fail
        go_ret
        exact ⟨by rw [MM.out]; rfl, K1.out⟩
    · by_cases h0 : 1 ≤ s ∧ s ≤ 1073741824
      · by_cases h1 : 1 ≤ q ∧ q ≤ 1073741824
        · have he0 : (nm.toList == []) = false := list_ne (by omega)
          have g1 : decide ((1 : Int) ≤ (nm.size : Int)) = true := decide_eq_true (by omega)
          have g2 : decide ((nm.size : Int) ≤ 64) = false := decide_eq_false (by omega)
          rw [show inB s 1 1073741824 = true from decide_eq_true h0] at HI
          rw [show inB q 1 1073741824 = true from decide_eq_true h1] at HQ
          have HI' := Lib.hid HI
          have HQ' := Lib.hid HQ
          have MM := Lib.hid (show mayB (Cmd.mk 12 s q nm n) = false from may_f (by unfold MayP; simp only; omega))
          clear HI HQ HN
          clear h0 h1
          unfold Cmd.val Cmd.cs
          have D1 := Blk.fresh w 31 #[.int .i64 12, .int .i64 s, .int .i64 q, .string nm, .int .i64 n]
          have K1 := Lib.hid ((Keep.same Nothing w).alloc (.cells #[.int .i64 12, .int .i64 s, .int .i64 q, .string nm, .int .i64 n] 31))
          have c0 := D1.cell 0
          have c1 := D1.cell 1
          have c2 := D1.cell 2
          have c3 := D1.cell 3
          have c4 := D1.cell 4
          clear D1
          go_enter Try.func47, Try.ntmps47
          go_wp2_with fail
          refine (HI'.out _).mono ?_
          rintro e w' ⟨rfl, rfl⟩
          go_wp2_with fail
          refine (HQ'.out _).mono ?_
          rintro e w' ⟨rfl, rfl⟩
          go_wp2_with fail
          go_ret
          exact ⟨by rw [MM.out]; rfl, K1.out⟩
        · have he0 : (nm.toList == []) = false := list_ne (by omega)
          have g1 : decide ((1 : Int) ≤ (nm.size : Int)) = true := decide_eq_true (by omega)
          have g2 : decide ((nm.size : Int) ≤ 64) = false := decide_eq_false (by omega)
          rw [show inB s 1 1073741824 = true from decide_eq_true h0] at HI
          rw [show inB q 1 1073741824 = false from decide_eq_false h1] at HQ
          have HI' := Lib.hid HI
          have HQ' := Lib.hid HQ
          have MM := Lib.hid (show mayB (Cmd.mk 12 s q nm n) = false from may_f (by unfold MayP; simp only; omega))
          clear HI HQ HN
          clear h0 h1
          unfold Cmd.val Cmd.cs
          have D1 := Blk.fresh w 31 #[.int .i64 12, .int .i64 s, .int .i64 q, .string nm, .int .i64 n]
          have K1 := Lib.hid ((Keep.same Nothing w).alloc (.cells #[.int .i64 12, .int .i64 s, .int .i64 q, .string nm, .int .i64 n] 31))
          have c0 := D1.cell 0
          have c1 := D1.cell 1
          have c2 := D1.cell 2
          have c3 := D1.cell 3
          have c4 := D1.cell 4
          clear D1
          go_enter Try.func47, Try.ntmps47
          go_wp2_with fail
          refine (HI'.out _).mono ?_
          rintro e w' ⟨rfl, rfl⟩
          go_wp2_with fail
          refine (HQ'.out _).mono ?_
          rintro e w' ⟨rfl, rfl⟩
          go_wp2_with fail
          go_ret
          exact ⟨by rw [MM.out]; rfl, K1.out⟩
      · have he0 : (nm.toList == []) = false := list_ne (by omega)
        have g1 : decide ((1 : Int) ≤ (nm.size : Int)) = true := decide_eq_true (by omega)
        have g2 : decide ((nm.size : Int) ≤ 64) = false := decide_eq_false (by omega)
        rw [show inB s 1 1073741824 = false from decide_eq_false h0] at HI
        generalize inB q 1 1073741824 = bq at HQ
        have HI' := Lib.hid HI
        have HQ' := Lib.hid HQ
        have MM := Lib.hid (show mayB (Cmd.mk 12 s q nm n) = false from may_f (by unfold MayP; simp only; omega))
        clear HI HQ HN
        clear h0
        unfold Cmd.val Cmd.cs
        have D1 := Blk.fresh w 31 #[.int .i64 12, .int .i64 s, .int .i64 q, .string nm, .int .i64 n]
        have K1 := Lib.hid ((Keep.same Nothing w).alloc (.cells #[.int .i64 12, .int .i64 s, .int .i64 q, .string nm, .int .i64 n] 31))
        have c0 := D1.cell 0
        have c1 := D1.cell 1
        have c2 := D1.cell 2
        have c3 := D1.cell 3
        have c4 := D1.cell 4
        clear D1
        go_enter Try.func47, Try.ntmps47
        go_wp2_with fail
        refine (HI'.out _).mono ?_
        rintro e w' ⟨rfl, rfl⟩
        go_wp2_with fail
        refine (HQ'.out _).mono ?_
        rintro e w' ⟨rfl, rfl⟩
        go_wp2_with fail
        go_ret
        exact ⟨by rw [MM.out]; rfl, K1.out⟩
end Go.Proofs.Ythlfcinjmljbjaa.A
