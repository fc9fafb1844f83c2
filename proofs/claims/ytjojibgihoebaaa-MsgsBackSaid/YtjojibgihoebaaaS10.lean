/-
  The reference's May: kind 0, and no kind.
-/
import Derived.Test.YtjojibgihoebaaaS1
namespace Go.Proofs.Ytjojibgihoebaaa.A
open Go.RowKit Go.Proofs.Ytjojibgihoebaaa.U
set_option linter.unusedVariables false
set_option linter.unusedSimpArgs false
set_option maxRecDepth 100000

set_option maxHeartbeats 12800000 in
theorem rmay_other (w : World) (k s q n : Int) (nm : ByteArray) (h : k < 0 ∨ 12 < k) : Calls Try.prog 38 #[(Cmd.mk k s q nm n).val] w (maySpec (Cmd.mk k s q nm n) w) := by
  have hu := Try.underlying52
  have M := Lib.hid (may_f (c := Cmd.mk k s q nm n) (by unfold MayP; simp only; omega))
  have k0 : (k == 0) = false := by rw [beq_eq_false_iff_ne]; omega
  have k1 : (k == 1) = false := by rw [beq_eq_false_iff_ne]; omega
  have k2 : (k == 2) = false := by rw [beq_eq_false_iff_ne]; omega
  have k3 : (k == 3) = false := by rw [beq_eq_false_iff_ne]; omega
  have k4 : (k == 4) = false := by rw [beq_eq_false_iff_ne]; omega
  have k5 : (k == 5) = false := by rw [beq_eq_false_iff_ne]; omega
  have k6 : (k == 6) = false := by rw [beq_eq_false_iff_ne]; omega
  have k7 : (k == 7) = false := by rw [beq_eq_false_iff_ne]; omega
  have k8 : (k == 8) = false := by rw [beq_eq_false_iff_ne]; omega
  have k9 : (k == 9) = false := by rw [beq_eq_false_iff_ne]; omega
  have k10 : (k == 10) = false := by rw [beq_eq_false_iff_ne]; omega
  have k11 : (k == 11) = false := by rw [beq_eq_false_iff_ne]; omega
  have k12 : (k == 12) = false := by rw [beq_eq_false_iff_ne]; omega
  clear h
  by_cases hz : nm.size = 0
  · have he0 : (nm.toList == []) = true := by rw [size0 hz, ByteArray.toList_eq]; rfl
    have g1 : decide ((1 : Int) ≤ (nm.size : Int)) = false := decide_eq_false (by omega)
    have HI := fun w => within_calls w s 1 1073741824
    have HQ := fun w => within_calls w q 1 1073741824
    generalize inB s 1 1073741824 = bi at HI
    generalize inB q 1 1073741824 = bq at HQ
    have HI' := Lib.hid HI
    have HQ' := Lib.hid HQ
    clear HI HQ
    unfold Cmd.val Cmd.cs
    have D1 := Blk.fresh w 52 #[.int .i64 k, .int .i64 s, .int .i64 q, .string nm, .int .i64 n]
    have K1 := Lib.hid ((Keep.same Nothing w).alloc (.cells #[.int .i64 k, .int .i64 s, .int .i64 q, .string nm, .int .i64 n] 52))
    have c0 := D1.cell 0
    have c1 := D1.cell 1
    have c2 := D1.cell 2
    have c3 := D1.cell 3
    have c4 := D1.cell 4
    clear D1
    go_enter Try.func38, Try.ntmps38
    go_wp2_with fail
    refine (HI'.out _).mono ?_
    rintro e w' ⟨rfl, rfl⟩
    go_wp2_with fail
    refine (HQ'.out _).mono ?_
    rintro e w' ⟨rfl, rfl⟩
    go_wp2_with fail
    all_goals go_ret
    all_goals exact ⟨by rw [M.out]; rfl, K1.out⟩
  · by_cases hm : nm.size ≤ 64
    · have he0 : (nm.toList == []) = false := list_ne (by omega)
      have g1 : decide ((1 : Int) ≤ (nm.size : Int)) = true := decide_eq_true (by omega)
      have g2 : decide ((nm.size : Int) ≤ 64) = true := decide_eq_true (by omega)
      have HI := fun w => within_calls w s 1 1073741824
      have HQ := fun w => within_calls w q 1 1073741824
      generalize inB s 1 1073741824 = bi at HI
      generalize inB q 1 1073741824 = bq at HQ
      have HI' := Lib.hid HI
      have HQ' := Lib.hid HQ
      clear HI HQ
      unfold Cmd.val Cmd.cs
      have D1 := Blk.fresh w 52 #[.int .i64 k, .int .i64 s, .int .i64 q, .string nm, .int .i64 n]
      have K1 := Lib.hid ((Keep.same Nothing w).alloc (.cells #[.int .i64 k, .int .i64 s, .int .i64 q, .string nm, .int .i64 n] 52))
      have c0 := D1.cell 0
      have c1 := D1.cell 1
      have c2 := D1.cell 2
      have c3 := D1.cell 3
      have c4 := D1.cell 4
      clear D1
      go_enter Try.func38, Try.ntmps38
      go_wp2_with fail
      refine (HI'.out _).mono ?_
      rintro e w' ⟨rfl, rfl⟩
      go_wp2_with fail
      refine (HQ'.out _).mono ?_
      rintro e w' ⟨rfl, rfl⟩
      go_wp2_with fail
      all_goals go_ret
      all_goals exact ⟨by rw [M.out]; rfl, K1.out⟩
    · have he0 : (nm.toList == []) = false := list_ne (by omega)
      have g1 : decide ((1 : Int) ≤ (nm.size : Int)) = true := decide_eq_true (by omega)
      have g2 : decide ((nm.size : Int) ≤ 64) = false := decide_eq_false (by omega)
      have HI := fun w => within_calls w s 1 1073741824
      have HQ := fun w => within_calls w q 1 1073741824
      generalize inB s 1 1073741824 = bi at HI
      generalize inB q 1 1073741824 = bq at HQ
      have HI' := Lib.hid HI
      have HQ' := Lib.hid HQ
      clear HI HQ
      unfold Cmd.val Cmd.cs
      have D1 := Blk.fresh w 52 #[.int .i64 k, .int .i64 s, .int .i64 q, .string nm, .int .i64 n]
      have K1 := Lib.hid ((Keep.same Nothing w).alloc (.cells #[.int .i64 k, .int .i64 s, .int .i64 q, .string nm, .int .i64 n] 52))
      have c0 := D1.cell 0
      have c1 := D1.cell 1
      have c2 := D1.cell 2
      have c3 := D1.cell 3
      have c4 := D1.cell 4
      clear D1
      go_enter Try.func38, Try.ntmps38
      go_wp2_with fail
      refine (HI'.out _).mono ?_
      rintro e w' ⟨rfl, rfl⟩
      go_wp2_with fail
      refine (HQ'.out _).mono ?_
      rintro e w' ⟨rfl, rfl⟩
      go_wp2_with fail
      all_goals go_ret
      all_goals exact ⟨by rw [M.out]; rfl, K1.out⟩
set_option maxHeartbeats 12800000 in
theorem rmay_0 (w : World) (s q n : Int) (nm : ByteArray) : Calls Try.prog 38 #[(Cmd.mk 0 s q nm n).val] w (maySpec (Cmd.mk 0 s q nm n) w) := by
  have hu := Try.underlying52
  by_cases hs : s = 0
  · subst hs
    by_cases hq : q = 0
    · subst hq
      by_cases hz : nm.size = 0
      · have he := size0 hz
        subst he
        by_cases hn : n = 0
        · subst hn
          have M := Lib.hid (may_t (c := Cmd.mk 0 0 0 ByteArray.empty 0) (by decide))
          clear hz
          have HI := fun w => within_calls w 0 1 1073741824
          have HQ := fun w => within_calls w 0 1 1073741824
          generalize inB 0 1 1073741824 = bi at HI
          generalize inB 0 1 1073741824 = bq at HQ
          have HI' := Lib.hid HI
          have HQ' := Lib.hid HQ
          clear HI HQ
          unfold Cmd.val Cmd.cs
          have D1 := Blk.fresh w 52 #[.int .i64 0, .int .i64 0, .int .i64 0, .string ByteArray.empty, .int .i64 0]
          have K1 := Lib.hid ((Keep.same Nothing w).alloc (.cells #[.int .i64 0, .int .i64 0, .int .i64 0, .string ByteArray.empty, .int .i64 0] 52))
          have c0 := D1.cell 0
          have c1 := D1.cell 1
          have c2 := D1.cell 2
          have c3 := D1.cell 3
          have c4 := D1.cell 4
          clear D1
          go_enter Try.func38, Try.ntmps38
          go_wp2_with fail
          refine (HI'.out _).mono ?_
          rintro e w' ⟨rfl, rfl⟩
          go_wp2_with fail
          refine (HQ'.out _).mono ?_
          rintro e w' ⟨rfl, rfl⟩
          go_wp2_with fail
          all_goals go_ret
          all_goals exact ⟨by rw [M.out]; rfl, K1.out⟩
        · have M := Lib.hid (may_f (c := Cmd.mk 0 0 0 ByteArray.empty n) (by unfold MayP; simp only; omega))
          have gn : (n == 0) = false := by rw [beq_eq_false_iff_ne]; exact hn
          clear hz
          have HI := fun w => within_calls w 0 1 1073741824
          have HQ := fun w => within_calls w 0 1 1073741824
          generalize inB 0 1 1073741824 = bi at HI
          generalize inB 0 1 1073741824 = bq at HQ
          have HI' := Lib.hid HI
          have HQ' := Lib.hid HQ
          clear HI HQ
          unfold Cmd.val Cmd.cs
          have D1 := Blk.fresh w 52 #[.int .i64 0, .int .i64 0, .int .i64 0, .string ByteArray.empty, .int .i64 n]
          have K1 := Lib.hid ((Keep.same Nothing w).alloc (.cells #[.int .i64 0, .int .i64 0, .int .i64 0, .string ByteArray.empty, .int .i64 n] 52))
          have c0 := D1.cell 0
          have c1 := D1.cell 1
          have c2 := D1.cell 2
          have c3 := D1.cell 3
          have c4 := D1.cell 4
          clear D1
          go_enter Try.func38, Try.ntmps38
          go_wp2_with fail
          refine (HI'.out _).mono ?_
          rintro e w' ⟨rfl, rfl⟩
          go_wp2_with fail
          refine (HQ'.out _).mono ?_
          rintro e w' ⟨rfl, rfl⟩
          go_wp2_with fail
          all_goals go_ret
          all_goals exact ⟨by rw [M.out]; rfl, K1.out⟩
      · by_cases hm : nm.size ≤ 64
        · have M := Lib.hid (may_f (c := Cmd.mk 0 0 0 nm n) (by unfold MayP; simp only; omega))
          have he0 : (nm.toList == []) = false := list_ne (by omega)
          have g1 : decide ((1 : Int) ≤ (nm.size : Int)) = true := decide_eq_true (by omega)
          have g2 : decide ((nm.size : Int) ≤ 64) = true := decide_eq_true (by omega)
          have HI := fun w => within_calls w 0 1 1073741824
          have HQ := fun w => within_calls w 0 1 1073741824
          generalize inB 0 1 1073741824 = bi at HI
          generalize inB 0 1 1073741824 = bq at HQ
          have HI' := Lib.hid HI
          have HQ' := Lib.hid HQ
          clear HI HQ
          unfold Cmd.val Cmd.cs
          have D1 := Blk.fresh w 52 #[.int .i64 0, .int .i64 0, .int .i64 0, .string nm, .int .i64 n]
          have K1 := Lib.hid ((Keep.same Nothing w).alloc (.cells #[.int .i64 0, .int .i64 0, .int .i64 0, .string nm, .int .i64 n] 52))
          have c0 := D1.cell 0
          have c1 := D1.cell 1
          have c2 := D1.cell 2
          have c3 := D1.cell 3
          have c4 := D1.cell 4
          clear D1
          go_enter Try.func38, Try.ntmps38
          go_wp2_with fail
          refine (HI'.out _).mono ?_
          rintro e w' ⟨rfl, rfl⟩
          go_wp2_with fail
          refine (HQ'.out _).mono ?_
          rintro e w' ⟨rfl, rfl⟩
          go_wp2_with fail
          all_goals go_ret
          all_goals exact ⟨by rw [M.out]; rfl, K1.out⟩
        · have M := Lib.hid (may_f (c := Cmd.mk 0 0 0 nm n) (by unfold MayP; simp only; omega))
          have he0 : (nm.toList == []) = false := list_ne (by omega)
          have g1 : decide ((1 : Int) ≤ (nm.size : Int)) = true := decide_eq_true (by omega)
          have g2 : decide ((nm.size : Int) ≤ 64) = false := decide_eq_false (by omega)
          have HI := fun w => within_calls w 0 1 1073741824
          have HQ := fun w => within_calls w 0 1 1073741824
          generalize inB 0 1 1073741824 = bi at HI
          generalize inB 0 1 1073741824 = bq at HQ
          have HI' := Lib.hid HI
          have HQ' := Lib.hid HQ
          clear HI HQ
          unfold Cmd.val Cmd.cs
          have D1 := Blk.fresh w 52 #[.int .i64 0, .int .i64 0, .int .i64 0, .string nm, .int .i64 n]
          have K1 := Lib.hid ((Keep.same Nothing w).alloc (.cells #[.int .i64 0, .int .i64 0, .int .i64 0, .string nm, .int .i64 n] 52))
          have c0 := D1.cell 0
          have c1 := D1.cell 1
          have c2 := D1.cell 2
          have c3 := D1.cell 3
          have c4 := D1.cell 4
          clear D1
          go_enter Try.func38, Try.ntmps38
          go_wp2_with fail
          refine (HI'.out _).mono ?_
          rintro e w' ⟨rfl, rfl⟩
          go_wp2_with fail
          refine (HQ'.out _).mono ?_
          rintro e w' ⟨rfl, rfl⟩
          go_wp2_with fail
          all_goals go_ret
          all_goals exact ⟨by rw [M.out]; rfl, K1.out⟩
    · have M := Lib.hid (may_f (c := Cmd.mk 0 0 q nm n) (by unfold MayP; simp only; omega))
      have gq : (q == 0) = false := by rw [beq_eq_false_iff_ne]; exact hq
      by_cases hz : nm.size = 0
      · have he0 : (nm.toList == []) = true := by rw [size0 hz, ByteArray.toList_eq]; rfl
        have g1 : decide ((1 : Int) ≤ (nm.size : Int)) = false := decide_eq_false (by omega)
        have HI := fun w => within_calls w 0 1 1073741824
        have HQ := fun w => within_calls w q 1 1073741824
        generalize inB 0 1 1073741824 = bi at HI
        generalize inB q 1 1073741824 = bq at HQ
        have HI' := Lib.hid HI
        have HQ' := Lib.hid HQ
        clear HI HQ
        unfold Cmd.val Cmd.cs
        have D1 := Blk.fresh w 52 #[.int .i64 0, .int .i64 0, .int .i64 q, .string nm, .int .i64 n]
        have K1 := Lib.hid ((Keep.same Nothing w).alloc (.cells #[.int .i64 0, .int .i64 0, .int .i64 q, .string nm, .int .i64 n] 52))
        have c0 := D1.cell 0
        have c1 := D1.cell 1
        have c2 := D1.cell 2
        have c3 := D1.cell 3
        have c4 := D1.cell 4
        clear D1
        go_enter Try.func38, Try.ntmps38
        go_wp2_with fail
        refine (HI'.out _).mono ?_
        rintro e w' ⟨rfl, rfl⟩
        go_wp2_with fail
        refine (HQ'.out _).mono ?_
        rintro e w' ⟨rfl, rfl⟩
        go_wp2_with fail
        all_goals go_ret
        all_goals exact ⟨by rw [M.out]; rfl, K1.out⟩
      · by_cases hm : nm.size ≤ 64
        · have he0 : (nm.toList == []) = false := list_ne (by omega)
          have g1 : decide ((1 : Int) ≤ (nm.size : Int)) = true := decide_eq_true (by omega)
          have g2 : decide ((nm.size : Int) ≤ 64) = true := decide_eq_true (by omega)
          have HI := fun w => within_calls w 0 1 1073741824
          have HQ := fun w => within_calls w q 1 1073741824
          generalize inB 0 1 1073741824 = bi at HI
          generalize inB q 1 1073741824 = bq at HQ
          have HI' := Lib.hid HI
          have HQ' := Lib.hid HQ
          clear HI HQ
          unfold Cmd.val Cmd.cs
          have D1 := Blk.fresh w 52 #[.int .i64 0, .int .i64 0, .int .i64 q, .string nm, .int .i64 n]
          have K1 := Lib.hid ((Keep.same Nothing w).alloc (.cells #[.int .i64 0, .int .i64 0, .int .i64 q, .string nm, .int .i64 n] 52))
          have c0 := D1.cell 0
          have c1 := D1.cell 1
          have c2 := D1.cell 2
          have c3 := D1.cell 3
          have c4 := D1.cell 4
          clear D1
          go_enter Try.func38, Try.ntmps38
          go_wp2_with fail
          refine (HI'.out _).mono ?_
          rintro e w' ⟨rfl, rfl⟩
          go_wp2_with fail
          refine (HQ'.out _).mono ?_
          rintro e w' ⟨rfl, rfl⟩
          go_wp2_with fail
          all_goals go_ret
          all_goals exact ⟨by rw [M.out]; rfl, K1.out⟩
        · have he0 : (nm.toList == []) = false := list_ne (by omega)
          have g1 : decide ((1 : Int) ≤ (nm.size : Int)) = true := decide_eq_true (by omega)
          have g2 : decide ((nm.size : Int) ≤ 64) = false := decide_eq_false (by omega)
          have HI := fun w => within_calls w 0 1 1073741824
          have HQ := fun w => within_calls w q 1 1073741824
          generalize inB 0 1 1073741824 = bi at HI
          generalize inB q 1 1073741824 = bq at HQ
          have HI' := Lib.hid HI
          have HQ' := Lib.hid HQ
          clear HI HQ
          unfold Cmd.val Cmd.cs
          have D1 := Blk.fresh w 52 #[.int .i64 0, .int .i64 0, .int .i64 q, .string nm, .int .i64 n]
          have K1 := Lib.hid ((Keep.same Nothing w).alloc (.cells #[.int .i64 0, .int .i64 0, .int .i64 q, .string nm, .int .i64 n] 52))
          have c0 := D1.cell 0
          have c1 := D1.cell 1
          have c2 := D1.cell 2
          have c3 := D1.cell 3
          have c4 := D1.cell 4
          clear D1
          go_enter Try.func38, Try.ntmps38
          go_wp2_with fail
          refine (HI'.out _).mono ?_
          rintro e w' ⟨rfl, rfl⟩
          go_wp2_with fail
          refine (HQ'.out _).mono ?_
          rintro e w' ⟨rfl, rfl⟩
          go_wp2_with fail
          all_goals go_ret
          all_goals exact ⟨by rw [M.out]; rfl, K1.out⟩
  · have M := Lib.hid (may_f (c := Cmd.mk 0 s q nm n) (by unfold MayP; simp only; omega))
    have gs : (s == 0) = false := by rw [beq_eq_false_iff_ne]; exact hs
    by_cases hz : nm.size = 0
    · have he0 : (nm.toList == []) = true := by rw [size0 hz, ByteArray.toList_eq]; rfl
      have g1 : decide ((1 : Int) ≤ (nm.size : Int)) = false := decide_eq_false (by omega)
      have HI := fun w => within_calls w s 1 1073741824
      have HQ := fun w => within_calls w q 1 1073741824
      generalize inB s 1 1073741824 = bi at HI
      generalize inB q 1 1073741824 = bq at HQ
      have HI' := Lib.hid HI
      have HQ' := Lib.hid HQ
      clear HI HQ
      unfold Cmd.val Cmd.cs
      have D1 := Blk.fresh w 52 #[.int .i64 0, .int .i64 s, .int .i64 q, .string nm, .int .i64 n]
      have K1 := Lib.hid ((Keep.same Nothing w).alloc (.cells #[.int .i64 0, .int .i64 s, .int .i64 q, .string nm, .int .i64 n] 52))
      have c0 := D1.cell 0
      have c1 := D1.cell 1
      have c2 := D1.cell 2
      have c3 := D1.cell 3
      have c4 := D1.cell 4
      clear D1
      go_enter Try.func38, Try.ntmps38
      go_wp2_with fail
      refine (HI'.out _).mono ?_
      rintro e w' ⟨rfl, rfl⟩
      go_wp2_with fail
      refine (HQ'.out _).mono ?_
      rintro e w' ⟨rfl, rfl⟩
      go_wp2_with fail
      all_goals go_ret
      all_goals exact ⟨by rw [M.out]; rfl, K1.out⟩
    · by_cases hm : nm.size ≤ 64
      · have he0 : (nm.toList == []) = false := list_ne (by omega)
        have g1 : decide ((1 : Int) ≤ (nm.size : Int)) = true := decide_eq_true (by omega)
        have g2 : decide ((nm.size : Int) ≤ 64) = true := decide_eq_true (by omega)
        have HI := fun w => within_calls w s 1 1073741824
        have HQ := fun w => within_calls w q 1 1073741824
        generalize inB s 1 1073741824 = bi at HI
        generalize inB q 1 1073741824 = bq at HQ
        have HI' := Lib.hid HI
        have HQ' := Lib.hid HQ
        clear HI HQ
        unfold Cmd.val Cmd.cs
        have D1 := Blk.fresh w 52 #[.int .i64 0, .int .i64 s, .int .i64 q, .string nm, .int .i64 n]
        have K1 := Lib.hid ((Keep.same Nothing w).alloc (.cells #[.int .i64 0, .int .i64 s, .int .i64 q, .string nm, .int .i64 n] 52))
        have c0 := D1.cell 0
        have c1 := D1.cell 1
        have c2 := D1.cell 2
        have c3 := D1.cell 3
        have c4 := D1.cell 4
        clear D1
        go_enter Try.func38, Try.ntmps38
        go_wp2_with fail
        refine (HI'.out _).mono ?_
        rintro e w' ⟨rfl, rfl⟩
        go_wp2_with fail
        refine (HQ'.out _).mono ?_
        rintro e w' ⟨rfl, rfl⟩
        go_wp2_with fail
        all_goals go_ret
        all_goals exact ⟨by rw [M.out]; rfl, K1.out⟩
      · have he0 : (nm.toList == []) = false := list_ne (by omega)
        have g1 : decide ((1 : Int) ≤ (nm.size : Int)) = true := decide_eq_true (by omega)
        have g2 : decide ((nm.size : Int) ≤ 64) = false := decide_eq_false (by omega)
        have HI := fun w => within_calls w s 1 1073741824
        have HQ := fun w => within_calls w q 1 1073741824
        generalize inB s 1 1073741824 = bi at HI
        generalize inB q 1 1073741824 = bq at HQ
        have HI' := Lib.hid HI
        have HQ' := Lib.hid HQ
        clear HI HQ
        unfold Cmd.val Cmd.cs
        have D1 := Blk.fresh w 52 #[.int .i64 0, .int .i64 s, .int .i64 q, .string nm, .int .i64 n]
        have K1 := Lib.hid ((Keep.same Nothing w).alloc (.cells #[.int .i64 0, .int .i64 s, .int .i64 q, .string nm, .int .i64 n] 52))
        have c0 := D1.cell 0
        have c1 := D1.cell 1
        have c2 := D1.cell 2
        have c3 := D1.cell 3
        have c4 := D1.cell 4
        clear D1
        go_enter Try.func38, Try.ntmps38
        go_wp2_with fail
        refine (HI'.out _).mono ?_
        rintro e w' ⟨rfl, rfl⟩
        go_wp2_with fail
        refine (HQ'.out _).mono ?_
        rintro e w' ⟨rfl, rfl⟩
        go_wp2_with fail
        all_goals go_ret
        all_goals exact ⟨by rw [M.out]; rfl, K1.out⟩
end Go.Proofs.Ytjojibgihoebaaa.A
