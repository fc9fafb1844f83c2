/-
  Which commands may be: kinds 1 to 4.
-/
import Derived.Test.YthlfcinjmljbjaaS1
namespace Go.Proofs.Ythlfcinjmljbjaa.A
open Go.RowKit Go.Proofs.Ythlfcinjmljbjaa.U
set_option linter.unusedVariables false
set_option linter.unusedSimpArgs false
set_option maxRecDepth 100000

set_option maxHeartbeats 8000000 in
theorem may_1 (w : World) (s q n : Int) (nm : ByteArray) : Calls Try.prog 30 #[(Cmd.mk 1 s q nm n).val] w (maySpec (Cmd.mk 1 s q nm n) w) := by
  have hu := Try.underlying31
  have hu2 := Try.underlying89
  have HP := Lib.hid (fun w => pack_calls w (Cmd.mk 1 s q nm n))
  have HB := fun w => in_calls w s 0 0
  have HD := fun w => in_calls w n 1 1099511627776
  by_cases h1 : 0 ≤ s ∧ s ≤ 0
  · by_cases h2 : q = 0
    · by_cases h3 : nm.size = 0
      · by_cases h4 : 1 ≤ n ∧ n ≤ 1099511627776
        · have M := Lib.hid (may_t (c := Cmd.mk 1 s q nm n) (by have hnm := size0 h3; subst hnm; unfold MayP; simp; try omega))
          rw [show inB s 0 0 = true from decide_eq_true h1] at HB
          have gq : (q == 0) = true := by rw [beq_iff_eq]; exact h2
          have he0 : (nm.toList == []) = true := by rw [size0 h3, ByteArray.toList_eq]; rfl
          rw [show inB n 1 1099511627776 = true from decide_eq_true h4] at HD
          have HB' := Lib.hid HB
          have HD' := Lib.hid HD
          clear HB HD h1 h2 h3 h4
          unfold Cmd.val Cmd.cs at HP ⊢
          go_enter Try.func30, Try.ntmps30
          go_wp2_with fail
          refine (HP.out _).mono ?_
          rintro e w1 ⟨rfl, hk1⟩
          have K1 := Lib.hid (((Keep.same Nothing w).alloc (.cells #[.int .i64 1, .int .i64 s, .int .i64 q, .string nm, .int .i64 n] 31)).then hk1)
          have D1 := (Blk.fresh w 31 #[.int .i64 1, .int .i64 s, .int .i64 q, .string nm, .int .i64 n]).keep hk1 (fun h => h)
          have D2 := D1.alloc (.cells #[.int .i64 1, .int .i64 s, .int .i64 q, .int .i64 n] 89)
          have E2 := Blk.fresh w1 89 #[.int .i64 1, .int .i64 s, .int .i64 q, .int .i64 n]
          have K2 := Lib.hid (K1.out.alloc (.cells #[.int .i64 1, .int .i64 s, .int .i64 q, .int .i64 n] 89))
          have c0 := D2.cell 0
          have c1 := D2.cell 1
          have c2 := D2.cell 2
          have c3 := D2.cell 3
          have c4 := D2.cell 4
          have a1 := E2.cell 1
          have a2 := E2.cell 2
          have a3 := E2.cell 3
          clear hk1 D1 D2 E2
          go_wp2_with fail
          refine (HB'.out _).mono ?_
          rintro e w' ⟨rfl, rfl⟩
          go_wp2_with fail
          refine (HD'.out _).mono ?_
          rintro e w' ⟨rfl, rfl⟩
          go_wp2_with fail
          go_ret
          exact ⟨by rw [M.out]; rfl, K2.out⟩
        · have M := Lib.hid (may_f (c := Cmd.mk 1 s q nm n) (by unfold MayP; simp only; omega))
          rw [show inB s 0 0 = true from decide_eq_true h1] at HB
          have gq : (q == 0) = true := by rw [beq_iff_eq]; exact h2
          have he0 : (nm.toList == []) = true := by rw [size0 h3, ByteArray.toList_eq]; rfl
          rw [show inB n 1 1099511627776 = false from decide_eq_false h4] at HD
          have HB' := Lib.hid HB
          have HD' := Lib.hid HD
          clear HB HD h1 h2 h3 h4
          unfold Cmd.val Cmd.cs at HP ⊢
          go_enter Try.func30, Try.ntmps30
          go_wp2_with fail
          refine (HP.out _).mono ?_
          rintro e w1 ⟨rfl, hk1⟩
          have K1 := Lib.hid (((Keep.same Nothing w).alloc (.cells #[.int .i64 1, .int .i64 s, .int .i64 q, .string nm, .int .i64 n] 31)).then hk1)
          have D1 := (Blk.fresh w 31 #[.int .i64 1, .int .i64 s, .int .i64 q, .string nm, .int .i64 n]).keep hk1 (fun h => h)
          have D2 := D1.alloc (.cells #[.int .i64 1, .int .i64 s, .int .i64 q, .int .i64 n] 89)
          have E2 := Blk.fresh w1 89 #[.int .i64 1, .int .i64 s, .int .i64 q, .int .i64 n]
          have K2 := Lib.hid (K1.out.alloc (.cells #[.int .i64 1, .int .i64 s, .int .i64 q, .int .i64 n] 89))
          have c0 := D2.cell 0
          have c1 := D2.cell 1
          have c2 := D2.cell 2
          have c3 := D2.cell 3
          have c4 := D2.cell 4
          have a1 := E2.cell 1
          have a2 := E2.cell 2
          have a3 := E2.cell 3
          clear hk1 D1 D2 E2
          go_wp2_with fail
          refine (HB'.out _).mono ?_
          rintro e w' ⟨rfl, rfl⟩
          go_wp2_with fail
          refine (HD'.out _).mono ?_
          rintro e w' ⟨rfl, rfl⟩
          go_wp2_with fail
          go_ret
          exact ⟨by rw [M.out]; rfl, K2.out⟩
      · have M := Lib.hid (may_f (c := Cmd.mk 1 s q nm n) (by unfold MayP; simp only; omega))
        rw [show inB s 0 0 = true from decide_eq_true h1] at HB
        have gq : (q == 0) = true := by rw [beq_iff_eq]; exact h2
        have he0 : (nm.toList == []) = false := list_ne h3
        have HB' := Lib.hid HB
        clear HB HD h1 h2 h3
        unfold Cmd.val Cmd.cs at HP ⊢
        go_enter Try.func30, Try.ntmps30
        go_wp2_with fail
        refine (HP.out _).mono ?_
        rintro e w1 ⟨rfl, hk1⟩
        have K1 := Lib.hid (((Keep.same Nothing w).alloc (.cells #[.int .i64 1, .int .i64 s, .int .i64 q, .string nm, .int .i64 n] 31)).then hk1)
        have D1 := (Blk.fresh w 31 #[.int .i64 1, .int .i64 s, .int .i64 q, .string nm, .int .i64 n]).keep hk1 (fun h => h)
        have D2 := D1.alloc (.cells #[.int .i64 1, .int .i64 s, .int .i64 q, .int .i64 n] 89)
        have E2 := Blk.fresh w1 89 #[.int .i64 1, .int .i64 s, .int .i64 q, .int .i64 n]
        have K2 := Lib.hid (K1.out.alloc (.cells #[.int .i64 1, .int .i64 s, .int .i64 q, .int .i64 n] 89))
        have c0 := D2.cell 0
        have c1 := D2.cell 1
        have c2 := D2.cell 2
        have c3 := D2.cell 3
        have c4 := D2.cell 4
        have a1 := E2.cell 1
        have a2 := E2.cell 2
        have a3 := E2.cell 3
        clear hk1 D1 D2 E2
        go_wp2_with fail
        refine (HB'.out _).mono ?_
        rintro e w' ⟨rfl, rfl⟩
        go_wp2_with fail
        go_ret
        exact ⟨by rw [M.out]; rfl, K2.out⟩
    · have M := Lib.hid (may_f (c := Cmd.mk 1 s q nm n) (by unfold MayP; simp only; omega))
      rw [show inB s 0 0 = true from decide_eq_true h1] at HB
      have gq : (q == 0) = false := by rw [beq_eq_false_iff_ne]; exact h2
      have HB' := Lib.hid HB
      clear HB HD h1 h2
      unfold Cmd.val Cmd.cs at HP ⊢
      go_enter Try.func30, Try.ntmps30
      go_wp2_with fail
      refine (HP.out _).mono ?_
      rintro e w1 ⟨rfl, hk1⟩
      have K1 := Lib.hid (((Keep.same Nothing w).alloc (.cells #[.int .i64 1, .int .i64 s, .int .i64 q, .string nm, .int .i64 n] 31)).then hk1)
      have D1 := (Blk.fresh w 31 #[.int .i64 1, .int .i64 s, .int .i64 q, .string nm, .int .i64 n]).keep hk1 (fun h => h)
      have D2 := D1.alloc (.cells #[.int .i64 1, .int .i64 s, .int .i64 q, .int .i64 n] 89)
      have E2 := Blk.fresh w1 89 #[.int .i64 1, .int .i64 s, .int .i64 q, .int .i64 n]
      have K2 := Lib.hid (K1.out.alloc (.cells #[.int .i64 1, .int .i64 s, .int .i64 q, .int .i64 n] 89))
      have c0 := D2.cell 0
      have c1 := D2.cell 1
      have c2 := D2.cell 2
      have c3 := D2.cell 3
      have c4 := D2.cell 4
      have a1 := E2.cell 1
      have a2 := E2.cell 2
      have a3 := E2.cell 3
      clear hk1 D1 D2 E2
      go_wp2_with fail
      refine (HB'.out _).mono ?_
      rintro e w' ⟨rfl, rfl⟩
      go_wp2_with fail
      go_ret
      exact ⟨by rw [M.out]; rfl, K2.out⟩
  · have M := Lib.hid (may_f (c := Cmd.mk 1 s q nm n) (by unfold MayP; simp only; omega))
    rw [show inB s 0 0 = false from decide_eq_false h1] at HB
    have HB' := Lib.hid HB
    clear HB HD h1
    unfold Cmd.val Cmd.cs at HP ⊢
    go_enter Try.func30, Try.ntmps30
    go_wp2_with fail
    refine (HP.out _).mono ?_
    rintro e w1 ⟨rfl, hk1⟩
    have K1 := Lib.hid (((Keep.same Nothing w).alloc (.cells #[.int .i64 1, .int .i64 s, .int .i64 q, .string nm, .int .i64 n] 31)).then hk1)
    have D1 := (Blk.fresh w 31 #[.int .i64 1, .int .i64 s, .int .i64 q, .string nm, .int .i64 n]).keep hk1 (fun h => h)
    have D2 := D1.alloc (.cells #[.int .i64 1, .int .i64 s, .int .i64 q, .int .i64 n] 89)
    have E2 := Blk.fresh w1 89 #[.int .i64 1, .int .i64 s, .int .i64 q, .int .i64 n]
    have K2 := Lib.hid (K1.out.alloc (.cells #[.int .i64 1, .int .i64 s, .int .i64 q, .int .i64 n] 89))
    have c0 := D2.cell 0
    have c1 := D2.cell 1
    have c2 := D2.cell 2
    have c3 := D2.cell 3
    have c4 := D2.cell 4
    have a1 := E2.cell 1
    have a2 := E2.cell 2
    have a3 := E2.cell 3
    clear hk1 D1 D2 E2
    go_wp2_with fail
    refine (HB'.out _).mono ?_
    rintro e w' ⟨rfl, rfl⟩
    go_wp2_with fail
    go_ret
    exact ⟨by rw [M.out]; rfl, K2.out⟩
set_option maxHeartbeats 8000000 in
theorem may_4 (w : World) (s q n : Int) (nm : ByteArray) : Calls Try.prog 30 #[(Cmd.mk 4 s q nm n).val] w (maySpec (Cmd.mk 4 s q nm n) w) := by
  have hu := Try.underlying31
  have hu2 := Try.underlying89
  have HP := Lib.hid (fun w => pack_calls w (Cmd.mk 4 s q nm n))
  have HB := fun w => in_calls w s 1 1073741824
  have HD := fun w => in_calls w n 1 1099511627776
  by_cases h1 : 1 ≤ s ∧ s ≤ 1073741824
  · by_cases h2 : q = 0
    · by_cases h3 : nm.size = 0
      · by_cases h4 : 1 ≤ n ∧ n ≤ 1099511627776
        · have M := Lib.hid (may_t (c := Cmd.mk 4 s q nm n) (by have hnm := size0 h3; subst hnm; unfold MayP; simp; try omega))
          rw [show inB s 1 1073741824 = true from decide_eq_true h1] at HB
          have gq : (q == 0) = true := by rw [beq_iff_eq]; exact h2
          have he0 : (nm.toList == []) = true := by rw [size0 h3, ByteArray.toList_eq]; rfl
          rw [show inB n 1 1099511627776 = true from decide_eq_true h4] at HD
          have HB' := Lib.hid HB
          have HD' := Lib.hid HD
          clear HB HD h1 h2 h3 h4
          unfold Cmd.val Cmd.cs at HP ⊢
          go_enter Try.func30, Try.ntmps30
          go_wp2_with fail
          refine (HP.out _).mono ?_
          rintro e w1 ⟨rfl, hk1⟩
          have K1 := Lib.hid (((Keep.same Nothing w).alloc (.cells #[.int .i64 4, .int .i64 s, .int .i64 q, .string nm, .int .i64 n] 31)).then hk1)
          have D1 := (Blk.fresh w 31 #[.int .i64 4, .int .i64 s, .int .i64 q, .string nm, .int .i64 n]).keep hk1 (fun h => h)
          have D2 := D1.alloc (.cells #[.int .i64 4, .int .i64 s, .int .i64 q, .int .i64 n] 89)
          have E2 := Blk.fresh w1 89 #[.int .i64 4, .int .i64 s, .int .i64 q, .int .i64 n]
          have K2 := Lib.hid (K1.out.alloc (.cells #[.int .i64 4, .int .i64 s, .int .i64 q, .int .i64 n] 89))
          have c0 := D2.cell 0
          have c1 := D2.cell 1
          have c2 := D2.cell 2
          have c3 := D2.cell 3
          have c4 := D2.cell 4
          have a1 := E2.cell 1
          have a2 := E2.cell 2
          have a3 := E2.cell 3
          clear hk1 D1 D2 E2
          go_wp2_with fail
          refine (HB'.out _).mono ?_
          rintro e w' ⟨rfl, rfl⟩
          go_wp2_with fail
          refine (HD'.out _).mono ?_
          rintro e w' ⟨rfl, rfl⟩
          go_wp2_with fail
          go_ret
          exact ⟨by rw [M.out]; rfl, K2.out⟩
        · have M := Lib.hid (may_f (c := Cmd.mk 4 s q nm n) (by unfold MayP; simp only; omega))
          rw [show inB s 1 1073741824 = true from decide_eq_true h1] at HB
          have gq : (q == 0) = true := by rw [beq_iff_eq]; exact h2
          have he0 : (nm.toList == []) = true := by rw [size0 h3, ByteArray.toList_eq]; rfl
          rw [show inB n 1 1099511627776 = false from decide_eq_false h4] at HD
          have HB' := Lib.hid HB
          have HD' := Lib.hid HD
          clear HB HD h1 h2 h3 h4
          unfold Cmd.val Cmd.cs at HP ⊢
          go_enter Try.func30, Try.ntmps30
          go_wp2_with fail
          refine (HP.out _).mono ?_
          rintro e w1 ⟨rfl, hk1⟩
          have K1 := Lib.hid (((Keep.same Nothing w).alloc (.cells #[.int .i64 4, .int .i64 s, .int .i64 q, .string nm, .int .i64 n] 31)).then hk1)
          have D1 := (Blk.fresh w 31 #[.int .i64 4, .int .i64 s, .int .i64 q, .string nm, .int .i64 n]).keep hk1 (fun h => h)
          have D2 := D1.alloc (.cells #[.int .i64 4, .int .i64 s, .int .i64 q, .int .i64 n] 89)
          have E2 := Blk.fresh w1 89 #[.int .i64 4, .int .i64 s, .int .i64 q, .int .i64 n]
          have K2 := Lib.hid (K1.out.alloc (.cells #[.int .i64 4, .int .i64 s, .int .i64 q, .int .i64 n] 89))
          have c0 := D2.cell 0
          have c1 := D2.cell 1
          have c2 := D2.cell 2
          have c3 := D2.cell 3
          have c4 := D2.cell 4
          have a1 := E2.cell 1
          have a2 := E2.cell 2
          have a3 := E2.cell 3
          clear hk1 D1 D2 E2
          go_wp2_with fail
          refine (HB'.out _).mono ?_
          rintro e w' ⟨rfl, rfl⟩
          go_wp2_with fail
          refine (HD'.out _).mono ?_
          rintro e w' ⟨rfl, rfl⟩
          go_wp2_with fail
          go_ret
          exact ⟨by rw [M.out]; rfl, K2.out⟩
      · have M := Lib.hid (may_f (c := Cmd.mk 4 s q nm n) (by unfold MayP; simp only; omega))
        rw [show inB s 1 1073741824 = true from decide_eq_true h1] at HB
        have gq : (q == 0) = true := by rw [beq_iff_eq]; exact h2
        have he0 : (nm.toList == []) = false := list_ne h3
        have HB' := Lib.hid HB
        clear HB HD h1 h2 h3
        unfold Cmd.val Cmd.cs at HP ⊢
        go_enter Try.func30, Try.ntmps30
        go_wp2_with fail
        refine (HP.out _).mono ?_
        rintro e w1 ⟨rfl, hk1⟩
        have K1 := Lib.hid (((Keep.same Nothing w).alloc (.cells #[.int .i64 4, .int .i64 s, .int .i64 q, .string nm, .int .i64 n] 31)).then hk1)
        have D1 := (Blk.fresh w 31 #[.int .i64 4, .int .i64 s, .int .i64 q, .string nm, .int .i64 n]).keep hk1 (fun h => h)
        have D2 := D1.alloc (.cells #[.int .i64 4, .int .i64 s, .int .i64 q, .int .i64 n] 89)
        have E2 := Blk.fresh w1 89 #[.int .i64 4, .int .i64 s, .int .i64 q, .int .i64 n]
        have K2 := Lib.hid (K1.out.alloc (.cells #[.int .i64 4, .int .i64 s, .int .i64 q, .int .i64 n] 89))
        have c0 := D2.cell 0
        have c1 := D2.cell 1
        have c2 := D2.cell 2
        have c3 := D2.cell 3
        have c4 := D2.cell 4
        have a1 := E2.cell 1
        have a2 := E2.cell 2
        have a3 := E2.cell 3
        clear hk1 D1 D2 E2
        go_wp2_with fail
        refine (HB'.out _).mono ?_
        rintro e w' ⟨rfl, rfl⟩
        go_wp2_with fail
        go_ret
        exact ⟨by rw [M.out]; rfl, K2.out⟩
    · have M := Lib.hid (may_f (c := Cmd.mk 4 s q nm n) (by unfold MayP; simp only; omega))
      rw [show inB s 1 1073741824 = true from decide_eq_true h1] at HB
      have gq : (q == 0) = false := by rw [beq_eq_false_iff_ne]; exact h2
      have HB' := Lib.hid HB
      clear HB HD h1 h2
      unfold Cmd.val Cmd.cs at HP ⊢
      go_enter Try.func30, Try.ntmps30
      go_wp2_with fail
      refine (HP.out _).mono ?_
      rintro e w1 ⟨rfl, hk1⟩
      have K1 := Lib.hid (((Keep.same Nothing w).alloc (.cells #[.int .i64 4, .int .i64 s, .int .i64 q, .string nm, .int .i64 n] 31)).then hk1)
      have D1 := (Blk.fresh w 31 #[.int .i64 4, .int .i64 s, .int .i64 q, .string nm, .int .i64 n]).keep hk1 (fun h => h)
      have D2 := D1.alloc (.cells #[.int .i64 4, .int .i64 s, .int .i64 q, .int .i64 n] 89)
      have E2 := Blk.fresh w1 89 #[.int .i64 4, .int .i64 s, .int .i64 q, .int .i64 n]
      have K2 := Lib.hid (K1.out.alloc (.cells #[.int .i64 4, .int .i64 s, .int .i64 q, .int .i64 n] 89))
      have c0 := D2.cell 0
      have c1 := D2.cell 1
      have c2 := D2.cell 2
      have c3 := D2.cell 3
      have c4 := D2.cell 4
      have a1 := E2.cell 1
      have a2 := E2.cell 2
      have a3 := E2.cell 3
      clear hk1 D1 D2 E2
      go_wp2_with fail
      refine (HB'.out _).mono ?_
      rintro e w' ⟨rfl, rfl⟩
      go_wp2_with fail
      go_ret
      exact ⟨by rw [M.out]; rfl, K2.out⟩
  · have M := Lib.hid (may_f (c := Cmd.mk 4 s q nm n) (by unfold MayP; simp only; omega))
    rw [show inB s 1 1073741824 = false from decide_eq_false h1] at HB
    have HB' := Lib.hid HB
    clear HB HD h1
    unfold Cmd.val Cmd.cs at HP ⊢
    go_enter Try.func30, Try.ntmps30
    go_wp2_with fail
    refine (HP.out _).mono ?_
    rintro e w1 ⟨rfl, hk1⟩
    have K1 := Lib.hid (((Keep.same Nothing w).alloc (.cells #[.int .i64 4, .int .i64 s, .int .i64 q, .string nm, .int .i64 n] 31)).then hk1)
    have D1 := (Blk.fresh w 31 #[.int .i64 4, .int .i64 s, .int .i64 q, .string nm, .int .i64 n]).keep hk1 (fun h => h)
    have D2 := D1.alloc (.cells #[.int .i64 4, .int .i64 s, .int .i64 q, .int .i64 n] 89)
    have E2 := Blk.fresh w1 89 #[.int .i64 4, .int .i64 s, .int .i64 q, .int .i64 n]
    have K2 := Lib.hid (K1.out.alloc (.cells #[.int .i64 4, .int .i64 s, .int .i64 q, .int .i64 n] 89))
    have c0 := D2.cell 0
    have c1 := D2.cell 1
    have c2 := D2.cell 2
    have c3 := D2.cell 3
    have c4 := D2.cell 4
    have a1 := E2.cell 1
    have a2 := E2.cell 2
    have a3 := E2.cell 3
    clear hk1 D1 D2 E2
    go_wp2_with fail
    refine (HB'.out _).mono ?_
    rintro e w' ⟨rfl, rfl⟩
    go_wp2_with fail
    go_ret
    exact ⟨by rw [M.out]; rfl, K2.out⟩
set_option maxHeartbeats 8000000 in
theorem may_3 (w : World) (s q n : Int) (nm : ByteArray) : Calls Try.prog 30 #[(Cmd.mk 3 s q nm n).val] w (maySpec (Cmd.mk 3 s q nm n) w) := by
  have hu := Try.underlying31
  have hu2 := Try.underlying89
  have HP := Lib.hid (fun w => pack_calls w (Cmd.mk 3 s q nm n))
  have HB := fun w => in_calls w s 1 1073741824
  have HC := fun w => in_calls w q 1 1073741824
  have HD := fun w => in_calls w n 0 0
  by_cases h1 : 1 ≤ s ∧ s ≤ 1073741824
  · by_cases h2 : 1 ≤ q ∧ q ≤ 1073741824
    · by_cases h3 : nm.size = 0
      · by_cases h4 : 0 ≤ n ∧ n ≤ 0
        · have M := Lib.hid (may_t (c := Cmd.mk 3 s q nm n) (by have hnm := size0 h3; subst hnm; unfold MayP; simp; try omega))
          rw [show inB s 1 1073741824 = true from decide_eq_true h1] at HB
          rw [show inB q 1 1073741824 = true from decide_eq_true h2] at HC
          have he0 : (nm.toList == []) = true := by rw [size0 h3, ByteArray.toList_eq]; rfl
          rw [show inB n 0 0 = true from decide_eq_true h4] at HD
          have HB' := Lib.hid HB
          have HC' := Lib.hid HC
          have HD' := Lib.hid HD
          clear HB HC HD h1 h2 h3 h4
          unfold Cmd.val Cmd.cs at HP ⊢
          go_enter Try.func30, Try.ntmps30
          go_wp2_with fail
          refine (HP.out _).mono ?_
          rintro e w1 ⟨rfl, hk1⟩
          have K1 := Lib.hid (((Keep.same Nothing w).alloc (.cells #[.int .i64 3, .int .i64 s, .int .i64 q, .string nm, .int .i64 n] 31)).then hk1)
          have D1 := (Blk.fresh w 31 #[.int .i64 3, .int .i64 s, .int .i64 q, .string nm, .int .i64 n]).keep hk1 (fun h => h)
          have D2 := D1.alloc (.cells #[.int .i64 3, .int .i64 s, .int .i64 q, .int .i64 n] 89)
          have E2 := Blk.fresh w1 89 #[.int .i64 3, .int .i64 s, .int .i64 q, .int .i64 n]
          have K2 := Lib.hid (K1.out.alloc (.cells #[.int .i64 3, .int .i64 s, .int .i64 q, .int .i64 n] 89))
          have c0 := D2.cell 0
          have c1 := D2.cell 1
          have c2 := D2.cell 2
          have c3 := D2.cell 3
          have c4 := D2.cell 4
          have a1 := E2.cell 1
          have a2 := E2.cell 2
          have a3 := E2.cell 3
          clear hk1 D1 D2 E2
          go_wp2_with fail
          refine (HB'.out _).mono ?_
          rintro e w' ⟨rfl, rfl⟩
          go_wp2_with fail
          refine (HC'.out _).mono ?_
          rintro e w' ⟨rfl, rfl⟩
          go_wp2_with fail
          refine (HD'.out _).mono ?_
          rintro e w' ⟨rfl, rfl⟩
          go_wp2_with fail
          go_ret
          exact ⟨by rw [M.out]; rfl, K2.out⟩
        · have M := Lib.hid (may_f (c := Cmd.mk 3 s q nm n) (by unfold MayP; simp only; omega))
          rw [show inB s 1 1073741824 = true from decide_eq_true h1] at HB
          rw [show inB q 1 1073741824 = true from decide_eq_true h2] at HC
          have he0 : (nm.toList == []) = true := by rw [size0 h3, ByteArray.toList_eq]; rfl
          rw [show inB n 0 0 = false from decide_eq_false h4] at HD
          have HB' := Lib.hid HB
          have HC' := Lib.hid HC
          have HD' := Lib.hid HD
          clear HB HC HD h1 h2 h3 h4
          unfold Cmd.val Cmd.cs at HP ⊢
          go_enter Try.func30, Try.ntmps30
          go_wp2_with fail
          refine (HP.out _).mono ?_
          rintro e w1 ⟨rfl, hk1⟩
          have K1 := Lib.hid (((Keep.same Nothing w).alloc (.cells #[.int .i64 3, .int .i64 s, .int .i64 q, .string nm, .int .i64 n] 31)).then hk1)
          have D1 := (Blk.fresh w 31 #[.int .i64 3, .int .i64 s, .int .i64 q, .string nm, .int .i64 n]).keep hk1 (fun h => h)
          have D2 := D1.alloc (.cells #[.int .i64 3, .int .i64 s, .int .i64 q, .int .i64 n] 89)
          have E2 := Blk.fresh w1 89 #[.int .i64 3, .int .i64 s, .int .i64 q, .int .i64 n]
          have K2 := Lib.hid (K1.out.alloc (.cells #[.int .i64 3, .int .i64 s, .int .i64 q, .int .i64 n] 89))
          have c0 := D2.cell 0
          have c1 := D2.cell 1
          have c2 := D2.cell 2
          have c3 := D2.cell 3
          have c4 := D2.cell 4
          have a1 := E2.cell 1
          have a2 := E2.cell 2
          have a3 := E2.cell 3
          clear hk1 D1 D2 E2
          go_wp2_with fail
          refine (HB'.out _).mono ?_
          rintro e w' ⟨rfl, rfl⟩
          go_wp2_with fail
          refine (HC'.out _).mono ?_
          rintro e w' ⟨rfl, rfl⟩
          go_wp2_with fail
          refine (HD'.out _).mono ?_
          rintro e w' ⟨rfl, rfl⟩
          go_wp2_with fail
          go_ret
          exact ⟨by rw [M.out]; rfl, K2.out⟩
      · have M := Lib.hid (may_f (c := Cmd.mk 3 s q nm n) (by unfold MayP; simp only; omega))
        rw [show inB s 1 1073741824 = true from decide_eq_true h1] at HB
        rw [show inB q 1 1073741824 = true from decide_eq_true h2] at HC
        have he0 : (nm.toList == []) = false := list_ne h3
        have HB' := Lib.hid HB
        have HC' := Lib.hid HC
        clear HB HC HD h1 h2 h3
        unfold Cmd.val Cmd.cs at HP ⊢
        go_enter Try.func30, Try.ntmps30
        go_wp2_with fail
        refine (HP.out _).mono ?_
        rintro e w1 ⟨rfl, hk1⟩
        have K1 := Lib.hid (((Keep.same Nothing w).alloc (.cells #[.int .i64 3, .int .i64 s, .int .i64 q, .string nm, .int .i64 n] 31)).then hk1)
        have D1 := (Blk.fresh w 31 #[.int .i64 3, .int .i64 s, .int .i64 q, .string nm, .int .i64 n]).keep hk1 (fun h => h)
        have D2 := D1.alloc (.cells #[.int .i64 3, .int .i64 s, .int .i64 q, .int .i64 n] 89)
        have E2 := Blk.fresh w1 89 #[.int .i64 3, .int .i64 s, .int .i64 q, .int .i64 n]
        have K2 := Lib.hid (K1.out.alloc (.cells #[.int .i64 3, .int .i64 s, .int .i64 q, .int .i64 n] 89))
        have c0 := D2.cell 0
        have c1 := D2.cell 1
        have c2 := D2.cell 2
        have c3 := D2.cell 3
        have c4 := D2.cell 4
        have a1 := E2.cell 1
        have a2 := E2.cell 2
        have a3 := E2.cell 3
        clear hk1 D1 D2 E2
        go_wp2_with fail
        refine (HB'.out _).mono ?_
        rintro e w' ⟨rfl, rfl⟩
        go_wp2_with fail
        refine (HC'.out _).mono ?_
        rintro e w' ⟨rfl, rfl⟩
        go_wp2_with fail
        go_ret
        exact ⟨by rw [M.out]; rfl, K2.out⟩
    · have M := Lib.hid (may_f (c := Cmd.mk 3 s q nm n) (by unfold MayP; simp only; omega))
      generalize he0 : (nm.toList == []) = e0
      rw [show inB s 1 1073741824 = true from decide_eq_true h1] at HB
      rw [show inB q 1 1073741824 = false from decide_eq_false h2] at HC
      have HB' := Lib.hid HB
      have HC' := Lib.hid HC
      clear HB HC HD h1 h2
      unfold Cmd.val Cmd.cs at HP ⊢
      go_enter Try.func30, Try.ntmps30
      go_wp2_with fail
      refine (HP.out _).mono ?_
      rintro e w1 ⟨rfl, hk1⟩
      have K1 := Lib.hid (((Keep.same Nothing w).alloc (.cells #[.int .i64 3, .int .i64 s, .int .i64 q, .string nm, .int .i64 n] 31)).then hk1)
      have D1 := (Blk.fresh w 31 #[.int .i64 3, .int .i64 s, .int .i64 q, .string nm, .int .i64 n]).keep hk1 (fun h => h)
      have D2 := D1.alloc (.cells #[.int .i64 3, .int .i64 s, .int .i64 q, .int .i64 n] 89)
      have E2 := Blk.fresh w1 89 #[.int .i64 3, .int .i64 s, .int .i64 q, .int .i64 n]
      have K2 := Lib.hid (K1.out.alloc (.cells #[.int .i64 3, .int .i64 s, .int .i64 q, .int .i64 n] 89))
      have c0 := D2.cell 0
      have c1 := D2.cell 1
      have c2 := D2.cell 2
      have c3 := D2.cell 3
      have c4 := D2.cell 4
      have a1 := E2.cell 1
      have a2 := E2.cell 2
      have a3 := E2.cell 3
      clear hk1 D1 D2 E2
      go_wp2_with fail
      refine (HB'.out _).mono ?_
      rintro e w' ⟨rfl, rfl⟩
      go_wp2_with fail
      refine (HC'.out _).mono ?_
      rintro e w' ⟨rfl, rfl⟩
      go_wp2_with fail
      go_ret
      exact ⟨by rw [M.out]; rfl, K2.out⟩
  · have M := Lib.hid (may_f (c := Cmd.mk 3 s q nm n) (by unfold MayP; simp only; omega))
    generalize he0 : (nm.toList == []) = e0
    rw [show inB s 1 1073741824 = false from decide_eq_false h1] at HB
    have HB' := Lib.hid HB
    clear HB HC HD h1
    unfold Cmd.val Cmd.cs at HP ⊢
    go_enter Try.func30, Try.ntmps30
    go_wp2_with fail
    refine (HP.out _).mono ?_
    rintro e w1 ⟨rfl, hk1⟩
    have K1 := Lib.hid (((Keep.same Nothing w).alloc (.cells #[.int .i64 3, .int .i64 s, .int .i64 q, .string nm, .int .i64 n] 31)).then hk1)
    have D1 := (Blk.fresh w 31 #[.int .i64 3, .int .i64 s, .int .i64 q, .string nm, .int .i64 n]).keep hk1 (fun h => h)
    have D2 := D1.alloc (.cells #[.int .i64 3, .int .i64 s, .int .i64 q, .int .i64 n] 89)
    have E2 := Blk.fresh w1 89 #[.int .i64 3, .int .i64 s, .int .i64 q, .int .i64 n]
    have K2 := Lib.hid (K1.out.alloc (.cells #[.int .i64 3, .int .i64 s, .int .i64 q, .int .i64 n] 89))
    have c0 := D2.cell 0
    have c1 := D2.cell 1
    have c2 := D2.cell 2
    have c3 := D2.cell 3
    have c4 := D2.cell 4
    have a1 := E2.cell 1
    have a2 := E2.cell 2
    have a3 := E2.cell 3
    clear hk1 D1 D2 E2
    go_wp2_with fail
    refine (HB'.out _).mono ?_
    rintro e w' ⟨rfl, rfl⟩
    go_wp2_with fail
    go_ret
    exact ⟨by rw [M.out]; rfl, K2.out⟩
set_option maxHeartbeats 8000000 in
theorem may_2 (w : World) (s q n : Int) (nm : ByteArray) : Calls Try.prog 30 #[(Cmd.mk 2 s q nm n).val] w (maySpec (Cmd.mk 2 s q nm n) w) := by
  have hu := Try.underlying31
  have hu2 := Try.underlying89
  have HP := Lib.hid (fun w => pack_calls w (Cmd.mk 2 s q nm n))
  by_cases h0 : 8 ≤ s
  · have M := Lib.hid (may_f (c := Cmd.mk 2 s q nm n) (by unfold MayP; simp only; omega))
    generalize he0 : (nm.toList == []) = e0
    have g0 : decide (8 ≤ s) = true := decide_eq_true h0
    clear  h0
    unfold Cmd.val Cmd.cs at HP ⊢
    go_enter Try.func30, Try.ntmps30
    go_wp2_with fail
    refine (HP.out _).mono ?_
    rintro e w1 ⟨rfl, hk1⟩
    have K1 := Lib.hid (((Keep.same Nothing w).alloc (.cells #[.int .i64 2, .int .i64 s, .int .i64 q, .string nm, .int .i64 n] 31)).then hk1)
    have D1 := (Blk.fresh w 31 #[.int .i64 2, .int .i64 s, .int .i64 q, .string nm, .int .i64 n]).keep hk1 (fun h => h)
    have D2 := D1.alloc (.cells #[.int .i64 2, .int .i64 s, .int .i64 q, .int .i64 n] 89)
    have E2 := Blk.fresh w1 89 #[.int .i64 2, .int .i64 s, .int .i64 q, .int .i64 n]
    have K2 := Lib.hid (K1.out.alloc (.cells #[.int .i64 2, .int .i64 s, .int .i64 q, .int .i64 n] 89))
    have c0 := D2.cell 0
    have c1 := D2.cell 1
    have c2 := D2.cell 2
    have c3 := D2.cell 3
    have c4 := D2.cell 4
    have a1 := E2.cell 1
    have a2 := E2.cell 2
    have a3 := E2.cell 3
    clear hk1 D1 D2 E2
    go_wp2_with fail
    go_ret
    exact ⟨by rw [M.out]; rfl, K2.out⟩
  · have g0 : decide (8 ≤ s) = false := decide_eq_false h0
    have h0' : s ≤ 7 := by omega
    have HB := fun w => in_calls w s 0 1073741824
    have HC := fun w => in_calls w q 1 1073741824
    have HD := fun w => in_calls w n 0 0
    by_cases h1 : 0 ≤ s ∧ s ≤ 1073741824
    · by_cases h2 : 1 ≤ q ∧ q ≤ 1073741824
      · by_cases h3 : nm.size = 0
        · by_cases h4 : 0 ≤ n ∧ n ≤ 0
          · have M := Lib.hid (may_t (c := Cmd.mk 2 s q nm n) (by have hnm := size0 h3; subst hnm; unfold MayP; simp; try omega))
            rw [show inB s 0 1073741824 = true from decide_eq_true h1] at HB
            rw [show inB q 1 1073741824 = true from decide_eq_true h2] at HC
            have he0 : (nm.toList == []) = true := by rw [size0 h3, ByteArray.toList_eq]; rfl
            rw [show inB n 0 0 = true from decide_eq_true h4] at HD
            have HB' := Lib.hid HB
            have HC' := Lib.hid HC
            have HD' := Lib.hid HD
            clear h0 h0' HB HC HD h1 h2 h3 h4
            unfold Cmd.val Cmd.cs at HP ⊢
            go_enter Try.func30, Try.ntmps30
            go_wp2_with fail
            refine (HP.out _).mono ?_
            rintro e w1 ⟨rfl, hk1⟩
            have K1 := Lib.hid (((Keep.same Nothing w).alloc (.cells #[.int .i64 2, .int .i64 s, .int .i64 q, .string nm, .int .i64 n] 31)).then hk1)
            have D1 := (Blk.fresh w 31 #[.int .i64 2, .int .i64 s, .int .i64 q, .string nm, .int .i64 n]).keep hk1 (fun h => h)
            have D2 := D1.alloc (.cells #[.int .i64 2, .int .i64 s, .int .i64 q, .int .i64 n] 89)
            have E2 := Blk.fresh w1 89 #[.int .i64 2, .int .i64 s, .int .i64 q, .int .i64 n]
            have K2 := Lib.hid (K1.out.alloc (.cells #[.int .i64 2, .int .i64 s, .int .i64 q, .int .i64 n] 89))
            have c0 := D2.cell 0
            have c1 := D2.cell 1
            have c2 := D2.cell 2
            have c3 := D2.cell 3
            have c4 := D2.cell 4
            have a1 := E2.cell 1
            have a2 := E2.cell 2
            have a3 := E2.cell 3
            clear hk1 D1 D2 E2
            go_wp2_with fail
            refine (HB'.out _).mono ?_
            rintro e w' ⟨rfl, rfl⟩
            go_wp2_with fail
            refine (HC'.out _).mono ?_
            rintro e w' ⟨rfl, rfl⟩
            go_wp2_with fail
            refine (HD'.out _).mono ?_
            rintro e w' ⟨rfl, rfl⟩
            go_wp2_with fail
            go_ret
            exact ⟨by rw [M.out]; rfl, K2.out⟩
          · have M := Lib.hid (may_f (c := Cmd.mk 2 s q nm n) (by unfold MayP; simp only; omega))
            rw [show inB s 0 1073741824 = true from decide_eq_true h1] at HB
            rw [show inB q 1 1073741824 = true from decide_eq_true h2] at HC
            have he0 : (nm.toList == []) = true := by rw [size0 h3, ByteArray.toList_eq]; rfl
            rw [show inB n 0 0 = false from decide_eq_false h4] at HD
            have HB' := Lib.hid HB
            have HC' := Lib.hid HC
            have HD' := Lib.hid HD
            clear h0 h0' HB HC HD h1 h2 h3 h4
            unfold Cmd.val Cmd.cs at HP ⊢
            go_enter Try.func30, Try.ntmps30
            go_wp2_with fail
            refine (HP.out _).mono ?_
            rintro e w1 ⟨rfl, hk1⟩
            have K1 := Lib.hid (((Keep.same Nothing w).alloc (.cells #[.int .i64 2, .int .i64 s, .int .i64 q, .string nm, .int .i64 n] 31)).then hk1)
            have D1 := (Blk.fresh w 31 #[.int .i64 2, .int .i64 s, .int .i64 q, .string nm, .int .i64 n]).keep hk1 (fun h => h)
            have D2 := D1.alloc (.cells #[.int .i64 2, .int .i64 s, .int .i64 q, .int .i64 n] 89)
            have E2 := Blk.fresh w1 89 #[.int .i64 2, .int .i64 s, .int .i64 q, .int .i64 n]
            have K2 := Lib.hid (K1.out.alloc (.cells #[.int .i64 2, .int .i64 s, .int .i64 q, .int .i64 n] 89))
            have c0 := D2.cell 0
            have c1 := D2.cell 1
            have c2 := D2.cell 2
            have c3 := D2.cell 3
            have c4 := D2.cell 4
            have a1 := E2.cell 1
            have a2 := E2.cell 2
            have a3 := E2.cell 3
            clear hk1 D1 D2 E2
            go_wp2_with fail
            refine (HB'.out _).mono ?_
            rintro e w' ⟨rfl, rfl⟩
            go_wp2_with fail
            refine (HC'.out _).mono ?_
            rintro e w' ⟨rfl, rfl⟩
            go_wp2_with fail
            refine (HD'.out _).mono ?_
            rintro e w' ⟨rfl, rfl⟩
            go_wp2_with fail
            go_ret
            exact ⟨by rw [M.out]; rfl, K2.out⟩
        · have M := Lib.hid (may_f (c := Cmd.mk 2 s q nm n) (by unfold MayP; simp only; omega))
          rw [show inB s 0 1073741824 = true from decide_eq_true h1] at HB
          rw [show inB q 1 1073741824 = true from decide_eq_true h2] at HC
          have he0 : (nm.toList == []) = false := list_ne h3
          have HB' := Lib.hid HB
          have HC' := Lib.hid HC
          clear h0 h0' HB HC HD h1 h2 h3
          unfold Cmd.val Cmd.cs at HP ⊢
          go_enter Try.func30, Try.ntmps30
          go_wp2_with fail
          refine (HP.out _).mono ?_
          rintro e w1 ⟨rfl, hk1⟩
          have K1 := Lib.hid (((Keep.same Nothing w).alloc (.cells #[.int .i64 2, .int .i64 s, .int .i64 q, .string nm, .int .i64 n] 31)).then hk1)
          have D1 := (Blk.fresh w 31 #[.int .i64 2, .int .i64 s, .int .i64 q, .string nm, .int .i64 n]).keep hk1 (fun h => h)
          have D2 := D1.alloc (.cells #[.int .i64 2, .int .i64 s, .int .i64 q, .int .i64 n] 89)
          have E2 := Blk.fresh w1 89 #[.int .i64 2, .int .i64 s, .int .i64 q, .int .i64 n]
          have K2 := Lib.hid (K1.out.alloc (.cells #[.int .i64 2, .int .i64 s, .int .i64 q, .int .i64 n] 89))
          have c0 := D2.cell 0
          have c1 := D2.cell 1
          have c2 := D2.cell 2
          have c3 := D2.cell 3
          have c4 := D2.cell 4
          have a1 := E2.cell 1
          have a2 := E2.cell 2
          have a3 := E2.cell 3
          clear hk1 D1 D2 E2
          go_wp2_with fail
          refine (HB'.out _).mono ?_
          rintro e w' ⟨rfl, rfl⟩
          go_wp2_with fail
          refine (HC'.out _).mono ?_
          rintro e w' ⟨rfl, rfl⟩
          go_wp2_with fail
          go_ret
          exact ⟨by rw [M.out]; rfl, K2.out⟩
      · have M := Lib.hid (may_f (c := Cmd.mk 2 s q nm n) (by unfold MayP; simp only; omega))
        generalize he0 : (nm.toList == []) = e0
        rw [show inB s 0 1073741824 = true from decide_eq_true h1] at HB
        rw [show inB q 1 1073741824 = false from decide_eq_false h2] at HC
        have HB' := Lib.hid HB
        have HC' := Lib.hid HC
        clear h0 h0' HB HC HD h1 h2
        unfold Cmd.val Cmd.cs at HP ⊢
        go_enter Try.func30, Try.ntmps30
        go_wp2_with fail
        refine (HP.out _).mono ?_
        rintro e w1 ⟨rfl, hk1⟩
        have K1 := Lib.hid (((Keep.same Nothing w).alloc (.cells #[.int .i64 2, .int .i64 s, .int .i64 q, .string nm, .int .i64 n] 31)).then hk1)
        have D1 := (Blk.fresh w 31 #[.int .i64 2, .int .i64 s, .int .i64 q, .string nm, .int .i64 n]).keep hk1 (fun h => h)
        have D2 := D1.alloc (.cells #[.int .i64 2, .int .i64 s, .int .i64 q, .int .i64 n] 89)
        have E2 := Blk.fresh w1 89 #[.int .i64 2, .int .i64 s, .int .i64 q, .int .i64 n]
        have K2 := Lib.hid (K1.out.alloc (.cells #[.int .i64 2, .int .i64 s, .int .i64 q, .int .i64 n] 89))
        have c0 := D2.cell 0
        have c1 := D2.cell 1
        have c2 := D2.cell 2
        have c3 := D2.cell 3
        have c4 := D2.cell 4
        have a1 := E2.cell 1
        have a2 := E2.cell 2
        have a3 := E2.cell 3
        clear hk1 D1 D2 E2
        go_wp2_with fail
        refine (HB'.out _).mono ?_
        rintro e w' ⟨rfl, rfl⟩
        go_wp2_with fail
        refine (HC'.out _).mono ?_
        rintro e w' ⟨rfl, rfl⟩
        go_wp2_with fail
        go_ret
        exact ⟨by rw [M.out]; rfl, K2.out⟩
    · have M := Lib.hid (may_f (c := Cmd.mk 2 s q nm n) (by unfold MayP; simp only; omega))
      generalize he0 : (nm.toList == []) = e0
      rw [show inB s 0 1073741824 = false from decide_eq_false h1] at HB
      have HB' := Lib.hid HB
      clear h0 h0' HB HC HD h1
      unfold Cmd.val Cmd.cs at HP ⊢
      go_enter Try.func30, Try.ntmps30
      go_wp2_with fail
      refine (HP.out _).mono ?_
      rintro e w1 ⟨rfl, hk1⟩
      have K1 := Lib.hid (((Keep.same Nothing w).alloc (.cells #[.int .i64 2, .int .i64 s, .int .i64 q, .string nm, .int .i64 n] 31)).then hk1)
      have D1 := (Blk.fresh w 31 #[.int .i64 2, .int .i64 s, .int .i64 q, .string nm, .int .i64 n]).keep hk1 (fun h => h)
      have D2 := D1.alloc (.cells #[.int .i64 2, .int .i64 s, .int .i64 q, .int .i64 n] 89)
      have E2 := Blk.fresh w1 89 #[.int .i64 2, .int .i64 s, .int .i64 q, .int .i64 n]
      have K2 := Lib.hid (K1.out.alloc (.cells #[.int .i64 2, .int .i64 s, .int .i64 q, .int .i64 n] 89))
      have c0 := D2.cell 0
      have c1 := D2.cell 1
      have c2 := D2.cell 2
      have c3 := D2.cell 3
      have c4 := D2.cell 4
      have a1 := E2.cell 1
      have a2 := E2.cell 2
      have a3 := E2.cell 3
      clear hk1 D1 D2 E2
      go_wp2_with fail
      refine (HB'.out _).mono ?_
      rintro e w' ⟨rfl, rfl⟩
      go_wp2_with fail
      go_ret
      exact ⟨by rw [M.out]; rfl, K2.out⟩
end Go.Proofs.Ythlfcinjmljbjaa.A
