/-
  Which commands may be: kinds 5, 6, 7, 9.
-/
import Derived.Test.YthlfcinjmljbjaaS1
namespace Go.Proofs.Ythlfcinjmljbjaa.A
open Go.RowKit Go.Proofs.Ythlfcinjmljbjaa.U
set_option linter.unusedVariables false
set_option linter.unusedSimpArgs false
set_option maxRecDepth 100000

set_option maxHeartbeats 8000000 in
theorem may_9 (w : World) (s q n : Int) (nm : ByteArray) : Calls Try.prog 30 #[(Cmd.mk 9 s q nm n).val] w (maySpec (Cmd.mk 9 s q nm n) w) := by
  have hu := Try.underlying31
  have hu2 := Try.underlying89
  have HP := Lib.hid (fun w => pack_calls w (Cmd.mk 9 s q nm n))
  have HA := fun w => in_calls w nm.size 1 64
  have HB := fun w => in_calls w s 1 1073741824
  have HC := fun w => in_calls w q 1 1073741824
  have HD := fun w => in_calls w n (-1073741824) 1073741824
  generalize he0 : (nm.toList == []) = e0
  by_cases h1 : 1 ≤ s ∧ s ≤ 1073741824
  · by_cases h2 : 1 ≤ q ∧ q ≤ 1073741824
    · by_cases h3 : (1 : Int) ≤ nm.size ∧ (nm.size : Int) ≤ 64
      · by_cases h4 : -1073741824 ≤ n ∧ n ≤ 1073741824
        · have M := Lib.hid (may_t (c := Cmd.mk 9 s q nm n) (by unfold MayP; simp; try omega))
          rw [show inB s 1 1073741824 = true from decide_eq_true h1] at HB
          rw [show inB q 1 1073741824 = true from decide_eq_true h2] at HC
          rw [show inB nm.size 1 64 = true from decide_eq_true h3] at HA
          rw [show inB n (-1073741824) 1073741824 = true from decide_eq_true h4] at HD
          have HA' := Lib.hid HA
          have HB' := Lib.hid HB
          have HC' := Lib.hid HC
          have HD' := Lib.hid HD
          clear HA HB HC HD h1 h2 h3 h4
          unfold Cmd.val Cmd.cs at HP ⊢
          go_enter Try.func30, Try.ntmps30
          go_wp2_with fail
          refine (HP.out _).mono ?_
          rintro e w1 ⟨rfl, hk1⟩
          have K1 := Lib.hid (((Keep.same Nothing w).alloc (.cells #[.int .i64 9, .int .i64 s, .int .i64 q, .string nm, .int .i64 n] 31)).then hk1)
          have D1 := (Blk.fresh w 31 #[.int .i64 9, .int .i64 s, .int .i64 q, .string nm, .int .i64 n]).keep hk1 (fun h => h)
          have D2 := D1.alloc (.cells #[.int .i64 9, .int .i64 s, .int .i64 q, .int .i64 n] 89)
          have E2 := Blk.fresh w1 89 #[.int .i64 9, .int .i64 s, .int .i64 q, .int .i64 n]
          have K2 := Lib.hid (K1.out.alloc (.cells #[.int .i64 9, .int .i64 s, .int .i64 q, .int .i64 n] 89))
          have c0 := D2.cell 0
          have c1 := D2.cell 1
          have c2 := D2.cell 2
          have c3 := D2.cell 3
          have c4 := D2.cell 4
          have a1 := E2.cell 1
          have a2 := E2.cell 2
          have a3 := E2.cell 3
          clear hk1 D1 D2 E2
          go_wp2_with fail
          refine (HA'.out _).mono ?_
          rintro e w' ⟨rfl, rfl⟩
          go_wp2_with fail
          refine (HB'.out _).mono ?_
          rintro e w' ⟨rfl, rfl⟩
          go_wp2_with fail
          refine (HC'.out _).mono ?_
          rintro e w' ⟨rfl, rfl⟩
          go_wp2_with fail
          refine (HD'.out _).mono ?_
          rintro e w' ⟨rfl, rfl⟩
          go_wp2_with fail
          go_ret
          exact ⟨by rw [M.out]; rfl, K2.out⟩
        · have M := Lib.hid (may_f (c := Cmd.mk 9 s q nm n) (by unfold MayP; simp only; omega))
          rw [show inB s 1 1073741824 = true from decide_eq_true h1] at HB
          rw [show inB q 1 1073741824 = true from decide_eq_true h2] at HC
          rw [show inB nm.size 1 64 = true from decide_eq_true h3] at HA
          rw [show inB n (-1073741824) 1073741824 = false from decide_eq_false h4] at HD
          have HA' := Lib.hid HA
          have HB' := Lib.hid HB
          have HC' := Lib.hid HC
          have HD' := Lib.hid HD
          clear HA HB HC HD h1 h2 h3 h4
          unfold Cmd.val Cmd.cs at HP ⊢
          go_enter Try.func30, Try.ntmps30
          go_wp2_with fail
          refine (HP.out _).mono ?_
          rintro e w1 ⟨rfl, hk1⟩
          have K1 := Lib.hid (((Keep.same Nothing w).alloc (.cells #[.int .i64 9, .int .i64 s, .int .i64 q, .string nm, .int .i64 n] 31)).then hk1)
          have D1 := (Blk.fresh w 31 #[.int .i64 9, .int .i64 s, .int .i64 q, .string nm, .int .i64 n]).keep hk1 (fun h => h)
          have D2 := D1.alloc (.cells #[.int .i64 9, .int .i64 s, .int .i64 q, .int .i64 n] 89)
          have E2 := Blk.fresh w1 89 #[.int .i64 9, .int .i64 s, .int .i64 q, .int .i64 n]
          have K2 := Lib.hid (K1.out.alloc (.cells #[.int .i64 9, .int .i64 s, .int .i64 q, .int .i64 n] 89))
          have c0 := D2.cell 0
          have c1 := D2.cell 1
          have c2 := D2.cell 2
          have c3 := D2.cell 3
          have c4 := D2.cell 4
          have a1 := E2.cell 1
          have a2 := E2.cell 2
          have a3 := E2.cell 3
          clear hk1 D1 D2 E2
          go_wp2_with fail
          refine (HA'.out _).mono ?_
          rintro e w' ⟨rfl, rfl⟩
          go_wp2_with fail
          refine (HB'.out _).mono ?_
          rintro e w' ⟨rfl, rfl⟩
          go_wp2_with fail
          refine (HC'.out _).mono ?_
          rintro e w' ⟨rfl, rfl⟩
          go_wp2_with fail
          refine (HD'.out _).mono ?_
          rintro e w' ⟨rfl, rfl⟩
          go_wp2_with fail
          go_ret
          exact ⟨by rw [M.out]; rfl, K2.out⟩
      · have M := Lib.hid (may_f (c := Cmd.mk 9 s q nm n) (by unfold MayP; simp only; omega))
        rw [show inB s 1 1073741824 = true from decide_eq_true h1] at HB
        rw [show inB q 1 1073741824 = true from decide_eq_true h2] at HC
        rw [show inB nm.size 1 64 = false from decide_eq_false h3] at HA
        have HA' := Lib.hid HA
        have HB' := Lib.hid HB
        have HC' := Lib.hid HC
        clear HA HB HC HD h1 h2 h3
        unfold Cmd.val Cmd.cs at HP ⊢
        go_enter Try.func30, Try.ntmps30
        go_wp2_with fail
        refine (HP.out _).mono ?_
        rintro e w1 ⟨rfl, hk1⟩
        have K1 := Lib.hid (((Keep.same Nothing w).alloc (.cells #[.int .i64 9, .int .i64 s, .int .i64 q, .string nm, .int .i64 n] 31)).then hk1)
        have D1 := (Blk.fresh w 31 #[.int .i64 9, .int .i64 s, .int .i64 q, .string nm, .int .i64 n]).keep hk1 (fun h => h)
        have D2 := D1.alloc (.cells #[.int .i64 9, .int .i64 s, .int .i64 q, .int .i64 n] 89)
        have E2 := Blk.fresh w1 89 #[.int .i64 9, .int .i64 s, .int .i64 q, .int .i64 n]
        have K2 := Lib.hid (K1.out.alloc (.cells #[.int .i64 9, .int .i64 s, .int .i64 q, .int .i64 n] 89))
        have c0 := D2.cell 0
        have c1 := D2.cell 1
        have c2 := D2.cell 2
        have c3 := D2.cell 3
        have c4 := D2.cell 4
        have a1 := E2.cell 1
        have a2 := E2.cell 2
        have a3 := E2.cell 3
        clear hk1 D1 D2 E2
        go_wp2_with fail
        refine (HA'.out _).mono ?_
        rintro e w' ⟨rfl, rfl⟩
        go_wp2_with fail
        refine (HB'.out _).mono ?_
        rintro e w' ⟨rfl, rfl⟩
        go_wp2_with fail
        refine (HC'.out _).mono ?_
        rintro e w' ⟨rfl, rfl⟩
        go_wp2_with fail
        go_ret
        exact ⟨by rw [M.out]; rfl, K2.out⟩
    · have M := Lib.hid (may_f (c := Cmd.mk 9 s q nm n) (by unfold MayP; simp only; omega))
      generalize inB nm.size 1 64 = b3 at HA
      rw [show inB s 1 1073741824 = true from decide_eq_true h1] at HB
      rw [show inB q 1 1073741824 = false from decide_eq_false h2] at HC
      have HA' := Lib.hid HA
      have HB' := Lib.hid HB
      have HC' := Lib.hid HC
      clear HA HB HC HD h1 h2
      unfold Cmd.val Cmd.cs at HP ⊢
      go_enter Try.func30, Try.ntmps30
      go_wp2_with fail
      refine (HP.out _).mono ?_
      rintro e w1 ⟨rfl, hk1⟩
      have K1 := Lib.hid (((Keep.same Nothing w).alloc (.cells #[.int .i64 9, .int .i64 s, .int .i64 q, .string nm, .int .i64 n] 31)).then hk1)
      have D1 := (Blk.fresh w 31 #[.int .i64 9, .int .i64 s, .int .i64 q, .string nm, .int .i64 n]).keep hk1 (fun h => h)
      have D2 := D1.alloc (.cells #[.int .i64 9, .int .i64 s, .int .i64 q, .int .i64 n] 89)
      have E2 := Blk.fresh w1 89 #[.int .i64 9, .int .i64 s, .int .i64 q, .int .i64 n]
      have K2 := Lib.hid (K1.out.alloc (.cells #[.int .i64 9, .int .i64 s, .int .i64 q, .int .i64 n] 89))
      have c0 := D2.cell 0
      have c1 := D2.cell 1
      have c2 := D2.cell 2
      have c3 := D2.cell 3
      have c4 := D2.cell 4
      have a1 := E2.cell 1
      have a2 := E2.cell 2
      have a3 := E2.cell 3
      clear hk1 D1 D2 E2
      go_wp2_with fail
      refine (HA'.out _).mono ?_
      rintro e w' ⟨rfl, rfl⟩
      go_wp2_with fail
      refine (HB'.out _).mono ?_
      rintro e w' ⟨rfl, rfl⟩
      go_wp2_with fail
      refine (HC'.out _).mono ?_
      rintro e w' ⟨rfl, rfl⟩
      go_wp2_with fail
      go_ret
      exact ⟨by rw [M.out]; rfl, K2.out⟩
  · have M := Lib.hid (may_f (c := Cmd.mk 9 s q nm n) (by unfold MayP; simp only; omega))
    generalize inB nm.size 1 64 = b3 at HA
    rw [show inB s 1 1073741824 = false from decide_eq_false h1] at HB
    have HA' := Lib.hid HA
    have HB' := Lib.hid HB
    clear HA HB HC HD h1
    unfold Cmd.val Cmd.cs at HP ⊢
    go_enter Try.func30, Try.ntmps30
    go_wp2_with fail
    refine (HP.out _).mono ?_
    rintro e w1 ⟨rfl, hk1⟩
    have K1 := Lib.hid (((Keep.same Nothing w).alloc (.cells #[.int .i64 9, .int .i64 s, .int .i64 q, .string nm, .int .i64 n] 31)).then hk1)
    have D1 := (Blk.fresh w 31 #[.int .i64 9, .int .i64 s, .int .i64 q, .string nm, .int .i64 n]).keep hk1 (fun h => h)
    have D2 := D1.alloc (.cells #[.int .i64 9, .int .i64 s, .int .i64 q, .int .i64 n] 89)
    have E2 := Blk.fresh w1 89 #[.int .i64 9, .int .i64 s, .int .i64 q, .int .i64 n]
    have K2 := Lib.hid (K1.out.alloc (.cells #[.int .i64 9, .int .i64 s, .int .i64 q, .int .i64 n] 89))
    have c0 := D2.cell 0
    have c1 := D2.cell 1
    have c2 := D2.cell 2
    have c3 := D2.cell 3
    have c4 := D2.cell 4
    have a1 := E2.cell 1
    have a2 := E2.cell 2
    have a3 := E2.cell 3
    clear hk1 D1 D2 E2
    go_wp2_with fail
    refine (HA'.out _).mono ?_
    rintro e w' ⟨rfl, rfl⟩
    go_wp2_with fail
    refine (HB'.out _).mono ?_
    rintro e w' ⟨rfl, rfl⟩
    go_wp2_with fail
    go_ret
    exact ⟨by rw [M.out]; rfl, K2.out⟩
set_option maxHeartbeats 8000000 in
theorem may_5 (w : World) (s q n : Int) (nm : ByteArray) : Calls Try.prog 30 #[(Cmd.mk 5 s q nm n).val] w (maySpec (Cmd.mk 5 s q nm n) w) := by
  have hu := Try.underlying31
  have hu2 := Try.underlying89
  have HP := Lib.hid (fun w => pack_calls w (Cmd.mk 5 s q nm n))
  have HA := fun w => in_calls w nm.size 1 64
  have HB := fun w => in_calls w s 1 1073741824
  have HC := fun w => in_calls w q 1 1073741824
  have HD := fun w => in_calls w n (0) 0
  generalize he0 : (nm.toList == []) = e0
  by_cases h1 : 1 ≤ s ∧ s ≤ 1073741824
  · by_cases h2 : 1 ≤ q ∧ q ≤ 1073741824
    · by_cases h3 : (1 : Int) ≤ nm.size ∧ (nm.size : Int) ≤ 64
      · by_cases h4 : 0 ≤ n ∧ n ≤ 0
        · have M := Lib.hid (may_t (c := Cmd.mk 5 s q nm n) (by unfold MayP; simp; try omega))
          rw [show inB s 1 1073741824 = true from decide_eq_true h1] at HB
          rw [show inB q 1 1073741824 = true from decide_eq_true h2] at HC
          rw [show inB nm.size 1 64 = true from decide_eq_true h3] at HA
          rw [show inB n 0 0 = true from decide_eq_true h4] at HD
          have HA' := Lib.hid HA
          have HB' := Lib.hid HB
          have HC' := Lib.hid HC
          have HD' := Lib.hid HD
          clear HA HB HC HD h1 h2 h3 h4
          unfold Cmd.val Cmd.cs at HP ⊢
          go_enter Try.func30, Try.ntmps30
          go_wp2_with fail
          refine (HP.out _).mono ?_
          rintro e w1 ⟨rfl, hk1⟩
          have K1 := Lib.hid (((Keep.same Nothing w).alloc (.cells #[.int .i64 5, .int .i64 s, .int .i64 q, .string nm, .int .i64 n] 31)).then hk1)
          have D1 := (Blk.fresh w 31 #[.int .i64 5, .int .i64 s, .int .i64 q, .string nm, .int .i64 n]).keep hk1 (fun h => h)
          have D2 := D1.alloc (.cells #[.int .i64 5, .int .i64 s, .int .i64 q, .int .i64 n] 89)
          have E2 := Blk.fresh w1 89 #[.int .i64 5, .int .i64 s, .int .i64 q, .int .i64 n]
          have K2 := Lib.hid (K1.out.alloc (.cells #[.int .i64 5, .int .i64 s, .int .i64 q, .int .i64 n] 89))
          have c0 := D2.cell 0
          have c1 := D2.cell 1
          have c2 := D2.cell 2
          have c3 := D2.cell 3
          have c4 := D2.cell 4
          have a1 := E2.cell 1
          have a2 := E2.cell 2
          have a3 := E2.cell 3
          clear hk1 D1 D2 E2
          go_wp2_with fail
          refine (HA'.out _).mono ?_
          rintro e w' ⟨rfl, rfl⟩
          go_wp2_with fail
          refine (HB'.out _).mono ?_
          rintro e w' ⟨rfl, rfl⟩
          go_wp2_with fail
          refine (HC'.out _).mono ?_
          rintro e w' ⟨rfl, rfl⟩
          go_wp2_with fail
          refine (HD'.out _).mono ?_
          rintro e w' ⟨rfl, rfl⟩
          go_wp2_with fail
          go_ret
          exact ⟨by rw [M.out]; rfl, K2.out⟩
        · have M := Lib.hid (may_f (c := Cmd.mk 5 s q nm n) (by unfold MayP; simp only; omega))
          rw [show inB s 1 1073741824 = true from decide_eq_true h1] at HB
          rw [show inB q 1 1073741824 = true from decide_eq_true h2] at HC
          rw [show inB nm.size 1 64 = true from decide_eq_true h3] at HA
          rw [show inB n 0 0 = false from decide_eq_false h4] at HD
          have HA' := Lib.hid HA
          have HB' := Lib.hid HB
          have HC' := Lib.hid HC
          have HD' := Lib.hid HD
          clear HA HB HC HD h1 h2 h3 h4
          unfold Cmd.val Cmd.cs at HP ⊢
          go_enter Try.func30, Try.ntmps30
          go_wp2_with fail
          refine (HP.out _).mono ?_
          rintro e w1 ⟨rfl, hk1⟩
          have K1 := Lib.hid (((Keep.same Nothing w).alloc (.cells #[.int .i64 5, .int .i64 s, .int .i64 q, .string nm, .int .i64 n] 31)).then hk1)
          have D1 := (Blk.fresh w 31 #[.int .i64 5, .int .i64 s, .int .i64 q, .string nm, .int .i64 n]).keep hk1 (fun h => h)
          have D2 := D1.alloc (.cells #[.int .i64 5, .int .i64 s, .int .i64 q, .int .i64 n] 89)
          have E2 := Blk.fresh w1 89 #[.int .i64 5, .int .i64 s, .int .i64 q, .int .i64 n]
          have K2 := Lib.hid (K1.out.alloc (.cells #[.int .i64 5, .int .i64 s, .int .i64 q, .int .i64 n] 89))
          have c0 := D2.cell 0
          have c1 := D2.cell 1
          have c2 := D2.cell 2
          have c3 := D2.cell 3
          have c4 := D2.cell 4
          have a1 := E2.cell 1
          have a2 := E2.cell 2
          have a3 := E2.cell 3
          clear hk1 D1 D2 E2
          go_wp2_with fail
          refine (HA'.out _).mono ?_
          rintro e w' ⟨rfl, rfl⟩
          go_wp2_with fail
          refine (HB'.out _).mono ?_
          rintro e w' ⟨rfl, rfl⟩
          go_wp2_with fail
          refine (HC'.out _).mono ?_
          rintro e w' ⟨rfl, rfl⟩
          go_wp2_with fail
          refine (HD'.out _).mono ?_
          rintro e w' ⟨rfl, rfl⟩
          go_wp2_with fail
          go_ret
          exact ⟨by rw [M.out]; rfl, K2.out⟩
      · have M := Lib.hid (may_f (c := Cmd.mk 5 s q nm n) (by unfold MayP; simp only; omega))
        rw [show inB s 1 1073741824 = true from decide_eq_true h1] at HB
        rw [show inB q 1 1073741824 = true from decide_eq_true h2] at HC
        rw [show inB nm.size 1 64 = false from decide_eq_false h3] at HA
        have HA' := Lib.hid HA
        have HB' := Lib.hid HB
        have HC' := Lib.hid HC
        clear HA HB HC HD h1 h2 h3
        unfold Cmd.val Cmd.cs at HP ⊢
        go_enter Try.func30, Try.ntmps30
        go_wp2_with fail
        refine (HP.out _).mono ?_
        rintro e w1 ⟨rfl, hk1⟩
        have K1 := Lib.hid (((Keep.same Nothing w).alloc (.cells #[.int .i64 5, .int .i64 s, .int .i64 q, .string nm, .int .i64 n] 31)).then hk1)
        have D1 := (Blk.fresh w 31 #[.int .i64 5, .int .i64 s, .int .i64 q, .string nm, .int .i64 n]).keep hk1 (fun h => h)
        have D2 := D1.alloc (.cells #[.int .i64 5, .int .i64 s, .int .i64 q, .int .i64 n] 89)
        have E2 := Blk.fresh w1 89 #[.int .i64 5, .int .i64 s, .int .i64 q, .int .i64 n]
        have K2 := Lib.hid (K1.out.alloc (.cells #[.int .i64 5, .int .i64 s, .int .i64 q, .int .i64 n] 89))
        have c0 := D2.cell 0
        have c1 := D2.cell 1
        have c2 := D2.cell 2
        have c3 := D2.cell 3
        have c4 := D2.cell 4
        have a1 := E2.cell 1
        have a2 := E2.cell 2
        have a3 := E2.cell 3
        clear hk1 D1 D2 E2
        go_wp2_with fail
        refine (HA'.out _).mono ?_
        rintro e w' ⟨rfl, rfl⟩
        go_wp2_with fail
        refine (HB'.out _).mono ?_
        rintro e w' ⟨rfl, rfl⟩
        go_wp2_with fail
        refine (HC'.out _).mono ?_
        rintro e w' ⟨rfl, rfl⟩
        go_wp2_with fail
        go_ret
        exact ⟨by rw [M.out]; rfl, K2.out⟩
    · have M := Lib.hid (may_f (c := Cmd.mk 5 s q nm n) (by unfold MayP; simp only; omega))
      generalize inB nm.size 1 64 = b3 at HA
      rw [show inB s 1 1073741824 = true from decide_eq_true h1] at HB
      rw [show inB q 1 1073741824 = false from decide_eq_false h2] at HC
      have HA' := Lib.hid HA
      have HB' := Lib.hid HB
      have HC' := Lib.hid HC
      clear HA HB HC HD h1 h2
      unfold Cmd.val Cmd.cs at HP ⊢
      go_enter Try.func30, Try.ntmps30
      go_wp2_with fail
      refine (HP.out _).mono ?_
      rintro e w1 ⟨rfl, hk1⟩
      have K1 := Lib.hid (((Keep.same Nothing w).alloc (.cells #[.int .i64 5, .int .i64 s, .int .i64 q, .string nm, .int .i64 n] 31)).then hk1)
      have D1 := (Blk.fresh w 31 #[.int .i64 5, .int .i64 s, .int .i64 q, .string nm, .int .i64 n]).keep hk1 (fun h => h)
      have D2 := D1.alloc (.cells #[.int .i64 5, .int .i64 s, .int .i64 q, .int .i64 n] 89)
      have E2 := Blk.fresh w1 89 #[.int .i64 5, .int .i64 s, .int .i64 q, .int .i64 n]
      have K2 := Lib.hid (K1.out.alloc (.cells #[.int .i64 5, .int .i64 s, .int .i64 q, .int .i64 n] 89))
      have c0 := D2.cell 0
      have c1 := D2.cell 1
      have c2 := D2.cell 2
      have c3 := D2.cell 3
      have c4 := D2.cell 4
      have a1 := E2.cell 1
      have a2 := E2.cell 2
      have a3 := E2.cell 3
      clear hk1 D1 D2 E2
      go_wp2_with fail
      refine (HA'.out _).mono ?_
      rintro e w' ⟨rfl, rfl⟩
      go_wp2_with fail
      refine (HB'.out _).mono ?_
      rintro e w' ⟨rfl, rfl⟩
      go_wp2_with fail
      refine (HC'.out _).mono ?_
      rintro e w' ⟨rfl, rfl⟩
      go_wp2_with fail
      go_ret
      exact ⟨by rw [M.out]; rfl, K2.out⟩
  · have M := Lib.hid (may_f (c := Cmd.mk 5 s q nm n) (by unfold MayP; simp only; omega))
    generalize inB nm.size 1 64 = b3 at HA
    rw [show inB s 1 1073741824 = false from decide_eq_false h1] at HB
    have HA' := Lib.hid HA
    have HB' := Lib.hid HB
    clear HA HB HC HD h1
    unfold Cmd.val Cmd.cs at HP ⊢
    go_enter Try.func30, Try.ntmps30
    go_wp2_with fail
    refine (HP.out _).mono ?_
    rintro e w1 ⟨rfl, hk1⟩
    have K1 := Lib.hid (((Keep.same Nothing w).alloc (.cells #[.int .i64 5, .int .i64 s, .int .i64 q, .string nm, .int .i64 n] 31)).then hk1)
    have D1 := (Blk.fresh w 31 #[.int .i64 5, .int .i64 s, .int .i64 q, .string nm, .int .i64 n]).keep hk1 (fun h => h)
    have D2 := D1.alloc (.cells #[.int .i64 5, .int .i64 s, .int .i64 q, .int .i64 n] 89)
    have E2 := Blk.fresh w1 89 #[.int .i64 5, .int .i64 s, .int .i64 q, .int .i64 n]
    have K2 := Lib.hid (K1.out.alloc (.cells #[.int .i64 5, .int .i64 s, .int .i64 q, .int .i64 n] 89))
    have c0 := D2.cell 0
    have c1 := D2.cell 1
    have c2 := D2.cell 2
    have c3 := D2.cell 3
    have c4 := D2.cell 4
    have a1 := E2.cell 1
    have a2 := E2.cell 2
    have a3 := E2.cell 3
    clear hk1 D1 D2 E2
    go_wp2_with fail
    refine (HA'.out _).mono ?_
    rintro e w' ⟨rfl, rfl⟩
    go_wp2_with fail
    refine (HB'.out _).mono ?_
    rintro e w' ⟨rfl, rfl⟩
    go_wp2_with fail
    go_ret
    exact ⟨by rw [M.out]; rfl, K2.out⟩
set_option maxHeartbeats 8000000 in
theorem may_6 (w : World) (s q n : Int) (nm : ByteArray) : Calls Try.prog 30 #[(Cmd.mk 6 s q nm n).val] w (maySpec (Cmd.mk 6 s q nm n) w) := by
  have hu := Try.underlying31
  have hu2 := Try.underlying89
  have HP := Lib.hid (fun w => pack_calls w (Cmd.mk 6 s q nm n))
  have HA := fun w => in_calls w nm.size 1 64
  have HB := fun w => in_calls w s 1 1073741824
  have HC := fun w => in_calls w q 1 1073741824
  have HD := fun w => in_calls w n (0) 0
  generalize he0 : (nm.toList == []) = e0
  by_cases h1 : 1 ≤ s ∧ s ≤ 1073741824
  · by_cases h2 : 1 ≤ q ∧ q ≤ 1073741824
    · by_cases h3 : (1 : Int) ≤ nm.size ∧ (nm.size : Int) ≤ 64
      · by_cases h4 : 0 ≤ n ∧ n ≤ 0
        · have M := Lib.hid (may_t (c := Cmd.mk 6 s q nm n) (by unfold MayP; simp; try omega))
          rw [show inB s 1 1073741824 = true from decide_eq_true h1] at HB
          rw [show inB q 1 1073741824 = true from decide_eq_true h2] at HC
          rw [show inB nm.size 1 64 = true from decide_eq_true h3] at HA
          rw [show inB n 0 0 = true from decide_eq_true h4] at HD
          have HA' := Lib.hid HA
          have HB' := Lib.hid HB
          have HC' := Lib.hid HC
          have HD' := Lib.hid HD
          clear HA HB HC HD h1 h2 h3 h4
          unfold Cmd.val Cmd.cs at HP ⊢
          go_enter Try.func30, Try.ntmps30
          go_wp2_with fail
          refine (HP.out _).mono ?_
          rintro e w1 ⟨rfl, hk1⟩
          have K1 := Lib.hid (((Keep.same Nothing w).alloc (.cells #[.int .i64 6, .int .i64 s, .int .i64 q, .string nm, .int .i64 n] 31)).then hk1)
          have D1 := (Blk.fresh w 31 #[.int .i64 6, .int .i64 s, .int .i64 q, .string nm, .int .i64 n]).keep hk1 (fun h => h)
          have D2 := D1.alloc (.cells #[.int .i64 6, .int .i64 s, .int .i64 q, .int .i64 n] 89)
          have E2 := Blk.fresh w1 89 #[.int .i64 6, .int .i64 s, .int .i64 q, .int .i64 n]
          have K2 := Lib.hid (K1.out.alloc (.cells #[.int .i64 6, .int .i64 s, .int .i64 q, .int .i64 n] 89))
          have c0 := D2.cell 0
          have c1 := D2.cell 1
          have c2 := D2.cell 2
          have c3 := D2.cell 3
          have c4 := D2.cell 4
          have a1 := E2.cell 1
          have a2 := E2.cell 2
          have a3 := E2.cell 3
          clear hk1 D1 D2 E2
          go_wp2_with fail
          refine (HA'.out _).mono ?_
          rintro e w' ⟨rfl, rfl⟩
          go_wp2_with fail
          refine (HB'.out _).mono ?_
          rintro e w' ⟨rfl, rfl⟩
          go_wp2_with fail
          refine (HC'.out _).mono ?_
          rintro e w' ⟨rfl, rfl⟩
          go_wp2_with fail
          refine (HD'.out _).mono ?_
          rintro e w' ⟨rfl, rfl⟩
          go_wp2_with fail
          go_ret
          exact ⟨by rw [M.out]; rfl, K2.out⟩
        · have M := Lib.hid (may_f (c := Cmd.mk 6 s q nm n) (by unfold MayP; simp only; omega))
          rw [show inB s 1 1073741824 = true from decide_eq_true h1] at HB
          rw [show inB q 1 1073741824 = true from decide_eq_true h2] at HC
          rw [show inB nm.size 1 64 = true from decide_eq_true h3] at HA
          rw [show inB n 0 0 = false from decide_eq_false h4] at HD
          have HA' := Lib.hid HA
          have HB' := Lib.hid HB
          have HC' := Lib.hid HC
          have HD' := Lib.hid HD
          clear HA HB HC HD h1 h2 h3 h4
          unfold Cmd.val Cmd.cs at HP ⊢
          go_enter Try.func30, Try.ntmps30
          go_wp2_with fail
          refine (HP.out _).mono ?_
          rintro e w1 ⟨rfl, hk1⟩
          have K1 := Lib.hid (((Keep.same Nothing w).alloc (.cells #[.int .i64 6, .int .i64 s, .int .i64 q, .string nm, .int .i64 n] 31)).then hk1)
          have D1 := (Blk.fresh w 31 #[.int .i64 6, .int .i64 s, .int .i64 q, .string nm, .int .i64 n]).keep hk1 (fun h => h)
          have D2 := D1.alloc (.cells #[.int .i64 6, .int .i64 s, .int .i64 q, .int .i64 n] 89)
          have E2 := Blk.fresh w1 89 #[.int .i64 6, .int .i64 s, .int .i64 q, .int .i64 n]
          have K2 := Lib.hid (K1.out.alloc (.cells #[.int .i64 6, .int .i64 s, .int .i64 q, .int .i64 n] 89))
          have c0 := D2.cell 0
          have c1 := D2.cell 1
          have c2 := D2.cell 2
          have c3 := D2.cell 3
          have c4 := D2.cell 4
          have a1 := E2.cell 1
          have a2 := E2.cell 2
          have a3 := E2.cell 3
          clear hk1 D1 D2 E2
          go_wp2_with fail
          refine (HA'.out _).mono ?_
          rintro e w' ⟨rfl, rfl⟩
          go_wp2_with fail
          refine (HB'.out _).mono ?_
          rintro e w' ⟨rfl, rfl⟩
          go_wp2_with fail
          refine (HC'.out _).mono ?_
          rintro e w' ⟨rfl, rfl⟩
          go_wp2_with fail
          refine (HD'.out _).mono ?_
          rintro e w' ⟨rfl, rfl⟩
          go_wp2_with fail
          go_ret
          exact ⟨by rw [M.out]; rfl, K2.out⟩
      · have M := Lib.hid (may_f (c := Cmd.mk 6 s q nm n) (by unfold MayP; simp only; omega))
        rw [show inB s 1 1073741824 = true from decide_eq_true h1] at HB
        rw [show inB q 1 1073741824 = true from decide_eq_true h2] at HC
        rw [show inB nm.size 1 64 = false from decide_eq_false h3] at HA
        have HA' := Lib.hid HA
        have HB' := Lib.hid HB
        have HC' := Lib.hid HC
        clear HA HB HC HD h1 h2 h3
        unfold Cmd.val Cmd.cs at HP ⊢
        go_enter Try.func30, Try.ntmps30
        go_wp2_with fail
        refine (HP.out _).mono ?_
        rintro e w1 ⟨rfl, hk1⟩
        have K1 := Lib.hid (((Keep.same Nothing w).alloc (.cells #[.int .i64 6, .int .i64 s, .int .i64 q, .string nm, .int .i64 n] 31)).then hk1)
        have D1 := (Blk.fresh w 31 #[.int .i64 6, .int .i64 s, .int .i64 q, .string nm, .int .i64 n]).keep hk1 (fun h => h)
        have D2 := D1.alloc (.cells #[.int .i64 6, .int .i64 s, .int .i64 q, .int .i64 n] 89)
        have E2 := Blk.fresh w1 89 #[.int .i64 6, .int .i64 s, .int .i64 q, .int .i64 n]
        have K2 := Lib.hid (K1.out.alloc (.cells #[.int .i64 6, .int .i64 s, .int .i64 q, .int .i64 n] 89))
        have c0 := D2.cell 0
        have c1 := D2.cell 1
        have c2 := D2.cell 2
        have c3 := D2.cell 3
        have c4 := D2.cell 4
        have a1 := E2.cell 1
        have a2 := E2.cell 2
        have a3 := E2.cell 3
        clear hk1 D1 D2 E2
        go_wp2_with fail
        refine (HA'.out _).mono ?_
        rintro e w' ⟨rfl, rfl⟩
        go_wp2_with fail
        refine (HB'.out _).mono ?_
        rintro e w' ⟨rfl, rfl⟩
        go_wp2_with fail
        refine (HC'.out _).mono ?_
        rintro e w' ⟨rfl, rfl⟩
        go_wp2_with fail
        go_ret
        exact ⟨by rw [M.out]; rfl, K2.out⟩
    · have M := Lib.hid (may_f (c := Cmd.mk 6 s q nm n) (by unfold MayP; simp only; omega))
      generalize inB nm.size 1 64 = b3 at HA
      rw [show inB s 1 1073741824 = true from decide_eq_true h1] at HB
      rw [show inB q 1 1073741824 = false from decide_eq_false h2] at HC
      have HA' := Lib.hid HA
      have HB' := Lib.hid HB
      have HC' := Lib.hid HC
      clear HA HB HC HD h1 h2
      unfold Cmd.val Cmd.cs at HP ⊢
      go_enter Try.func30, Try.ntmps30
      go_wp2_with fail
      refine (HP.out _).mono ?_
      rintro e w1 ⟨rfl, hk1⟩
      have K1 := Lib.hid (((Keep.same Nothing w).alloc (.cells #[.int .i64 6, .int .i64 s, .int .i64 q, .string nm, .int .i64 n] 31)).then hk1)
      have D1 := (Blk.fresh w 31 #[.int .i64 6, .int .i64 s, .int .i64 q, .string nm, .int .i64 n]).keep hk1 (fun h => h)
      have D2 := D1.alloc (.cells #[.int .i64 6, .int .i64 s, .int .i64 q, .int .i64 n] 89)
      have E2 := Blk.fresh w1 89 #[.int .i64 6, .int .i64 s, .int .i64 q, .int .i64 n]
      have K2 := Lib.hid (K1.out.alloc (.cells #[.int .i64 6, .int .i64 s, .int .i64 q, .int .i64 n] 89))
      have c0 := D2.cell 0
      have c1 := D2.cell 1
      have c2 := D2.cell 2
      have c3 := D2.cell 3
      have c4 := D2.cell 4
      have a1 := E2.cell 1
      have a2 := E2.cell 2
      have a3 := E2.cell 3
      clear hk1 D1 D2 E2
      go_wp2_with fail
      refine (HA'.out _).mono ?_
      rintro e w' ⟨rfl, rfl⟩
      go_wp2_with fail
      refine (HB'.out _).mono ?_
      rintro e w' ⟨rfl, rfl⟩
      go_wp2_with fail
      refine (HC'.out _).mono ?_
      rintro e w' ⟨rfl, rfl⟩
      go_wp2_with fail
      go_ret
      exact ⟨by rw [M.out]; rfl, K2.out⟩
  · have M := Lib.hid (may_f (c := Cmd.mk 6 s q nm n) (by unfold MayP; simp only; omega))
    generalize inB nm.size 1 64 = b3 at HA
    rw [show inB s 1 1073741824 = false from decide_eq_false h1] at HB
    have HA' := Lib.hid HA
    have HB' := Lib.hid HB
    clear HA HB HC HD h1
    unfold Cmd.val Cmd.cs at HP ⊢
    go_enter Try.func30, Try.ntmps30
    go_wp2_with fail
    refine (HP.out _).mono ?_
    rintro e w1 ⟨rfl, hk1⟩
    have K1 := Lib.hid (((Keep.same Nothing w).alloc (.cells #[.int .i64 6, .int .i64 s, .int .i64 q, .string nm, .int .i64 n] 31)).then hk1)
    have D1 := (Blk.fresh w 31 #[.int .i64 6, .int .i64 s, .int .i64 q, .string nm, .int .i64 n]).keep hk1 (fun h => h)
    have D2 := D1.alloc (.cells #[.int .i64 6, .int .i64 s, .int .i64 q, .int .i64 n] 89)
    have E2 := Blk.fresh w1 89 #[.int .i64 6, .int .i64 s, .int .i64 q, .int .i64 n]
    have K2 := Lib.hid (K1.out.alloc (.cells #[.int .i64 6, .int .i64 s, .int .i64 q, .int .i64 n] 89))
    have c0 := D2.cell 0
    have c1 := D2.cell 1
    have c2 := D2.cell 2
    have c3 := D2.cell 3
    have c4 := D2.cell 4
    have a1 := E2.cell 1
    have a2 := E2.cell 2
    have a3 := E2.cell 3
    clear hk1 D1 D2 E2
    go_wp2_with fail
    refine (HA'.out _).mono ?_
    rintro e w' ⟨rfl, rfl⟩
    go_wp2_with fail
    refine (HB'.out _).mono ?_
    rintro e w' ⟨rfl, rfl⟩
    go_wp2_with fail
    go_ret
    exact ⟨by rw [M.out]; rfl, K2.out⟩
set_option maxHeartbeats 8000000 in
theorem may_7 (w : World) (s q n : Int) (nm : ByteArray) : Calls Try.prog 30 #[(Cmd.mk 7 s q nm n).val] w (maySpec (Cmd.mk 7 s q nm n) w) := by
  have hu := Try.underlying31
  have hu2 := Try.underlying89
  have HP := Lib.hid (fun w => pack_calls w (Cmd.mk 7 s q nm n))
  have HA := fun w => in_calls w nm.size 1 64
  have HB := fun w => in_calls w s 1 1073741824
  have HC := fun w => in_calls w q 1 1073741824
  have HD := fun w => in_calls w n (0) 0
  generalize he0 : (nm.toList == []) = e0
  by_cases h1 : 1 ≤ s ∧ s ≤ 1073741824
  · by_cases h2 : 1 ≤ q ∧ q ≤ 1073741824
    · by_cases h3 : (1 : Int) ≤ nm.size ∧ (nm.size : Int) ≤ 64
      · by_cases h4 : 0 ≤ n ∧ n ≤ 0
        · have M := Lib.hid (may_t (c := Cmd.mk 7 s q nm n) (by unfold MayP; simp; try omega))
          rw [show inB s 1 1073741824 = true from decide_eq_true h1] at HB
          rw [show inB q 1 1073741824 = true from decide_eq_true h2] at HC
          rw [show inB nm.size 1 64 = true from decide_eq_true h3] at HA
          rw [show inB n 0 0 = true from decide_eq_true h4] at HD
          have HA' := Lib.hid HA
          have HB' := Lib.hid HB
          have HC' := Lib.hid HC
          have HD' := Lib.hid HD
          clear HA HB HC HD h1 h2 h3 h4
          unfold Cmd.val Cmd.cs at HP ⊢
          go_enter Try.func30, Try.ntmps30
          go_wp2_with fail
          refine (HP.out _).mono ?_
          rintro e w1 ⟨rfl, hk1⟩
          have K1 := Lib.hid (((Keep.same Nothing w).alloc (.cells #[.int .i64 7, .int .i64 s, .int .i64 q, .string nm, .int .i64 n] 31)).then hk1)
          have D1 := (Blk.fresh w 31 #[.int .i64 7, .int .i64 s, .int .i64 q, .string nm, .int .i64 n]).keep hk1 (fun h => h)
          have D2 := D1.alloc (.cells #[.int .i64 7, .int .i64 s, .int .i64 q, .int .i64 n] 89)
          have E2 := Blk.fresh w1 89 #[.int .i64 7, .int .i64 s, .int .i64 q, .int .i64 n]
          have K2 := Lib.hid (K1.out.alloc (.cells #[.int .i64 7, .int .i64 s, .int .i64 q, .int .i64 n] 89))
          have c0 := D2.cell 0
          have c1 := D2.cell 1
          have c2 := D2.cell 2
          have c3 := D2.cell 3
          have c4 := D2.cell 4
          have a1 := E2.cell 1
          have a2 := E2.cell 2
          have a3 := E2.cell 3
          clear hk1 D1 D2 E2
          go_wp2_with fail
          refine (HA'.out _).mono ?_
          rintro e w' ⟨rfl, rfl⟩
          go_wp2_with fail
          refine (HB'.out _).mono ?_
          rintro e w' ⟨rfl, rfl⟩
          go_wp2_with fail
          refine (HC'.out _).mono ?_
          rintro e w' ⟨rfl, rfl⟩
          go_wp2_with fail
          refine (HD'.out _).mono ?_
          rintro e w' ⟨rfl, rfl⟩
          go_wp2_with fail
          go_ret
          exact ⟨by rw [M.out]; rfl, K2.out⟩
        · have M := Lib.hid (may_f (c := Cmd.mk 7 s q nm n) (by unfold MayP; simp only; omega))
          rw [show inB s 1 1073741824 = true from decide_eq_true h1] at HB
          rw [show inB q 1 1073741824 = true from decide_eq_true h2] at HC
          rw [show inB nm.size 1 64 = true from decide_eq_true h3] at HA
          rw [show inB n 0 0 = false from decide_eq_false h4] at HD
          have HA' := Lib.hid HA
          have HB' := Lib.hid HB
          have HC' := Lib.hid HC
          have HD' := Lib.hid HD
          clear HA HB HC HD h1 h2 h3 h4
          unfold Cmd.val Cmd.cs at HP ⊢
          go_enter Try.func30, Try.ntmps30
          go_wp2_with fail
          refine (HP.out _).mono ?_
          rintro e w1 ⟨rfl, hk1⟩
          have K1 := Lib.hid (((Keep.same Nothing w).alloc (.cells #[.int .i64 7, .int .i64 s, .int .i64 q, .string nm, .int .i64 n] 31)).then hk1)
          have D1 := (Blk.fresh w 31 #[.int .i64 7, .int .i64 s, .int .i64 q, .string nm, .int .i64 n]).keep hk1 (fun h => h)
          have D2 := D1.alloc (.cells #[.int .i64 7, .int .i64 s, .int .i64 q, .int .i64 n] 89)
          have E2 := Blk.fresh w1 89 #[.int .i64 7, .int .i64 s, .int .i64 q, .int .i64 n]
          have K2 := Lib.hid (K1.out.alloc (.cells #[.int .i64 7, .int .i64 s, .int .i64 q, .int .i64 n] 89))
          have c0 := D2.cell 0
          have c1 := D2.cell 1
          have c2 := D2.cell 2
          have c3 := D2.cell 3
          have c4 := D2.cell 4
          have a1 := E2.cell 1
          have a2 := E2.cell 2
          have a3 := E2.cell 3
          clear hk1 D1 D2 E2
          go_wp2_with fail
          refine (HA'.out _).mono ?_
          rintro e w' ⟨rfl, rfl⟩
          go_wp2_with fail
          refine (HB'.out _).mono ?_
          rintro e w' ⟨rfl, rfl⟩
          go_wp2_with fail
          refine (HC'.out _).mono ?_
          rintro e w' ⟨rfl, rfl⟩
          go_wp2_with fail
          refine (HD'.out _).mono ?_
          rintro e w' ⟨rfl, rfl⟩
          go_wp2_with fail
          go_ret
          exact ⟨by rw [M.out]; rfl, K2.out⟩
      · have M := Lib.hid (may_f (c := Cmd.mk 7 s q nm n) (by unfold MayP; simp only; omega))
        rw [show inB s 1 1073741824 = true from decide_eq_true h1] at HB
        rw [show inB q 1 1073741824 = true from decide_eq_true h2] at HC
        rw [show inB nm.size 1 64 = false from decide_eq_false h3] at HA
        have HA' := Lib.hid HA
        have HB' := Lib.hid HB
        have HC' := Lib.hid HC
        clear HA HB HC HD h1 h2 h3
        unfold Cmd.val Cmd.cs at HP ⊢
        go_enter Try.func30, Try.ntmps30
        go_wp2_with fail
        refine (HP.out _).mono ?_
        rintro e w1 ⟨rfl, hk1⟩
        have K1 := Lib.hid (((Keep.same Nothing w).alloc (.cells #[.int .i64 7, .int .i64 s, .int .i64 q, .string nm, .int .i64 n] 31)).then hk1)
        have D1 := (Blk.fresh w 31 #[.int .i64 7, .int .i64 s, .int .i64 q, .string nm, .int .i64 n]).keep hk1 (fun h => h)
        have D2 := D1.alloc (.cells #[.int .i64 7, .int .i64 s, .int .i64 q, .int .i64 n] 89)
        have E2 := Blk.fresh w1 89 #[.int .i64 7, .int .i64 s, .int .i64 q, .int .i64 n]
        have K2 := Lib.hid (K1.out.alloc (.cells #[.int .i64 7, .int .i64 s, .int .i64 q, .int .i64 n] 89))
        have c0 := D2.cell 0
        have c1 := D2.cell 1
        have c2 := D2.cell 2
        have c3 := D2.cell 3
        have c4 := D2.cell 4
        have a1 := E2.cell 1
        have a2 := E2.cell 2
        have a3 := E2.cell 3
        clear hk1 D1 D2 E2
        go_wp2_with fail
        refine (HA'.out _).mono ?_
        rintro e w' ⟨rfl, rfl⟩
        go_wp2_with fail
        refine (HB'.out _).mono ?_
        rintro e w' ⟨rfl, rfl⟩
        go_wp2_with fail
        refine (HC'.out _).mono ?_
        rintro e w' ⟨rfl, rfl⟩
        go_wp2_with fail
        go_ret
        exact ⟨by rw [M.out]; rfl, K2.out⟩
    · have M := Lib.hid (may_f (c := Cmd.mk 7 s q nm n) (by unfold MayP; simp only; omega))
      generalize inB nm.size 1 64 = b3 at HA
      rw [show inB s 1 1073741824 = true from decide_eq_true h1] at HB
      rw [show inB q 1 1073741824 = false from decide_eq_false h2] at HC
      have HA' := Lib.hid HA
      have HB' := Lib.hid HB
      have HC' := Lib.hid HC
      clear HA HB HC HD h1 h2
      unfold Cmd.val Cmd.cs at HP ⊢
      go_enter Try.func30, Try.ntmps30
      go_wp2_with fail
      refine (HP.out _).mono ?_
      rintro e w1 ⟨rfl, hk1⟩
      have K1 := Lib.hid (((Keep.same Nothing w).alloc (.cells #[.int .i64 7, .int .i64 s, .int .i64 q, .string nm, .int .i64 n] 31)).then hk1)
      have D1 := (Blk.fresh w 31 #[.int .i64 7, .int .i64 s, .int .i64 q, .string nm, .int .i64 n]).keep hk1 (fun h => h)
      have D2 := D1.alloc (.cells #[.int .i64 7, .int .i64 s, .int .i64 q, .int .i64 n] 89)
      have E2 := Blk.fresh w1 89 #[.int .i64 7, .int .i64 s, .int .i64 q, .int .i64 n]
      have K2 := Lib.hid (K1.out.alloc (.cells #[.int .i64 7, .int .i64 s, .int .i64 q, .int .i64 n] 89))
      have c0 := D2.cell 0
      have c1 := D2.cell 1
      have c2 := D2.cell 2
      have c3 := D2.cell 3
      have c4 := D2.cell 4
      have a1 := E2.cell 1
      have a2 := E2.cell 2
      have a3 := E2.cell 3
      clear hk1 D1 D2 E2
      go_wp2_with fail
      refine (HA'.out _).mono ?_
      rintro e w' ⟨rfl, rfl⟩
      go_wp2_with fail
      refine (HB'.out _).mono ?_
      rintro e w' ⟨rfl, rfl⟩
      go_wp2_with fail
      refine (HC'.out _).mono ?_
      rintro e w' ⟨rfl, rfl⟩
      go_wp2_with fail
      go_ret
      exact ⟨by rw [M.out]; rfl, K2.out⟩
  · have M := Lib.hid (may_f (c := Cmd.mk 7 s q nm n) (by unfold MayP; simp only; omega))
    generalize inB nm.size 1 64 = b3 at HA
    rw [show inB s 1 1073741824 = false from decide_eq_false h1] at HB
    have HA' := Lib.hid HA
    have HB' := Lib.hid HB
    clear HA HB HC HD h1
    unfold Cmd.val Cmd.cs at HP ⊢
    go_enter Try.func30, Try.ntmps30
    go_wp2_with fail
    refine (HP.out _).mono ?_
    rintro e w1 ⟨rfl, hk1⟩
    have K1 := Lib.hid (((Keep.same Nothing w).alloc (.cells #[.int .i64 7, .int .i64 s, .int .i64 q, .string nm, .int .i64 n] 31)).then hk1)
    have D1 := (Blk.fresh w 31 #[.int .i64 7, .int .i64 s, .int .i64 q, .string nm, .int .i64 n]).keep hk1 (fun h => h)
    have D2 := D1.alloc (.cells #[.int .i64 7, .int .i64 s, .int .i64 q, .int .i64 n] 89)
    have E2 := Blk.fresh w1 89 #[.int .i64 7, .int .i64 s, .int .i64 q, .int .i64 n]
    have K2 := Lib.hid (K1.out.alloc (.cells #[.int .i64 7, .int .i64 s, .int .i64 q, .int .i64 n] 89))
    have c0 := D2.cell 0
    have c1 := D2.cell 1
    have c2 := D2.cell 2
    have c3 := D2.cell 3
    have c4 := D2.cell 4
    have a1 := E2.cell 1
    have a2 := E2.cell 2
    have a3 := E2.cell 3
    clear hk1 D1 D2 E2
    go_wp2_with fail
    refine (HA'.out _).mono ?_
    rintro e w' ⟨rfl, rfl⟩
    go_wp2_with fail
    refine (HB'.out _).mono ?_
    rintro e w' ⟨rfl, rfl⟩
    go_wp2_with fail
    go_ret
    exact ⟨by rw [M.out]; rfl, K2.out⟩
end Go.Proofs.Ythlfcinjmljbjaa.A
