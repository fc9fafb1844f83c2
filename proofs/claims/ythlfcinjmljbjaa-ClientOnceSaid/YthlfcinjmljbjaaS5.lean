/-
  Which commands may be: none of these, and all.
-/
import Derived.Test.YthlfcinjmljbjaaS1
namespace Go.Proofs.Ythlfcinjmljbjaa.A
open Go.RowKit Go.Proofs.Ythlfcinjmljbjaa.U
set_option linter.unusedVariables false
set_option linter.unusedSimpArgs false
set_option maxRecDepth 100000

set_option maxHeartbeats 8000000 in
theorem may_other (w : World) (k s q n : Int) (nm : ByteArray) (h : k < 0 ∨ 12 < k) : Calls Try.prog 30 #[(Cmd.mk k s q nm n).val] w (maySpec (Cmd.mk k s q nm n) w) := by
  have hu := Try.underlying31
  have hu2 := Try.underlying89
  have HP := Lib.hid (fun w => pack_calls w (Cmd.mk k s q nm n))
  have M := Lib.hid (may_f (c := Cmd.mk k s q nm n) (by unfold MayP; simp only; omega))
  have k0 : (k == 0) = false := by rw [beq_eq_false_iff_ne]; omega
  have k1 : (k == 1) = false := by rw [beq_eq_false_iff_ne]; omega
  have k2 : (k == 2) = false := by rw [beq_eq_false_iff_ne]; omega
  have k3 : (k == 3) = false := by rw [beq_eq_false_iff_ne]; omega
  have k4 : (k == 4) = false := by rw [beq_eq_false_iff_ne]; omega
  have k5 : (k == 5) = false := by rw [beq_eq_false_iff_ne]; omega
  have k6 : (k == 6) = false := by rw [beq_eq_false_iff_ne]; omega
  have k7 : (k == 7) = false := by rw [beq_eq_false_iff_ne]; omega
  have k8 : (k == 8) = false := by rw [beq_eq_false_iff_ne]; omega
  have k9 : (k == 9) = false := by rw [beq_eq_false_iff_ne]; omega
  have k10 : (k == 10) = false := by rw [beq_eq_false_iff_ne]; omega
  have k11 : (k == 11) = false := by rw [beq_eq_false_iff_ne]; omega
  have k12 : (k == 12) = false := by rw [beq_eq_false_iff_ne]; omega
  clear h
  unfold Cmd.val Cmd.cs at HP ⊢
  go_enter Try.func30, Try.ntmps30
  go_wp2_with fail
  refine (HP.out _).mono ?_
  rintro e w1 ⟨rfl, hk1⟩
  have K1 := Lib.hid (((Keep.same Nothing w).alloc (.cells #[.int .i64 k, .int .i64 s, .int .i64 q, .string nm, .int .i64 n] 31)).then hk1)
  have D1 := (Blk.fresh w 31 #[.int .i64 k, .int .i64 s, .int .i64 q, .string nm, .int .i64 n]).keep hk1 (fun h => h)
  have D2 := D1.alloc (.cells #[.int .i64 k, .int .i64 s, .int .i64 q, .int .i64 n] 89)
  have K2 := Lib.hid (K1.out.alloc (.cells #[.int .i64 k, .int .i64 s, .int .i64 q, .int .i64 n] 89))
  have c0 := D2.cell 0
  clear hk1 D1 D2
  go_wp2_with fail
  go_ret
  exact ⟨by rw [M.out]; rfl, K2.out⟩
set_option maxHeartbeats 8000000 in
theorem may_0 (w : World) (s q n : Int) (nm : ByteArray) : Calls Try.prog 30 #[(Cmd.mk 0 s q nm n).val] w (maySpec (Cmd.mk 0 s q nm n) w) := by
  have hu := Try.underlying31
  have hu2 := Try.underlying89
  by_cases hs : s = 0
  · subst hs
    by_cases hq : q = 0
    · subst hq
      by_cases hz : nm.size = 0
      · have he := size0 hz
        subst he
        by_cases hn : n = 0
        · subst hn
          have M := Lib.hid (may_t (c := Cmd.mk 0 0 0 ByteArray.empty 0) (by decide))
          clear hz
          have HP := Lib.hid (fun w => pack_calls w (Cmd.mk 0 0 0 ByteArray.empty 0))
          unfold Cmd.val Cmd.cs at HP ⊢
          go_enter Try.func30, Try.ntmps30
          go_wp2_with fail
          refine (HP.out _).mono ?_
          rintro e w1 ⟨rfl, hk1⟩
          have K1 := Lib.hid (((Keep.same Nothing w).alloc (.cells #[.int .i64 0, .int .i64 0, .int .i64 0, .string ByteArray.empty, .int .i64 0] 31)).then hk1)
          have D1 := (Blk.fresh w 31 #[.int .i64 0, .int .i64 0, .int .i64 0, .string ByteArray.empty, .int .i64 0]).keep hk1 (fun h => h)
          have D2 := D1.alloc (.cells #[.int .i64 0, .int .i64 0, .int .i64 0, .int .i64 0] 89)
          have K2 := Lib.hid (K1.out.alloc (.cells #[.int .i64 0, .int .i64 0, .int .i64 0, .int .i64 0] 89))
          have c0 := D2.cell 0
          have c1 := D2.cell 1
          have c2 := D2.cell 2
          have c3 := D2.cell 3
          have c4 := D2.cell 4
          clear hk1 D1 D2
          go_wp2_with fail
          all_goals go_ret
          all_goals exact ⟨by rw [M.out]; rfl, K2.out⟩
        · have M := Lib.hid (may_f (c := Cmd.mk 0 0 0 ByteArray.empty n) (by unfold MayP; simp only; omega))
          have gn : (n == 0) = false := by rw [beq_eq_false_iff_ne]; exact hn
          clear hz
          have HP := Lib.hid (fun w => pack_calls w (Cmd.mk 0 0 0 ByteArray.empty n))
          unfold Cmd.val Cmd.cs at HP ⊢
          go_enter Try.func30, Try.ntmps30
          go_wp2_with fail
          refine (HP.out _).mono ?_
          rintro e w1 ⟨rfl, hk1⟩
          have K1 := Lib.hid (((Keep.same Nothing w).alloc (.cells #[.int .i64 0, .int .i64 0, .int .i64 0, .string ByteArray.empty, .int .i64 n] 31)).then hk1)
          have D1 := (Blk.fresh w 31 #[.int .i64 0, .int .i64 0, .int .i64 0, .string ByteArray.empty, .int .i64 n]).keep hk1 (fun h => h)
          have D2 := D1.alloc (.cells #[.int .i64 0, .int .i64 0, .int .i64 0, .int .i64 n] 89)
          have K2 := Lib.hid (K1.out.alloc (.cells #[.int .i64 0, .int .i64 0, .int .i64 0, .int .i64 n] 89))
          have c0 := D2.cell 0
          have c1 := D2.cell 1
          have c2 := D2.cell 2
          have c3 := D2.cell 3
          have c4 := D2.cell 4
          clear hk1 D1 D2
          go_wp2_with fail
          all_goals go_ret
          all_goals exact ⟨by rw [M.out]; rfl, K2.out⟩
      · have M := Lib.hid (may_f (c := Cmd.mk 0 0 0 nm n) (by unfold MayP; simp only; omega))
        have he := list_ne hz
        have HP := Lib.hid (fun w => pack_calls w (Cmd.mk 0 0 0 nm n))
        unfold Cmd.val Cmd.cs at HP ⊢
        go_enter Try.func30, Try.ntmps30
        go_wp2_with fail
        refine (HP.out _).mono ?_
        rintro e w1 ⟨rfl, hk1⟩
        have K1 := Lib.hid (((Keep.same Nothing w).alloc (.cells #[.int .i64 0, .int .i64 0, .int .i64 0, .string nm, .int .i64 n] 31)).then hk1)
        have D1 := (Blk.fresh w 31 #[.int .i64 0, .int .i64 0, .int .i64 0, .string nm, .int .i64 n]).keep hk1 (fun h => h)
        have D2 := D1.alloc (.cells #[.int .i64 0, .int .i64 0, .int .i64 0, .int .i64 n] 89)
        have K2 := Lib.hid (K1.out.alloc (.cells #[.int .i64 0, .int .i64 0, .int .i64 0, .int .i64 n] 89))
        have c0 := D2.cell 0
        have c1 := D2.cell 1
        have c2 := D2.cell 2
        have c3 := D2.cell 3
        have c4 := D2.cell 4
        clear hk1 D1 D2
        go_wp2_with fail
        all_goals go_ret
        all_goals exact ⟨by rw [M.out]; rfl, K2.out⟩
    · have M := Lib.hid (may_f (c := Cmd.mk 0 0 q nm n) (by unfold MayP; simp only; omega))
      have gq : (q == 0) = false := by rw [beq_eq_false_iff_ne]; exact hq
      have HP := Lib.hid (fun w => pack_calls w (Cmd.mk 0 0 q nm n))
      unfold Cmd.val Cmd.cs at HP ⊢
      go_enter Try.func30, Try.ntmps30
      go_wp2_with fail
      refine (HP.out _).mono ?_
      rintro e w1 ⟨rfl, hk1⟩
      have K1 := Lib.hid (((Keep.same Nothing w).alloc (.cells #[.int .i64 0, .int .i64 0, .int .i64 q, .string nm, .int .i64 n] 31)).then hk1)
      have D1 := (Blk.fresh w 31 #[.int .i64 0, .int .i64 0, .int .i64 q, .string nm, .int .i64 n]).keep hk1 (fun h => h)
      have D2 := D1.alloc (.cells #[.int .i64 0, .int .i64 0, .int .i64 q, .int .i64 n] 89)
      have K2 := Lib.hid (K1.out.alloc (.cells #[.int .i64 0, .int .i64 0, .int .i64 q, .int .i64 n] 89))
      have c0 := D2.cell 0
      have c1 := D2.cell 1
      have c2 := D2.cell 2
      have c3 := D2.cell 3
      have c4 := D2.cell 4
      clear hk1 D1 D2
      go_wp2_with fail
      all_goals go_ret
      all_goals exact ⟨by rw [M.out]; rfl, K2.out⟩
  · have M := Lib.hid (may_f (c := Cmd.mk 0 s q nm n) (by unfold MayP; simp only; omega))
    have gs : (s == 0) = false := by rw [beq_eq_false_iff_ne]; exact hs
    have HP := Lib.hid (fun w => pack_calls w (Cmd.mk 0 s q nm n))
    unfold Cmd.val Cmd.cs at HP ⊢
    go_enter Try.func30, Try.ntmps30
    go_wp2_with fail
    refine (HP.out _).mono ?_
    rintro e w1 ⟨rfl, hk1⟩
    have K1 := Lib.hid (((Keep.same Nothing w).alloc (.cells #[.int .i64 0, .int .i64 s, .int .i64 q, .string nm, .int .i64 n] 31)).then hk1)
    have D1 := (Blk.fresh w 31 #[.int .i64 0, .int .i64 s, .int .i64 q, .string nm, .int .i64 n]).keep hk1 (fun h => h)
    have D2 := D1.alloc (.cells #[.int .i64 0, .int .i64 s, .int .i64 q, .int .i64 n] 89)
    have K2 := Lib.hid (K1.out.alloc (.cells #[.int .i64 0, .int .i64 s, .int .i64 q, .int .i64 n] 89))
    have c0 := D2.cell 0
    have c1 := D2.cell 1
    have c2 := D2.cell 2
    have c3 := D2.cell 3
    have c4 := D2.cell 4
    clear hk1 D1 D2
    go_wp2_with fail
    all_goals go_ret
    all_goals exact ⟨by rw [M.out]; rfl, K2.out⟩
end Go.Proofs.Ythlfcinjmljbjaa.A
