/-
  A command's bytes, the reference's.
-/
import Derived.Test.YtjojibgihoebaaaT2
import Derived.Deep.RegionHeld3
namespace Go.Proofs.Ytjojibgihoebaaa.A
open Go.RowKit Go.Proofs.Ytjojibgihoebaaa.U
set_option linter.unusedVariables false
set_option linter.unusedSimpArgs false
set_option maxRecDepth 100000

theorem encS_sum (c : Cmd) : ofL (encL c) = intS c.k ++ intS c.s ++ intS c.q ++ textS c.nm ++ intS c.n := by
  unfold encL intS textS u64S
  rw [List.nil_append, ofL_app, ofL_app, ofL_app, ofL_app, ofL_app, ofL_list]
  apply ByteArray.ext
  simp [ByteArray.data_append]
set_option maxHeartbeats 6400000 in
theorem renc_calls (w : World) (c : Cmd) (hc : In64 c) : Calls Try.prog 34 #[c.val] w (fun e w' => e = .returned (.tuple #[.string (encS c), .int .i64 (okE (mayB c))]) ∧ Keep Nothing w w') := by
  have hu := Try.underlying52
  have hb : ∀ w', Below w.heap.size w w' → Keep Nothing w w' := fun w' h => Keep.of_below h _
  have HM := Lib.hid (fun w => rmay_calls w c)
  unfold maySpec at HM
  cases hm : mayB c with
  | false =>
    rw [hm] at HM
    have E := Lib.hid (show encS c = ByteArray.empty by unfold encS; rw [hm]; rfl)
    clear hm
    unfold Cmd.val Cmd.cs at HM ⊢
    go_enter Try.func34, Try.ntmps34
    go_wp2_with fail
    refine (HM.out _).mono ?_
    rintro e w' ⟨rfl, hk⟩
    have K := Lib.hid hk
    clear hk
    go_wp2_with fail
    go_ret2
    exact ⟨by rw [E.out]; rfl, Keep.then (by repeat (first | exact Keep.same _ _ | apply Keep.alloc)) K.out⟩
  | true =>
    rw [hm] at HM
    have E := Lib.hid (show encS c = intS c.k ++ intS c.s ++ intS c.q ++ textS c.nm ++ intS c.n by unfold encS; rw [hm, if_pos rfl, encS_sum])
    have hnm := may_name hm
    have SB := Lib.hid ((blkP_stable w.heap.size 52 #[.int .i64 c.k, .int .i64 c.s, .int .i64 c.q, .string c.nm, .int .i64 c.n]).star none_stable)
    have z1 : (intS c.k).size ≤ 10 := u64L_len10 _ (zig_lt hc.k.1 hc.k.2)
    have z2 : (intS c.s).size ≤ 10 := u64L_len10 _ (zig_lt hc.s.1 hc.s.2)
    have z3 : (intS c.q).size ≤ 10 := u64L_len10 _ (zig_lt hc.q.1 hc.q.2)
    have z4 : (textS c.nm).size ≤ 80 := by unfold textS; rw [ByteArray.size_append]; have := u64S_size c.nm.size (by omega); omega
    have z5 : (intS c.n).size ≤ 10 := u64L_len10 _ (zig_lt hc.n.1 hc.n.2)
    have p1 := fun w => cat w (intS c.k) (intS c.s) (by omega)
    have p2 := fun w => cat w (intS c.k ++ intS c.s) (intS c.q) (by rw [ByteArray.size_append]; omega)
    have p3 := fun w => cat w (intS c.k ++ intS c.s ++ intS c.q) (textS c.nm) (by rw [ByteArray.size_append, ByteArray.size_append]; omega)
    have p4 := fun w => cat w (intS c.k ++ intS c.s ++ intS c.q ++ textS c.nm) (intS c.n) (by rw [ByteArray.size_append, ByteArray.size_append, ByteArray.size_append]; omega)
    have r4 := Lib.hid (fun w => rtext_calls w c.nm (by omega))
    have HC := Lib.hid hc
    have H0 := Lib.hid ((Holds.start w).newBlk none_stable 52 c.cs)
    clear hm hc z1 z2 z3 z4 z5
    unfold Cmd.val Cmd.cs at HM ⊢
    unfold Cmd.cs at H0
    go_enter Try.func34, Try.ntmps34
    go_wp2_with fail
    refine (HM.out _).mono ?_
    rintro e w1 ⟨rfl, hk1⟩
    have H1 := Lib.hid (H0.out.kept SB.out hk1)
    clear hk1
    generalize hg0 : w.heap.size = b0 at *
    clear hg0 H0
    have CC := Lib.hid (show ∀ w', Holds b0 w w' (star (blkP b0 52 #[.int .i64 c.k, .int .i64 c.s, .int .i64 c.q, .string c.nm, .int .i64 c.n]) none_) → w'.cell? ⟨b0, 0, none⟩ = some (.int .i64 c.k) ∧ w'.cell? ⟨b0, 1, none⟩ = some (.int .i64 c.s) ∧ w'.cell? ⟨b0, 2, none⟩ = some (.int .i64 c.q) ∧ w'.cell? ⟨b0, 3, none⟩ = some (.string c.nm) ∧ w'.cell? ⟨b0, 4, none⟩ = some (.int .i64 c.n) from
      fun w' h => ⟨(blk_at h).cell 0, (blk_at h).cell 1, (blk_at h).cell 2, (blk_at h).cell 3, (blk_at h).cell 4⟩)
    have T := H1.out
    have cc := CC.out _ T
    go_wp2_with fail
    go_region_held3 (fun w' => w'.cell? ⟨b0, 0, none⟩ = some (.int .i64 c.k) ∧ w'.cell? ⟨b0, 1, none⟩ = some (.int .i64 c.s) ∧ w'.cell? ⟨b0, 2, none⟩ = some (.int .i64 c.q) ∧ w'.cell? ⟨b0, 3, none⟩ = some (.string c.nm) ∧ w'.cell? ⟨b0, 4, none⟩ = some (.int .i64 c.n)) (first | exact cc | go_keep) ((first | (go_at_call 51; refine (rint_calls _ _ (by first | exact HC.out.k | exact HC.out.s | exact HC.out.q | exact HC.out.n)).mono ?_; rintro e w5 ⟨rfl, hk5⟩; replace T := (by first | exact (T.drewN SB.out _).kept SB.out hk5 | exact T.kept SB.out hk5 : Holds b0 w w5 (star (blkP b0 52 #[.int .i64 c.k, .int .i64 c.s, .int .i64 c.q, .string c.nm, .int .i64 c.n]) none_)); replace cc := CC.out _ T; clear hk5) | (go_at_call 53; refine (r4.out _).mono ?_; rintro e w8 ⟨rfl, hk8⟩; replace T := T.kept SB.out hk8; replace cc := CC.out _ T; clear hk8)))
    go_wp2_with fail
    go_ret2
    exact ⟨by rw [E.out]; rfl, hb _ T.below⟩
end Go.Proofs.Ytjojibgihoebaaa.A
