/-
  The reference's Decode.
-/
import Derived.Test.YtjojibgihoebaaaN11
namespace Go.Proofs.Ytjojibgihoebaaa.A
open Go.RowKit Go.Proofs.Ytjojibgihoebaaa.U
set_option linter.unusedVariables false
set_option linter.unusedSimpArgs false
set_option maxRecDepth 100000

theorem tV_le (x : Rd) : (tV x).size ≤ 524288 := by
  unfold tV
  split
  · show 0 ≤ 524288; omega
  · split
    · show 0 ≤ 524288; omega
    · rename_i h
      unfold tooBig at h
      simp only [ByteArray.size_extract]
      omega
theorem mayM_dec {s : ByteArray} (h : esOk (mx s 9) (mn s).toNat = true) (hd : decOk (tV (my0 s)) = true) : mayM (mDec s) = ((spansL (mDec s)).all Sp.ok && (repliesL (mP s)).all Sp.ok) := by
  have h1 : decide ((mDec s).x.size ≤ 524288) = true := decide_eq_true (tV_le _)
  have h2 : (mDec s).es.all entB = true := by
    rw [List.all_eq_true]
    intro y hy
    obtain ⟨i, hi, rfl⟩ := List.mem_map.1 (show y ∈ (List.range (mn s).toNat).map (fun i => eR (tV (ex (mx s 9) i))) from hy)
    have h3 := List.all_eq_true.1 h i hi
    have h4 : eR (tV (ex (mx s 9) i)) = decE (tV (ex (mx s 9) i)) := by unfold eR; rw [if_pos h3]
    rw [h4]
    unfold eOk at h3
    simp only [Bool.and_eq_true] at h3
    exact h3.2
  have h3 : mayB (mDec s).c = true := by
    show mayB (decR (tV (my0 s))) = true
    rw [decR_ok hd]
    unfold decOk at hd
    simp only [Bool.and_eq_true] at hd
    exact hd.2
  unfold mayM
  rw [h1, h2, h3]
  show ((spansL (mDec s)).all Sp.ok && ((repliesL (mP s)).all Sp.ok && (true && (true && true)))) = _
  simp
set_option maxHeartbeats 25600000 in
theorem mrdec_calls (w : World) (s : ByteArray) (hs : s.size ≤ 9223372036854775807) : Calls Try.prog 48 #[.string s] w (DecPost s w) := by
  have hu := Try.underlying79
  have hu77 := Try.underlying77
  have hu52 := Try.underlying52
  have hu54 := Try.underlying54
  have hu44 := Try.underlying44
  have hi79 : (Try.prog.info? 79).map (·.size) = some 20 := by kernel_rfl
  have hb : ∀ w', Below w.heap.size w w' → Keep Nothing w w' := fun w' h => Keep.of_below h _
  have h0 := Holds.newBlk (Holds.newBlk (Holds.newBlk (Holds.start w) none_stable 79 zm) (by repeat (first | exact none_stable | exact wrP_stable _ _ | exact blkP_stable _ _ _ | exact rowP_stable _ _ _ _ _ | apply Stable.star)) 44 #[.string s, .bool false]) (by repeat (first | exact none_stable | exact wrP_stable _ _ | exact blkP_stable _ _ _ | exact rowP_stable _ _ _ _ _ | apply Stable.star)) 79 zm
  rw [show ((w.alloc (.cells zm 79)).alloc (.cells #[.string s, .bool false] 44)).heap.size = w.heap.size + 1 + 1 by simp, show (w.alloc (.cells zm 79)).heap.size = w.heap.size + 1 by simp] at h0
  have HWI := Lib.hid rwithin_calls
  go_enter Try.func48, Try.ntmps48
  go_wp2_with fail
  obtain ⟨g, hg⟩ : ∃ g, w.heap.size + 1 + 1 = g := ⟨_, rfl⟩
  try rw [show w.heap.size + 2 = w.heap.size + 1 + 1 from rfl]
  rw [hg] at h0
  rw [hg]
  clear hg
  have Y0 := Lib.hid (show Holds w.heap.size w _ (star (blkP (w.heap.size + 1) 44 (mx s 0).cs) (star (blkP g 79 #[.int .i64 (0), .int .i64 (0), .int .i64 (0), .int .i64 (0), .int .i64 (0), .int .i64 (0), .int .i64 (0), .int .i64 (0), .slice none 0 0, .int .i64 (0), .int .i64 (0), .int .i64 (0), .string (⟨#[]⟩), .int .i64 (0), .int .i64 (0), .int .i64 (0), .int .i64 (0), .int .u64 (0), .int .i64 (0), .string (⟨#[]⟩)]) (star (blkP w.heap.size 79 zm) none_))) from Holds.second h0)
  have R0 := Lib.hid (x_rrdi Y0.out (by repeat (first | exact none_stable | exact wrP_stable _ _ | exact blkP_stable _ _ _ | exact rowP_stable _ _ _ _ _ | apply Stable.star)))
  clear h0
  go_wp2_with fail
  refine R0.out.mono ?_
  rintro e v0 ⟨rfl, h5⟩
  have K0 := Lib.hid (show Holds w.heap.size w v0 (star (blkP g 79 #[.int .i64 (0), .int .i64 (0), .int .i64 (0), .int .i64 (0), .int .i64 (0), .int .i64 (0), .int .i64 (0), .int .i64 (0), .slice none 0 0, .int .i64 (0), .int .i64 (0), .int .i64 (0), .string (⟨#[]⟩), .int .i64 (0), .int .i64 (0), .int .i64 (0), .int .i64 (0), .int .u64 (0), .int .i64 (0), .string (⟨#[]⟩)]) (star (blkP (w.heap.size + 1) 44 (mx s 1).cs) (star (blkP w.heap.size 79 zm) none_))) from h5.perm (by show star (blkP (w.heap.size + 1) 44 (mx s 1).cs) _ = _; ac_rfl))
  have BB := blk_atM K0.out
  have k0 := BB.cell 0
  have f0 := BB.free 0
  have Y1 := Lib.hid (show Holds w.heap.size w _ (star (blkP (w.heap.size + 1) 44 (mx s 1).cs) (star (blkP g 79 #[.int .i64 (iV (mx s 0)), .int .i64 (0), .int .i64 (0), .int .i64 (0), .int .i64 (0), .int .i64 (0), .int .i64 (0), .int .i64 (0), .slice none 0 0, .int .i64 (0), .int .i64 (0), .int .i64 (0), .string (⟨#[]⟩), .int .i64 (0), .int .i64 (0), .int .i64 (0), .int .i64 (0), .int .u64 (0), .int .i64 (0), .string (⟨#[]⟩)]) (star (blkP w.heap.size 79 zm) none_))) from (Holds.second (K0.out.setBlk (by repeat (first | exact none_stable | exact wrP_stable _ _ | exact blkP_stable _ _ _ | exact rowP_stable _ _ _ _ _ | apply Stable.star)) 0 (.int .i64 (iV (mx s 0))))))
  have R1 := Lib.hid (x_rrdi Y1.out (by repeat (first | exact none_stable | exact wrP_stable _ _ | exact blkP_stable _ _ _ | exact rowP_stable _ _ _ _ _ | apply Stable.star)))
  clear h5 BB
  go_wp2_with fail
  refine R1.out.mono ?_
  rintro e v1 ⟨rfl, h5⟩
  have K1 := Lib.hid (show Holds w.heap.size w v1 (star (blkP g 79 #[.int .i64 (iV (mx s 0)), .int .i64 (0), .int .i64 (0), .int .i64 (0), .int .i64 (0), .int .i64 (0), .int .i64 (0), .int .i64 (0), .slice none 0 0, .int .i64 (0), .int .i64 (0), .int .i64 (0), .string (⟨#[]⟩), .int .i64 (0), .int .i64 (0), .int .i64 (0), .int .i64 (0), .int .u64 (0), .int .i64 (0), .string (⟨#[]⟩)]) (star (blkP (w.heap.size + 1) 44 (mx s 2).cs) (star (blkP w.heap.size 79 zm) none_))) from h5.perm (by show star (blkP (w.heap.size + 1) 44 (mx s 2).cs) _ = _; ac_rfl))
  have BB := blk_atM K1.out
  have k1 := BB.cell 1
  have f1 := BB.free 1
  have Y2 := Lib.hid (show Holds w.heap.size w _ (star (blkP (w.heap.size + 1) 44 (mx s 2).cs) (star (blkP g 79 #[.int .i64 (iV (mx s 0)), .int .i64 (iV (mx s 1)), .int .i64 (0), .int .i64 (0), .int .i64 (0), .int .i64 (0), .int .i64 (0), .int .i64 (0), .slice none 0 0, .int .i64 (0), .int .i64 (0), .int .i64 (0), .string (⟨#[]⟩), .int .i64 (0), .int .i64 (0), .int .i64 (0), .int .i64 (0), .int .u64 (0), .int .i64 (0), .string (⟨#[]⟩)]) (star (blkP w.heap.size 79 zm) none_))) from (Holds.second (K1.out.setBlk (by repeat (first | exact none_stable | exact wrP_stable _ _ | exact blkP_stable _ _ _ | exact rowP_stable _ _ _ _ _ | apply Stable.star)) 1 (.int .i64 (iV (mx s 1))))))
  have R2 := Lib.hid (x_rrdi Y2.out (by repeat (first | exact none_stable | exact wrP_stable _ _ | exact blkP_stable _ _ _ | exact rowP_stable _ _ _ _ _ | apply Stable.star)))
  clear h5 BB k0 f0
  go_wp2_with fail
  refine R2.out.mono ?_
  rintro e v2 ⟨rfl, h5⟩
  have K2 := Lib.hid (show Holds w.heap.size w v2 (star (blkP g 79 #[.int .i64 (iV (mx s 0)), .int .i64 (iV (mx s 1)), .int .i64 (0), .int .i64 (0), .int .i64 (0), .int .i64 (0), .int .i64 (0), .int .i64 (0), .slice none 0 0, .int .i64 (0), .int .i64 (0), .int .i64 (0), .string (⟨#[]⟩), .int .i64 (0), .int .i64 (0), .int .i64 (0), .int .i64 (0), .int .u64 (0), .int .i64 (0), .string (⟨#[]⟩)]) (star (blkP (w.heap.size + 1) 44 (mx s 3).cs) (star (blkP w.heap.size 79 zm) none_))) from h5.perm (by show star (blkP (w.heap.size + 1) 44 (mx s 3).cs) _ = _; ac_rfl))
  have BB := blk_atM K2.out
  have k2 := BB.cell 2
  have f2 := BB.free 2
  have Y3 := Lib.hid (show Holds w.heap.size w _ (star (blkP (w.heap.size + 1) 44 (mx s 3).cs) (star (blkP g 79 #[.int .i64 (iV (mx s 0)), .int .i64 (iV (mx s 1)), .int .i64 (iV (mx s 2)), .int .i64 (0), .int .i64 (0), .int .i64 (0), .int .i64 (0), .int .i64 (0), .slice none 0 0, .int .i64 (0), .int .i64 (0), .int .i64 (0), .string (⟨#[]⟩), .int .i64 (0), .int .i64 (0), .int .i64 (0), .int .i64 (0), .int .u64 (0), .int .i64 (0), .string (⟨#[]⟩)]) (star (blkP w.heap.size 79 zm) none_))) from (Holds.second (K2.out.setBlk (by repeat (first | exact none_stable | exact wrP_stable _ _ | exact blkP_stable _ _ _ | exact rowP_stable _ _ _ _ _ | apply Stable.star)) 2 (.int .i64 (iV (mx s 2))))))
  have R3 := Lib.hid (x_rrdi Y3.out (by repeat (first | exact none_stable | exact wrP_stable _ _ | exact blkP_stable _ _ _ | exact rowP_stable _ _ _ _ _ | apply Stable.star)))
  clear h5 BB k1 f1
  go_wp2_with fail
  refine R3.out.mono ?_
  rintro e v3 ⟨rfl, h5⟩
  have K3 := Lib.hid (show Holds w.heap.size w v3 (star (blkP g 79 #[.int .i64 (iV (mx s 0)), .int .i64 (iV (mx s 1)), .int .i64 (iV (mx s 2)), .int .i64 (0), .int .i64 (0), .int .i64 (0), .int .i64 (0), .int .i64 (0), .slice none 0 0, .int .i64 (0), .int .i64 (0), .int .i64 (0), .string (⟨#[]⟩), .int .i64 (0), .int .i64 (0), .int .i64 (0), .int .i64 (0), .int .u64 (0), .int .i64 (0), .string (⟨#[]⟩)]) (star (blkP (w.heap.size + 1) 44 (mx s 4).cs) (star (blkP w.heap.size 79 zm) none_))) from h5.perm (by show star (blkP (w.heap.size + 1) 44 (mx s 4).cs) _ = _; ac_rfl))
  have BB := blk_atM K3.out
  have k3 := BB.cell 3
  have f3 := BB.free 3
  have Y4 := Lib.hid (show Holds w.heap.size w _ (star (blkP (w.heap.size + 1) 44 (mx s 4).cs) (star (blkP g 79 #[.int .i64 (iV (mx s 0)), .int .i64 (iV (mx s 1)), .int .i64 (iV (mx s 2)), .int .i64 (iV (mx s 3)), .int .i64 (0), .int .i64 (0), .int .i64 (0), .int .i64 (0), .slice none 0 0, .int .i64 (0), .int .i64 (0), .int .i64 (0), .string (⟨#[]⟩), .int .i64 (0), .int .i64 (0), .int .i64 (0), .int .i64 (0), .int .u64 (0), .int .i64 (0), .string (⟨#[]⟩)]) (star (blkP w.heap.size 79 zm) none_))) from (Holds.second (K3.out.setBlk (by repeat (first | exact none_stable | exact wrP_stable _ _ | exact blkP_stable _ _ _ | exact rowP_stable _ _ _ _ _ | apply Stable.star)) 3 (.int .i64 (iV (mx s 3))))))
  have R4 := Lib.hid (x_rrdi Y4.out (by repeat (first | exact none_stable | exact wrP_stable _ _ | exact blkP_stable _ _ _ | exact rowP_stable _ _ _ _ _ | apply Stable.star)))
  clear h5 BB k2 f2
  go_wp2_with fail
  refine R4.out.mono ?_
  rintro e v4 ⟨rfl, h5⟩
  have K4 := Lib.hid (show Holds w.heap.size w v4 (star (blkP g 79 #[.int .i64 (iV (mx s 0)), .int .i64 (iV (mx s 1)), .int .i64 (iV (mx s 2)), .int .i64 (iV (mx s 3)), .int .i64 (0), .int .i64 (0), .int .i64 (0), .int .i64 (0), .slice none 0 0, .int .i64 (0), .int .i64 (0), .int .i64 (0), .string (⟨#[]⟩), .int .i64 (0), .int .i64 (0), .int .i64 (0), .int .i64 (0), .int .u64 (0), .int .i64 (0), .string (⟨#[]⟩)]) (star (blkP (w.heap.size + 1) 44 (mx s 5).cs) (star (blkP w.heap.size 79 zm) none_))) from h5.perm (by show star (blkP (w.heap.size + 1) 44 (mx s 5).cs) _ = _; ac_rfl))
  have BB := blk_atM K4.out
  have k4 := BB.cell 4
  have f4 := BB.free 4
  have Y5 := Lib.hid (show Holds w.heap.size w _ (star (blkP (w.heap.size + 1) 44 (mx s 5).cs) (star (blkP g 79 #[.int .i64 (iV (mx s 0)), .int .i64 (iV (mx s 1)), .int .i64 (iV (mx s 2)), .int .i64 (iV (mx s 3)), .int .i64 (iV (mx s 4)), .int .i64 (0), .int .i64 (0), .int .i64 (0), .slice none 0 0, .int .i64 (0), .int .i64 (0), .int .i64 (0), .string (⟨#[]⟩), .int .i64 (0), .int .i64 (0), .int .i64 (0), .int .i64 (0), .int .u64 (0), .int .i64 (0), .string (⟨#[]⟩)]) (star (blkP w.heap.size 79 zm) none_))) from (Holds.second (K4.out.setBlk (by repeat (first | exact none_stable | exact wrP_stable _ _ | exact blkP_stable _ _ _ | exact rowP_stable _ _ _ _ _ | apply Stable.star)) 4 (.int .i64 (iV (mx s 4))))))
  have R5 := Lib.hid (x_rrdi Y5.out (by repeat (first | exact none_stable | exact wrP_stable _ _ | exact blkP_stable _ _ _ | exact rowP_stable _ _ _ _ _ | apply Stable.star)))
  clear h5 BB k3 f3
  go_wp2_with fail
  refine R5.out.mono ?_
  rintro e v5 ⟨rfl, h5⟩
  have K5 := Lib.hid (show Holds w.heap.size w v5 (star (blkP g 79 #[.int .i64 (iV (mx s 0)), .int .i64 (iV (mx s 1)), .int .i64 (iV (mx s 2)), .int .i64 (iV (mx s 3)), .int .i64 (iV (mx s 4)), .int .i64 (0), .int .i64 (0), .int .i64 (0), .slice none 0 0, .int .i64 (0), .int .i64 (0), .int .i64 (0), .string (⟨#[]⟩), .int .i64 (0), .int .i64 (0), .int .i64 (0), .int .i64 (0), .int .u64 (0), .int .i64 (0), .string (⟨#[]⟩)]) (star (blkP (w.heap.size + 1) 44 (mx s 6).cs) (star (blkP w.heap.size 79 zm) none_))) from h5.perm (by show star (blkP (w.heap.size + 1) 44 (mx s 6).cs) _ = _; ac_rfl))
  have BB := blk_atM K5.out
  have k5 := BB.cell 5
  have f5 := BB.free 5
  have Y6 := Lib.hid (show Holds w.heap.size w _ (star (blkP (w.heap.size + 1) 44 (mx s 6).cs) (star (blkP g 79 #[.int .i64 (iV (mx s 0)), .int .i64 (iV (mx s 1)), .int .i64 (iV (mx s 2)), .int .i64 (iV (mx s 3)), .int .i64 (iV (mx s 4)), .int .i64 (iV (mx s 5)), .int .i64 (0), .int .i64 (0), .slice none 0 0, .int .i64 (0), .int .i64 (0), .int .i64 (0), .string (⟨#[]⟩), .int .i64 (0), .int .i64 (0), .int .i64 (0), .int .i64 (0), .int .u64 (0), .int .i64 (0), .string (⟨#[]⟩)]) (star (blkP w.heap.size 79 zm) none_))) from (Holds.second (K5.out.setBlk (by repeat (first | exact none_stable | exact wrP_stable _ _ | exact blkP_stable _ _ _ | exact rowP_stable _ _ _ _ _ | apply Stable.star)) 5 (.int .i64 (iV (mx s 5))))))
  have R6 := Lib.hid (x_rrdi Y6.out (by repeat (first | exact none_stable | exact wrP_stable _ _ | exact blkP_stable _ _ _ | exact rowP_stable _ _ _ _ _ | apply Stable.star)))
  clear h5 BB k4 f4
  go_wp2_with fail
  refine R6.out.mono ?_
  rintro e v6 ⟨rfl, h5⟩
  have K6 := Lib.hid (show Holds w.heap.size w v6 (star (blkP g 79 #[.int .i64 (iV (mx s 0)), .int .i64 (iV (mx s 1)), .int .i64 (iV (mx s 2)), .int .i64 (iV (mx s 3)), .int .i64 (iV (mx s 4)), .int .i64 (iV (mx s 5)), .int .i64 (0), .int .i64 (0), .slice none 0 0, .int .i64 (0), .int .i64 (0), .int .i64 (0), .string (⟨#[]⟩), .int .i64 (0), .int .i64 (0), .int .i64 (0), .int .i64 (0), .int .u64 (0), .int .i64 (0), .string (⟨#[]⟩)]) (star (blkP (w.heap.size + 1) 44 (mx s 7).cs) (star (blkP w.heap.size 79 zm) none_))) from h5.perm (by show star (blkP (w.heap.size + 1) 44 (mx s 7).cs) _ = _; ac_rfl))
  have BB := blk_atM K6.out
  have k6 := BB.cell 6
  have f6 := BB.free 6
  have Y7 := Lib.hid (show Holds w.heap.size w _ (star (blkP (w.heap.size + 1) 44 (mx s 7).cs) (star (blkP g 79 #[.int .i64 (iV (mx s 0)), .int .i64 (iV (mx s 1)), .int .i64 (iV (mx s 2)), .int .i64 (iV (mx s 3)), .int .i64 (iV (mx s 4)), .int .i64 (iV (mx s 5)), .int .i64 (iV (mx s 6)), .int .i64 (0), .slice none 0 0, .int .i64 (0), .int .i64 (0), .int .i64 (0), .string (⟨#[]⟩), .int .i64 (0), .int .i64 (0), .int .i64 (0), .int .i64 (0), .int .u64 (0), .int .i64 (0), .string (⟨#[]⟩)]) (star (blkP w.heap.size 79 zm) none_))) from (Holds.second (K6.out.setBlk (by repeat (first | exact none_stable | exact wrP_stable _ _ | exact blkP_stable _ _ _ | exact rowP_stable _ _ _ _ _ | apply Stable.star)) 6 (.int .i64 (iV (mx s 6))))))
  have R7 := Lib.hid (x_rrdi Y7.out (by repeat (first | exact none_stable | exact wrP_stable _ _ | exact blkP_stable _ _ _ | exact rowP_stable _ _ _ _ _ | apply Stable.star)))
  clear h5 BB k5 f5
  go_wp2_with fail
  refine R7.out.mono ?_
  rintro e v7 ⟨rfl, h5⟩
  have K7 := Lib.hid (show Holds w.heap.size w v7 (star (blkP g 79 #[.int .i64 (iV (mx s 0)), .int .i64 (iV (mx s 1)), .int .i64 (iV (mx s 2)), .int .i64 (iV (mx s 3)), .int .i64 (iV (mx s 4)), .int .i64 (iV (mx s 5)), .int .i64 (iV (mx s 6)), .int .i64 (0), .slice none 0 0, .int .i64 (0), .int .i64 (0), .int .i64 (0), .string (⟨#[]⟩), .int .i64 (0), .int .i64 (0), .int .i64 (0), .int .i64 (0), .int .u64 (0), .int .i64 (0), .string (⟨#[]⟩)]) (star (blkP (w.heap.size + 1) 44 (mx s 8).cs) (star (blkP w.heap.size 79 zm) none_))) from h5.perm (by show star (blkP (w.heap.size + 1) 44 (mx s 8).cs) _ = _; ac_rfl))
  have BB := blk_atM K7.out
  have k7 := BB.cell 7
  have f7 := BB.free 7
  have Y8 := Lib.hid (show Holds w.heap.size w _ (star (blkP (w.heap.size + 1) 44 (mx s 8).cs) (star (blkP g 79 #[.int .i64 (iV (mx s 0)), .int .i64 (iV (mx s 1)), .int .i64 (iV (mx s 2)), .int .i64 (iV (mx s 3)), .int .i64 (iV (mx s 4)), .int .i64 (iV (mx s 5)), .int .i64 (iV (mx s 6)), .int .i64 (iV (mx s 7)), .slice none 0 0, .int .i64 (0), .int .i64 (0), .int .i64 (0), .string (⟨#[]⟩), .int .i64 (0), .int .i64 (0), .int .i64 (0), .int .i64 (0), .int .u64 (0), .int .i64 (0), .string (⟨#[]⟩)]) (star (blkP w.heap.size 79 zm) none_))) from (Holds.second (K7.out.setBlk (by repeat (first | exact none_stable | exact wrP_stable _ _ | exact blkP_stable _ _ _ | exact rowP_stable _ _ _ _ _ | apply Stable.star)) 7 (.int .i64 (iV (mx s 7))))))
  have R8 := Lib.hid (x_rrdi Y8.out (by repeat (first | exact none_stable | exact wrP_stable _ _ | exact blkP_stable _ _ _ | exact rowP_stable _ _ _ _ _ | apply Stable.star)))
  clear h5 BB k6 f6
  go_wp2_with fail
  refine R8.out.mono ?_
  rintro e w8 ⟨rfl, h8⟩
  have H9 := Lib.hid (show Holds w.heap.size w w8 (star (blkP (w.heap.size + 1) 44 (mx s 9).cs) (star (blkP g 79 #[.int .i64 (iV (mx s 0)), .int .i64 (iV (mx s 1)), .int .i64 (iV (mx s 2)), .int .i64 (iV (mx s 3)), .int .i64 (iV (mx s 4)), .int .i64 (iV (mx s 5)), .int .i64 (iV (mx s 6)), .int .i64 (iV (mx s 7)), .slice none 0 0, .int .i64 (0), .int .i64 (0), .int .i64 (0), .string (⟨#[]⟩), .int .i64 (0), .int .i64 (0), .int .i64 (0), .int .i64 (0), .int .u64 (0), .int .i64 (0), .string (⟨#[]⟩)]) (star (blkP w.heap.size 79 zm) none_))) from h8)
  clear h8 k7 f7
  rw [show iV (mx s 8) = mn s from rfl]
  go_wp2_with fail
  refine (HWI.out _ (mn s) 0 4096).mono ?_
  rintro e w9 ⟨rfl, rfl⟩
  by_cases hn : 0 ≤ mn s ∧ mn s ≤ 4096
  · have hin : inB (mn s) 0 4096 = true := by unfold inB; exact decide_eq_true hn
    rw [hin]
    obtain ⟨n, hnn⟩ : ∃ n, (mn s).toNat = n := ⟨_, rfl⟩
    have hni : mn s = (n : Int) := by omega
    have NOK := Lib.hid (show nOk s = true by unfold nOk; rw [decide_eq_true hn.1, decide_eq_true hn.2]; rfl)
    have HNN := Lib.hid hnn
    have hn4 : n ≤ 4096 := by omega
    rw [hni]
    clear hn hni hnn hin
    by_cases hsz : s.size ≤ 524288
    · have hsz2 : decide (524288 < (s.size : Int)) = false := decide_eq_false (by omega)
      go_wp2_with fail
      have L9 := Lib.hid (show Holds w.heap.size w w9 (star (blkP (w.heap.size + 1) 44 (ex (mx s 9) 0).cs) (star (blkP g 79 #[.int .i64 (iV (mx s 0)), .int .i64 (iV (mx s 1)), .int .i64 (iV (mx s 2)), .int .i64 (iV (mx s 3)), .int .i64 (iV (mx s 4)), .int .i64 (iV (mx s 5)), .int .i64 (iV (mx s 6)), .int .i64 (iV (mx s 7)), .slice none 0 0, .int .i64 (0), .int .i64 (0), .int .i64 (0), .string (⟨#[]⟩), .int .i64 (0), .int .i64 (0), .int .i64 (0), .int .i64 (0), .int .u64 (0), .int .i64 (0), .string (⟨#[]⟩)]) (star (rowP 54 7 (.slice none 0 0) 0 (ents (esOf (mx s 9) 0))) (star (blkP w.heap.size 79 zm) none_)))) from
        (Holds.newRow (e := 54) (size := 7) (v := .slice none 0 0) (n := 0) (xs := []) H9.out (by repeat (first | exact none_stable | exact wrP_stable _ _ | exact blkP_stable _ _ _ | exact rowP_stable _ _ _ _ _ | apply Stable.star)) (Row.nil _ 54 7) (Keep.same _ _) (fun k hk => by simp [Value.ownBlock] at hk)).perm (by show star (rowP 54 7 (.slice none 0 0) 0 (ents (esOf (mx s 9) 0))) (star (blkP (w.heap.size + 1) 44 (ex (mx s 9) 0).cs) (star (blkP g 79 #[.int .i64 (iV (mx s 0)), .int .i64 (iV (mx s 1)), .int .i64 (iV (mx s 2)), .int .i64 (iV (mx s 3)), .int .i64 (iV (mx s 4)), .int .i64 (iV (mx s 5)), .int .i64 (iV (mx s 6)), .int .i64 (iV (mx s 7)), .slice none 0 0, .int .i64 (0), .int .i64 (0), .int .i64 (0), .string (⟨#[]⟩), .int .i64 (0), .int .i64 (0), .int .i64 (0), .int .i64 (0), .int .u64 (0), .int .i64 (0), .string (⟨#[]⟩)]) (star (blkP w.heap.size 79 zm) none_))) = _; ac_rfl))
      go_loopw [7] (fun v wr => ∃ (k : Nat) (A : Option Addr) (c : Nat), k ≤ n ∧ v = .int .i64 k ∧ Hid (esOk (mx s 9) k = true) ∧ Holds w.heap.size w wr (star (blkP (w.heap.size + 1) 44 (ex (mx s 9) k).cs) (star (blkP g 79 #[.int .i64 (iV (mx s 0)), .int .i64 (iV (mx s 1)), .int .i64 (iV (mx s 2)), .int .i64 (iV (mx s 3)), .int .i64 (iV (mx s 4)), .int .i64 (iV (mx s 5)), .int .i64 (iV (mx s 6)), .int .i64 (iV (mx s 7)), .slice A k c, .int .i64 (0), .int .i64 (0), .int .i64 (0), .string (⟨#[]⟩), .int .i64 (0), .int .i64 (0), .int .i64 (0), .int .i64 (0), .int .u64 (0), .int .i64 (0), .string (⟨#[]⟩)]) (star (rowP 54 7 (.slice A k c) k (ents (esOf (mx s 9) k))) (star (blkP w.heap.size 79 zm) none_))))) (fun v _ => n - (intOf v).toNat)
      case atStart => exact ⟨0, none, 0, by omega, by simp, Lib.hid rfl, L9.out⟩
      case round =>
        obtain ⟨k, A, c, hk, rfl, hok, hh⟩ := hrel
        have H := Lib.hid hh
        clear hh
        by_cases hlt : k < n
        · have HR := Lib.hid (x_rrdt H.out (by repeat (first | exact none_stable | exact wrP_stable _ _ | exact blkP_stable _ _ _ | exact rowP_stable _ _ _ _ _ | apply Stable.star)) (Nat.le_trans (Nat.le_trans (ex_size _ k) (mx_size s 9)) hs))
          have HE := Lib.hid (show ∀ w, Calls Try.prog 43 #[.string (tV (ex (mx s 9) k))] w (fun e w' => e = .returned (.tuple #[.agg (ecs (eR (tV (ex (mx s 9) k)))), .int .i64 (okF (eOk (tV (ex (mx s 9) k))))]) ∧ Keep Nothing w w') from fun w => redec_calls w _ (tV_size _))
          have hlt2 : decide ((k : Int) < (n : Int)) = true := decide_eq_true (by omega)
          go_wp2_with fail
          refine HR.out.mono ?_
          rintro e w5 ⟨rfl, h5⟩
          have H5 := Lib.hid (show Holds w.heap.size w w5 (star (blkP (w.heap.size + 1) 44 (ex (mx s 9) (k + 1)).cs) (star (blkP g 79 #[.int .i64 (iV (mx s 0)), .int .i64 (iV (mx s 1)), .int .i64 (iV (mx s 2)), .int .i64 (iV (mx s 3)), .int .i64 (iV (mx s 4)), .int .i64 (iV (mx s 5)), .int .i64 (iV (mx s 6)), .int .i64 (iV (mx s 7)), .slice A k c, .int .i64 (0), .int .i64 (0), .int .i64 (0), .string (⟨#[]⟩), .int .i64 (0), .int .i64 (0), .int .i64 (0), .int .i64 (0), .int .u64 (0), .int .i64 (0), .string (⟨#[]⟩)]) (star (rowP 54 7 (.slice A k c) k (ents (esOf (mx s 9) k))) (star (blkP w.heap.size 79 zm) none_)))) from h5)
          clear h5
          go_wp2_with fail
          refine (HE.out _).mono ?_
          rintro e w6 ⟨rfl, hk6⟩
          have NX := Lib.hid (esOf_next (mx s 9) k)
          have OX := Lib.hid (esOk_next (mx s 9) k)
          have OB := Lib.hid (fun h => esOk_before (x := mx s 9) (k := k) h n hlt)
          obtain ⟨y, hy⟩ : ∃ y, eR (tV (ex (mx s 9) k)) = y := ⟨_, rfl⟩
          rw [hy] at NX
          rw [hy]
          have H6 := Lib.hid ((H5.out.kept (by repeat (first | exact none_stable | exact wrP_stable _ _ | exact blkP_stable _ _ _ | exact rowP_stable _ _ _ _ _ | apply Stable.star)) hk6).alloc (by repeat (first | exact none_stable | exact wrP_stable _ _ | exact blkP_stable _ _ _ | exact rowP_stable _ _ _ _ _ | apply Stable.star)) (.cells (ecs y) 54))
          clear hk6 hy
          cases he : eOk (tV (ex (mx s 9) k)) with
          | false =>
            rw [show okF false = 2 from rfl]
            have E := Lib.hid (show mOk s = false by
              unfold mOk
              rw [HNN.out, OB.out he]
              simp)
            clear he
            have BB := Lib.hid (blk_atM ((kept_all H6.out (by repeat (first | exact none_stable | exact wrP_stable _ _ | exact blkP_stable _ _ _ | exact rowP_stable _ _ _ _ _ | apply Stable.star)) _ (keep0 H6.out)).perm (show _ = star (blkP w.heap.size 79 zm) (star (blkP (w.heap.size + 1) 44 (ex (mx s 9) (k + 1)).cs) (star (blkP g 79 #[.int .i64 (iV (mx s 0)), .int .i64 (iV (mx s 1)), .int .i64 (iV (mx s 2)), .int .i64 (iV (mx s 3)), .int .i64 (iV (mx s 4)), .int .i64 (iV (mx s 5)), .int .i64 (iV (mx s 6)), .int .i64 (iV (mx s 7)), .slice A k c, .int .i64 (0), .int .i64 (0), .int .i64 (0), .string (⟨#[]⟩), .int .i64 (0), .int .i64 (0), .int .i64 (0), .int .i64 (0), .int .u64 (0), .int .i64 (0), .string (⟨#[]⟩)]) (star (rowP 54 7 (.slice A k c) k (ents (esOf (mx s 9) k))) none_))) by ac_rfl)))
            have K9 := Lib.hid (hb _ (H6.out).below)
            go_wp2_with (refine wpList_store_row (by rfl) 79 (.tmp 2) (.tmp 63) (by rfl) w.heap.size zm (by rfl) (by rfl) 79 zm BB.out hi79 rfl zm_one ?_)
            refine bodyPost_ret (v := .tuple #[.agg zm, .int .i64 2]) (two_results (p := 2) (q := 3) (by rfl) (by rfl) (by rfl) (BB.out.setRow zm) hi79) rfl ?_
            exact dec_no E.out (K9.out.setRow (.inr (Nat.le_refl _)) zm)
          | true =>
            rw [show okF true = 0 from rfl]
            have HOK := Lib.hid (show esOk (mx s 9) (k + 1) = true by rw [OX.out, hok.out, he]; rfl)
            have hln := esOf_len (mx s 9) k
            have H7 := Lib.hid (show Holds w.heap.size w (w6.alloc (.cells (ecs y) 54)) (star (rowP 54 7 (.slice A k c) k (ents (esOf (mx s 9) k))) (star (blkP g 79 #[.int .i64 (iV (mx s 0)), .int .i64 (iV (mx s 1)), .int .i64 (iV (mx s 2)), .int .i64 (iV (mx s 3)), .int .i64 (iV (mx s 4)), .int .i64 (iV (mx s 5)), .int .i64 (iV (mx s 6)), .int .i64 (iV (mx s 7)), .slice A k c, .int .i64 (0), .int .i64 (0), .int .i64 (0), .string (⟨#[]⟩), .int .i64 (0), .int .i64 (0), .int .i64 (0), .int .i64 (0), .int .u64 (0), .int .i64 (0), .string (⟨#[]⟩)]) (star (blkP (w.heap.size + 1) 44 (ex (mx s 9) (k + 1)).cs) (star (blkP w.heap.size 79 zm) none_)))) from H6.out.perm (by ac_rfl))
            have y8 := (blk_atM (Holds.second H7.out)).cell 8
            have R4 := Lib.hid (H7.out.row.alloc (.cells (ecs y) 54))
            have Z := Blk.fresh w6 54 (ecs y)
            have z0 := Z.cell 0
            have z1 := Z.cell 1
            have z2 := Z.cell 2
            have z3 := Z.cell 3
            have z4 := Z.cell 4
            have z5 := Z.cell 5
            have z6 := Z.cell 6
            have hb1 : k + 1 ≤ maxLen := by unfold maxLen; omega
            have hb2 : (k + 1) * 64 ≤ 140737488355328 := by omega
            have EL := Lib.hid (show ents (esOf (mx s 9) k) ++ (ecs y).toList = ents (esOf (mx s 9) (k + 1)) by rw [NX.out, ents_app, ents_one1])
            clear he Z hln
            go_wp2_with (at_builtin; refine wpList_app _ rfl EE (.tmp 65) (.tmp 67) rfl R4.out (Src.fresh _ (ecs y) 54 7 1 rfl) 1 rfl (by simp [Act.eval, Act.put]) (by simp [Value.oneCell']) hb1 hb2 ?_)
            intro v7 w7 hr hg2 hloc
            have h8 := (H7.out.alloc (by repeat (first | exact none_stable | exact wrP_stable _ _ | exact blkP_stable _ _ _ | exact rowP_stable _ _ _ _ _ | apply Stable.star)) (.cells (ecs y) 54)).grew (by repeat (first | exact none_stable | exact wrP_stable _ _ | exact blkP_stable _ _ _ | exact rowP_stable _ _ _ _ _ | apply Stable.star)) hr hg2 (by simpa using hloc)
            rw [EL.out] at h8
            have hr2 := h8.row
            obtain ⟨A7, c7, rfl, _, _⟩ := hr2.form
            have H8 := Lib.hid (Holds.second h8)
            have B8 := blk_atM H8.out
            have m8 := B8.cell 8
            have f8 := B8.free 8
            have HN := Lib.hid (show Holds w.heap.size w (w7.setCell ⟨g, 8, none⟩ (.slice A7 (k + 1) c7)) (star (blkP (w.heap.size + 1) 44 (ex (mx s 9) (k + 1)).cs) (star (blkP g 79 #[.int .i64 (iV (mx s 0)), .int .i64 (iV (mx s 1)), .int .i64 (iV (mx s 2)), .int .i64 (iV (mx s 3)), .int .i64 (iV (mx s 4)), .int .i64 (iV (mx s 5)), .int .i64 (iV (mx s 6)), .int .i64 (iV (mx s 7)), .slice A7 (k + 1) c7, .int .i64 (0), .int .i64 (0), .int .i64 (0), .string (⟨#[]⟩), .int .i64 (0), .int .i64 (0), .int .i64 (0), .int .i64 (0), .int .u64 (0), .int .i64 (0), .string (⟨#[]⟩)]) (star (rowP 54 7 (.slice A7 (k + 1) c7) (k + 1) (ents (esOf (mx s 9) (k + 1)))) (star (blkP w.heap.size 79 zm) none_)))) from (H8.out.setBlk (by repeat (first | exact none_stable | exact wrP_stable _ _ | exact blkP_stable _ _ _ | exact rowP_stable _ _ _ _ _ | apply Stable.star)) 8 (.slice A7 (k + 1) c7)).perm (by show star (blkP g 79 #[.int .i64 (iV (mx s 0)), .int .i64 (iV (mx s 1)), .int .i64 (iV (mx s 2)), .int .i64 (iV (mx s 3)), .int .i64 (iV (mx s 4)), .int .i64 (iV (mx s 5)), .int .i64 (iV (mx s 6)), .int .i64 (iV (mx s 7)), .slice A7 (k + 1) c7, .int .i64 (0), .int .i64 (0), .int .i64 (0), .string (⟨#[]⟩), .int .i64 (0), .int .i64 (0), .int .i64 (0), .int .i64 (0), .int .u64 (0), .int .i64 (0), .string (⟨#[]⟩)]) _ = _; ac_rfl))
            clear hr hg2 hloc h8 hr2 B8 y8 z0 z1 z2 z3 z4 z5 z6
            go_wp2_with fail
            go_roundw
            case rel => exact ⟨k + 1, A7, c7, by omega, by go_num, HOK, HN.out⟩
            case measure => simp [intOf]; omega
        · obtain rfl : k = n := by omega
          have hz := HNN.out
          subst hz
          have hlt2 : decide (((mn s).toNat : Int) < ((mn s).toNat : Int)) = false := decide_eq_false (by omega)
          have HR := Lib.hid (x_rrdt (x := my0 s) H.out (by repeat (first | exact none_stable | exact wrP_stable _ _ | exact blkP_stable _ _ _ | exact rowP_stable _ _ _ _ _ | apply Stable.star)) (Nat.le_trans (my0_size s) hs))
          have HD := Lib.hid (show ∀ w, Calls Try.prog 41 #[.string (tV (my0 s))] w (fun e w' => e = .returned (.tuple #[.agg #[.int .i64 (decR (tV (my0 s))).k, .int .i64 (decR (tV (my0 s))).s, .int .i64 (decR (tV (my0 s))).q, .string (decR (tV (my0 s))).nm, .int .i64 (decR (tV (my0 s))).n], .int .i64 (okF (decOk (tV (my0 s))))]) ∧ Keep Nothing w w') from fun w => rdec_calls w _ (tV_size _))
          have HZZ := Lib.hid hok.out
          clear hok
          go_wp2_with fail
          refine HR.out.mono ?_
          rintro e w5 ⟨rfl, h5⟩
          have H5 := Lib.hid (show Holds w.heap.size w w5 (star (blkP (w.heap.size + 1) 44 (my1 s).cs) (star (blkP g 79 #[.int .i64 (iV (mx s 0)), .int .i64 (iV (mx s 1)), .int .i64 (iV (mx s 2)), .int .i64 (iV (mx s 3)), .int .i64 (iV (mx s 4)), .int .i64 (iV (mx s 5)), .int .i64 (iV (mx s 6)), .int .i64 (iV (mx s 7)), .slice A (mn s).toNat c, .int .i64 (0), .int .i64 (0), .int .i64 (0), .string (⟨#[]⟩), .int .i64 (0), .int .i64 (0), .int .i64 (0), .int .i64 (0), .int .u64 (0), .int .i64 (0), .string (⟨#[]⟩)]) (star (rowP 54 7 (.slice A (mn s).toNat c) (mn s).toNat (ents (esOf (mx s 9) (mn s).toNat))) (star (blkP w.heap.size 79 zm) none_)))) from h5)
          clear h5
          go_wp2_with fail
          refine (HD.out _).mono ?_
          rintro e w6 ⟨rfl, hk6⟩
          obtain ⟨d, hd⟩ : ∃ d, decR (tV (my0 s)) = d := ⟨_, rfl⟩
          rw [hd]
          have HDD := Lib.hid hd
          have H6 := Lib.hid (show Holds w.heap.size w (w6.alloc (.cells #[.int .i64 d.k, .int .i64 d.s, .int .i64 d.q, .string d.nm, .int .i64 d.n] 52)) (star (blkP g 79 #[.int .i64 (iV (mx s 0)), .int .i64 (iV (mx s 1)), .int .i64 (iV (mx s 2)), .int .i64 (iV (mx s 3)), .int .i64 (iV (mx s 4)), .int .i64 (iV (mx s 5)), .int .i64 (iV (mx s 6)), .int .i64 (iV (mx s 7)), .slice A (mn s).toNat c, .int .i64 (0), .int .i64 (0), .int .i64 (0), .string (⟨#[]⟩), .int .i64 (0), .int .i64 (0), .int .i64 (0), .int .i64 (0), .int .u64 (0), .int .i64 (0), .string (⟨#[]⟩)]) (star (blkP (w.heap.size + 1) 44 (my1 s).cs) (star (rowP 54 7 (.slice A (mn s).toNat c) (mn s).toNat (ents (esOf (mx s 9) (mn s).toNat))) (star (blkP w.heap.size 79 zm) none_)))) from ((H5.out.kept (by repeat (first | exact none_stable | exact wrP_stable _ _ | exact blkP_stable _ _ _ | exact rowP_stable _ _ _ _ _ | apply Stable.star)) hk6).alloc (by repeat (first | exact none_stable | exact wrP_stable _ _ | exact blkP_stable _ _ _ | exact rowP_stable _ _ _ _ _ | apply Stable.star)) (.cells #[.int .i64 d.k, .int .i64 d.s, .int .i64 d.q, .string d.nm, .int .i64 d.n] 52)).perm (by ac_rfl))
          have Z := Blk.fresh w6 52 #[.int .i64 d.k, .int .i64 d.s, .int .i64 d.q, .string d.nm, .int .i64 d.n]
          have z0 := Z.cell 0
          have z1 := Z.cell 1
          have z2 := Z.cell 2
          have z3 := Z.cell 3
          have z4 := Z.cell 4
          obtain ⟨s9, t9, s10, t10, s11, t11, s12, t12, s13, t13⟩ := store9 (blk_atM H6.out) (.int .i64 d.k) (.int .i64 d.s) (.int .i64 d.q) (.string d.nm) (.int .i64 d.n)
          have H7 := Lib.hid (show Holds w.heap.size w _ (star (blkP g 79 #[.int .i64 (iV (mx s 0)), .int .i64 (iV (mx s 1)), .int .i64 (iV (mx s 2)), .int .i64 (iV (mx s 3)), .int .i64 (iV (mx s 4)), .int .i64 (iV (mx s 5)), .int .i64 (iV (mx s 6)), .int .i64 (iV (mx s 7)), .slice A (mn s).toNat c, .int .i64 (d.k), .int .i64 (d.s), .int .i64 (d.q), .string (d.nm), .int .i64 (d.n), .int .i64 (0), .int .i64 (0), .int .i64 (0), .int .u64 (0), .int .i64 (0), .string (⟨#[]⟩)]) (star (blkP (w.heap.size + 1) 44 (my1 s).cs) (star (rowP 54 7 (.slice A (mn s).toNat c) (mn s).toNat (ents (esOf (mx s 9) (mn s).toNat))) (star (blkP w.heap.size 79 zm) none_)))) from (((((H6.out.setBlk (by repeat (first | exact none_stable | exact wrP_stable _ _ | exact blkP_stable _ _ _ | exact rowP_stable _ _ _ _ _ | apply Stable.star)) 9 (.int .i64 d.k)).setBlk (by repeat (first | exact none_stable | exact wrP_stable _ _ | exact blkP_stable _ _ _ | exact rowP_stable _ _ _ _ _ | apply Stable.star)) 10 (.int .i64 d.s)).setBlk (by repeat (first | exact none_stable | exact wrP_stable _ _ | exact blkP_stable _ _ _ | exact rowP_stable _ _ _ _ _ | apply Stable.star)) 11 (.int .i64 d.q)).setBlk (by repeat (first | exact none_stable | exact wrP_stable _ _ | exact blkP_stable _ _ _ | exact rowP_stable _ _ _ _ _ | apply Stable.star)) 12 (.string d.nm)).setBlk (by repeat (first | exact none_stable | exact wrP_stable _ _ | exact blkP_stable _ _ _ | exact rowP_stable _ _ _ _ _ | apply Stable.star)) 13 (.int .i64 d.n)))
          have HR1 := Lib.hid (x_rrdi (Holds.second H7.out) (by repeat (first | exact none_stable | exact wrP_stable _ _ | exact blkP_stable _ _ _ | exact rowP_stable _ _ _ _ _ | apply Stable.star)))
          clear hk6 hd Z
          go_wp2_with fail
          refine HR1.out.mono ?_
          rintro e v0 ⟨rfl, h5⟩
          have K0 := Lib.hid (show Holds w.heap.size w v0 (star (blkP g 79 #[.int .i64 (iV (mx s 0)), .int .i64 (iV (mx s 1)), .int .i64 (iV (mx s 2)), .int .i64 (iV (mx s 3)), .int .i64 (iV (mx s 4)), .int .i64 (iV (mx s 5)), .int .i64 (iV (mx s 6)), .int .i64 (iV (mx s 7)), .slice A (mn s).toNat c, .int .i64 (d.k), .int .i64 (d.s), .int .i64 (d.q), .string (d.nm), .int .i64 (d.n), .int .i64 (0), .int .i64 (0), .int .i64 (0), .int .u64 (0), .int .i64 (0), .string (⟨#[]⟩)]) (star (blkP (w.heap.size + 1) 44 (my2 s).cs) (star (rowP 54 7 (.slice A (mn s).toNat c) (mn s).toNat (ents (esOf (mx s 9) (mn s).toNat))) (star (blkP w.heap.size 79 zm) none_)))) from h5.perm (by show star (blkP (w.heap.size + 1) 44 (my2 s).cs) _ = _; ac_rfl))
          have BB := blk_atM K0.out
          have k0 := BB.cell 14
          have f0 := BB.free 14
          have J0 := Lib.hid (show Holds w.heap.size w _ (star (blkP g 79 #[.int .i64 (iV (mx s 0)), .int .i64 (iV (mx s 1)), .int .i64 (iV (mx s 2)), .int .i64 (iV (mx s 3)), .int .i64 (iV (mx s 4)), .int .i64 (iV (mx s 5)), .int .i64 (iV (mx s 6)), .int .i64 (iV (mx s 7)), .slice A (mn s).toNat c, .int .i64 (d.k), .int .i64 (d.s), .int .i64 (d.q), .string (d.nm), .int .i64 (d.n), .int .i64 (iV (my1 s)), .int .i64 (0), .int .i64 (0), .int .u64 (0), .int .i64 (0), .string (⟨#[]⟩)]) (star (blkP (w.heap.size + 1) 44 (my2 s).cs) (star (rowP 54 7 (.slice A (mn s).toNat c) (mn s).toNat (ents (esOf (mx s 9) (mn s).toNat))) (star (blkP w.heap.size 79 zm) none_)))) from K0.out.setBlk (by repeat (first | exact none_stable | exact wrP_stable _ _ | exact blkP_stable _ _ _ | exact rowP_stable _ _ _ _ _ | apply Stable.star)) 14 (.int .i64 (iV (my1 s))))
          have HR2 := Lib.hid (x_rrdi (Holds.second J0.out) (by repeat (first | exact none_stable | exact wrP_stable _ _ | exact blkP_stable _ _ _ | exact rowP_stable _ _ _ _ _ | apply Stable.star)))
          clear h5 BB s9 t9 s10 t10 s11 t11 s12 t12 s13 t13 z0 z1 z2 z3 z4
          go_wp2_with fail
          refine HR2.out.mono ?_
          rintro e v1 ⟨rfl, h5⟩
          have K1 := Lib.hid (show Holds w.heap.size w v1 (star (blkP g 79 #[.int .i64 (iV (mx s 0)), .int .i64 (iV (mx s 1)), .int .i64 (iV (mx s 2)), .int .i64 (iV (mx s 3)), .int .i64 (iV (mx s 4)), .int .i64 (iV (mx s 5)), .int .i64 (iV (mx s 6)), .int .i64 (iV (mx s 7)), .slice A (mn s).toNat c, .int .i64 (d.k), .int .i64 (d.s), .int .i64 (d.q), .string (d.nm), .int .i64 (d.n), .int .i64 (iV (my1 s)), .int .i64 (0), .int .i64 (0), .int .u64 (0), .int .i64 (0), .string (⟨#[]⟩)]) (star (blkP (w.heap.size + 1) 44 (my3 s).cs) (star (rowP 54 7 (.slice A (mn s).toNat c) (mn s).toNat (ents (esOf (mx s 9) (mn s).toNat))) (star (blkP w.heap.size 79 zm) none_)))) from h5.perm (by show star (blkP (w.heap.size + 1) 44 (my3 s).cs) _ = _; ac_rfl))
          have BB := blk_atM K1.out
          have k1 := BB.cell 15
          have f1 := BB.free 15
          have J1 := Lib.hid (show Holds w.heap.size w _ (star (blkP g 79 #[.int .i64 (iV (mx s 0)), .int .i64 (iV (mx s 1)), .int .i64 (iV (mx s 2)), .int .i64 (iV (mx s 3)), .int .i64 (iV (mx s 4)), .int .i64 (iV (mx s 5)), .int .i64 (iV (mx s 6)), .int .i64 (iV (mx s 7)), .slice A (mn s).toNat c, .int .i64 (d.k), .int .i64 (d.s), .int .i64 (d.q), .string (d.nm), .int .i64 (d.n), .int .i64 (iV (my1 s)), .int .i64 (iV (my2 s)), .int .i64 (0), .int .u64 (0), .int .i64 (0), .string (⟨#[]⟩)]) (star (blkP (w.heap.size + 1) 44 (my3 s).cs) (star (rowP 54 7 (.slice A (mn s).toNat c) (mn s).toNat (ents (esOf (mx s 9) (mn s).toNat))) (star (blkP w.heap.size 79 zm) none_)))) from K1.out.setBlk (by repeat (first | exact none_stable | exact wrP_stable _ _ | exact blkP_stable _ _ _ | exact rowP_stable _ _ _ _ _ | apply Stable.star)) 15 (.int .i64 (iV (my2 s))))
          have HR3 := Lib.hid (x_rrdi (Holds.second J1.out) (by repeat (first | exact none_stable | exact wrP_stable _ _ | exact blkP_stable _ _ _ | exact rowP_stable _ _ _ _ _ | apply Stable.star)))
          clear h5 BB k0 f0
          go_wp2_with fail
          refine HR3.out.mono ?_
          rintro e v2 ⟨rfl, h5⟩
          have K2 := Lib.hid (show Holds w.heap.size w v2 (star (blkP g 79 #[.int .i64 (iV (mx s 0)), .int .i64 (iV (mx s 1)), .int .i64 (iV (mx s 2)), .int .i64 (iV (mx s 3)), .int .i64 (iV (mx s 4)), .int .i64 (iV (mx s 5)), .int .i64 (iV (mx s 6)), .int .i64 (iV (mx s 7)), .slice A (mn s).toNat c, .int .i64 (d.k), .int .i64 (d.s), .int .i64 (d.q), .string (d.nm), .int .i64 (d.n), .int .i64 (iV (my1 s)), .int .i64 (iV (my2 s)), .int .i64 (0), .int .u64 (0), .int .i64 (0), .string (⟨#[]⟩)]) (star (blkP (w.heap.size + 1) 44 (my4 s).cs) (star (rowP 54 7 (.slice A (mn s).toNat c) (mn s).toNat (ents (esOf (mx s 9) (mn s).toNat))) (star (blkP w.heap.size 79 zm) none_)))) from h5.perm (by show star (blkP (w.heap.size + 1) 44 (my4 s).cs) _ = _; ac_rfl))
          have BB := blk_atM K2.out
          have k2 := BB.cell 16
          have f2 := BB.free 16
          have J2 := Lib.hid (show Holds w.heap.size w _ (star (blkP g 79 #[.int .i64 (iV (mx s 0)), .int .i64 (iV (mx s 1)), .int .i64 (iV (mx s 2)), .int .i64 (iV (mx s 3)), .int .i64 (iV (mx s 4)), .int .i64 (iV (mx s 5)), .int .i64 (iV (mx s 6)), .int .i64 (iV (mx s 7)), .slice A (mn s).toNat c, .int .i64 (d.k), .int .i64 (d.s), .int .i64 (d.q), .string (d.nm), .int .i64 (d.n), .int .i64 (iV (my1 s)), .int .i64 (iV (my2 s)), .int .i64 (iV (my3 s)), .int .u64 (0), .int .i64 (0), .string (⟨#[]⟩)]) (star (blkP (w.heap.size + 1) 44 (my4 s).cs) (star (rowP 54 7 (.slice A (mn s).toNat c) (mn s).toNat (ents (esOf (mx s 9) (mn s).toNat))) (star (blkP w.heap.size 79 zm) none_)))) from K2.out.setBlk (by repeat (first | exact none_stable | exact wrP_stable _ _ | exact blkP_stable _ _ _ | exact rowP_stable _ _ _ _ _ | apply Stable.star)) 16 (.int .i64 (iV (my3 s))))
          have HR4 := Lib.hid (x_rrdu (Holds.second J2.out) (by repeat (first | exact none_stable | exact wrP_stable _ _ | exact blkP_stable _ _ _ | exact rowP_stable _ _ _ _ _ | apply Stable.star)))
          clear h5 BB k1 f1
          go_wp2_with fail
          refine HR4.out.mono ?_
          rintro e v3 ⟨rfl, h5⟩
          have K3 := Lib.hid (show Holds w.heap.size w v3 (star (blkP g 79 #[.int .i64 (iV (mx s 0)), .int .i64 (iV (mx s 1)), .int .i64 (iV (mx s 2)), .int .i64 (iV (mx s 3)), .int .i64 (iV (mx s 4)), .int .i64 (iV (mx s 5)), .int .i64 (iV (mx s 6)), .int .i64 (iV (mx s 7)), .slice A (mn s).toNat c, .int .i64 (d.k), .int .i64 (d.s), .int .i64 (d.q), .string (d.nm), .int .i64 (d.n), .int .i64 (iV (my1 s)), .int .i64 (iV (my2 s)), .int .i64 (iV (my3 s)), .int .u64 (0), .int .i64 (0), .string (⟨#[]⟩)]) (star (blkP (w.heap.size + 1) 44 (my5 s).cs) (star (rowP 54 7 (.slice A (mn s).toNat c) (mn s).toNat (ents (esOf (mx s 9) (mn s).toNat))) (star (blkP w.heap.size 79 zm) none_)))) from h5.perm (by show star (blkP (w.heap.size + 1) 44 (my5 s).cs) _ = _; ac_rfl))
          have BB := blk_atM K3.out
          have k3 := BB.cell 17
          have f3 := BB.free 17
          have J3 := Lib.hid (show Holds w.heap.size w _ (star (blkP g 79 #[.int .i64 (iV (mx s 0)), .int .i64 (iV (mx s 1)), .int .i64 (iV (mx s 2)), .int .i64 (iV (mx s 3)), .int .i64 (iV (mx s 4)), .int .i64 (iV (mx s 5)), .int .i64 (iV (mx s 6)), .int .i64 (iV (mx s 7)), .slice A (mn s).toNat c, .int .i64 (d.k), .int .i64 (d.s), .int .i64 (d.q), .string (d.nm), .int .i64 (d.n), .int .i64 (iV (my1 s)), .int .i64 (iV (my2 s)), .int .i64 (iV (my3 s)), .int .u64 (((uV (my4 s) : Nat) : Int)), .int .i64 (0), .string (⟨#[]⟩)]) (star (blkP (w.heap.size + 1) 44 (my5 s).cs) (star (rowP 54 7 (.slice A (mn s).toNat c) (mn s).toNat (ents (esOf (mx s 9) (mn s).toNat))) (star (blkP w.heap.size 79 zm) none_)))) from K3.out.setBlk (by repeat (first | exact none_stable | exact wrP_stable _ _ | exact blkP_stable _ _ _ | exact rowP_stable _ _ _ _ _ | apply Stable.star)) 17 (.int .u64 ((uV (my4 s) : Nat) : Int)))
          have HR5 := Lib.hid (x_rrdi (Holds.second J3.out) (by repeat (first | exact none_stable | exact wrP_stable _ _ | exact blkP_stable _ _ _ | exact rowP_stable _ _ _ _ _ | apply Stable.star)))
          clear h5 BB k2 f2
          go_wp2_with fail
          refine HR5.out.mono ?_
          rintro e v4 ⟨rfl, h5⟩
          have K4 := Lib.hid (show Holds w.heap.size w v4 (star (blkP g 79 #[.int .i64 (iV (mx s 0)), .int .i64 (iV (mx s 1)), .int .i64 (iV (mx s 2)), .int .i64 (iV (mx s 3)), .int .i64 (iV (mx s 4)), .int .i64 (iV (mx s 5)), .int .i64 (iV (mx s 6)), .int .i64 (iV (mx s 7)), .slice A (mn s).toNat c, .int .i64 (d.k), .int .i64 (d.s), .int .i64 (d.q), .string (d.nm), .int .i64 (d.n), .int .i64 (iV (my1 s)), .int .i64 (iV (my2 s)), .int .i64 (iV (my3 s)), .int .u64 (((uV (my4 s) : Nat) : Int)), .int .i64 (0), .string (⟨#[]⟩)]) (star (blkP (w.heap.size + 1) 44 (my6 s).cs) (star (rowP 54 7 (.slice A (mn s).toNat c) (mn s).toNat (ents (esOf (mx s 9) (mn s).toNat))) (star (blkP w.heap.size 79 zm) none_)))) from h5.perm (by show star (blkP (w.heap.size + 1) 44 (my6 s).cs) _ = _; ac_rfl))
          have BB := blk_atM K4.out
          have k4 := BB.cell 18
          have f4 := BB.free 18
          have J4 := Lib.hid (show Holds w.heap.size w _ (star (blkP g 79 #[.int .i64 (iV (mx s 0)), .int .i64 (iV (mx s 1)), .int .i64 (iV (mx s 2)), .int .i64 (iV (mx s 3)), .int .i64 (iV (mx s 4)), .int .i64 (iV (mx s 5)), .int .i64 (iV (mx s 6)), .int .i64 (iV (mx s 7)), .slice A (mn s).toNat c, .int .i64 (d.k), .int .i64 (d.s), .int .i64 (d.q), .string (d.nm), .int .i64 (d.n), .int .i64 (iV (my1 s)), .int .i64 (iV (my2 s)), .int .i64 (iV (my3 s)), .int .u64 (((uV (my4 s) : Nat) : Int)), .int .i64 (iV (my5 s)), .string (⟨#[]⟩)]) (star (blkP (w.heap.size + 1) 44 (my6 s).cs) (star (rowP 54 7 (.slice A (mn s).toNat c) (mn s).toNat (ents (esOf (mx s 9) (mn s).toNat))) (star (blkP w.heap.size 79 zm) none_)))) from K4.out.setBlk (by repeat (first | exact none_stable | exact wrP_stable _ _ | exact blkP_stable _ _ _ | exact rowP_stable _ _ _ _ _ | apply Stable.star)) 18 (.int .i64 (iV (my5 s))))
          have HR6 := Lib.hid (x_rrdt (Holds.second J4.out) (by repeat (first | exact none_stable | exact wrP_stable _ _ | exact blkP_stable _ _ _ | exact rowP_stable _ _ _ _ _ | apply Stable.star)) (Nat.le_trans (my6_size s) hs))
          clear h5 BB k3 f3
          go_wp2_with fail
          refine HR6.out.mono ?_
          rintro e v5 ⟨rfl, h5⟩
          have K5 := Lib.hid (show Holds w.heap.size w v5 (star (blkP g 79 #[.int .i64 (iV (mx s 0)), .int .i64 (iV (mx s 1)), .int .i64 (iV (mx s 2)), .int .i64 (iV (mx s 3)), .int .i64 (iV (mx s 4)), .int .i64 (iV (mx s 5)), .int .i64 (iV (mx s 6)), .int .i64 (iV (mx s 7)), .slice A (mn s).toNat c, .int .i64 (d.k), .int .i64 (d.s), .int .i64 (d.q), .string (d.nm), .int .i64 (d.n), .int .i64 (iV (my1 s)), .int .i64 (iV (my2 s)), .int .i64 (iV (my3 s)), .int .u64 (((uV (my4 s) : Nat) : Int)), .int .i64 (iV (my5 s)), .string (⟨#[]⟩)]) (star (blkP (w.heap.size + 1) 44 (my7 s).cs) (star (rowP 54 7 (.slice A (mn s).toNat c) (mn s).toNat (ents (esOf (mx s 9) (mn s).toNat))) (star (blkP w.heap.size 79 zm) none_)))) from h5.perm (by show star (blkP (w.heap.size + 1) 44 (my7 s).cs) _ = _; ac_rfl))
          have BB := blk_atM K5.out
          have k5 := BB.cell 19
          have f5 := BB.free 19
          have J5 := Lib.hid (show Holds w.heap.size w _ (star (blkP g 79 #[.int .i64 (iV (mx s 0)), .int .i64 (iV (mx s 1)), .int .i64 (iV (mx s 2)), .int .i64 (iV (mx s 3)), .int .i64 (iV (mx s 4)), .int .i64 (iV (mx s 5)), .int .i64 (iV (mx s 6)), .int .i64 (iV (mx s 7)), .slice A (mn s).toNat c, .int .i64 (d.k), .int .i64 (d.s), .int .i64 (d.q), .string (d.nm), .int .i64 (d.n), .int .i64 (iV (my1 s)), .int .i64 (iV (my2 s)), .int .i64 (iV (my3 s)), .int .u64 (((uV (my4 s) : Nat) : Int)), .int .i64 (iV (my5 s)), .string (tV (my6 s))]) (star (blkP (w.heap.size + 1) 44 (my7 s).cs) (star (rowP 54 7 (.slice A (mn s).toNat c) (mn s).toNat (ents (esOf (mx s 9) (mn s).toNat))) (star (blkP w.heap.size 79 zm) none_)))) from K5.out.setBlk (by repeat (first | exact none_stable | exact wrP_stable _ _ | exact blkP_stable _ _ _ | exact rowP_stable _ _ _ _ _ | apply Stable.star)) 19 (.string (tV (my6 s))))
          clear h5 BB k4 f4
          have J := Lib.hid (show Holds w.heap.size w (v5.setCell ⟨g, 19, none⟩ (.string (tV (my6 s)))) (star (blkP (w.heap.size + 1) 44 (my7 s).cs) (star (blkP g 79 #[.int .i64 (iV (mx s 0)), .int .i64 (iV (mx s 1)), .int .i64 (iV (mx s 2)), .int .i64 (iV (mx s 3)), .int .i64 (iV (mx s 4)), .int .i64 (iV (mx s 5)), .int .i64 (iV (mx s 6)), .int .i64 (iV (mx s 7)), .slice A (mn s).toNat c, .int .i64 (d.k), .int .i64 (d.s), .int .i64 (d.q), .string (d.nm), .int .i64 (d.n), .int .i64 (iV (my1 s)), .int .i64 (iV (my2 s)), .int .i64 (iV (my3 s)), .int .u64 (((uV (my4 s) : Nat) : Int)), .int .i64 (iV (my5 s)), .string (tV (my6 s))]) (star (rowP 54 7 (.slice A (mn s).toNat c) (mn s).toNat (ents (esOf (mx s 9) (mn s).toNat))) (star (blkP w.heap.size 79 zm) none_)))) from (Holds.second J5.out))
          have ESL := Lib.hid (show (mDec s).es.length = (mn s).toNat from esOf_len _ _)
          have MO := Lib.hid (show mOk s = (decOk (tV (my0 s)) && (decide (dV (my7 s) = 0) && ((spansL (mDec s)).all Sp.ok && (repliesL (mP s)).all Sp.ok))) by
            unfold mOk
            rw [decide_eq_true hsz, NOK.out, HZZ.out]
            rfl)
          have HDN := Lib.hid (x_rrdd J.out)
          have HDS := Lib.hid HDD.out
          go_wp2_with fail
          clear k5 f5
          refine HDN.out.mono ?_
          rintro e w9 ⟨rfl, hw9⟩
          have J9 := Lib.hid (show Holds w.heap.size w w9 (star (blkP (w.heap.size + 1) 44 (my7 s).cs) (star (blkP g 79 #[.int .i64 (iV (mx s 0)), .int .i64 (iV (mx s 1)), .int .i64 (iV (mx s 2)), .int .i64 (iV (mx s 3)), .int .i64 (iV (mx s 4)), .int .i64 (iV (mx s 5)), .int .i64 (iV (mx s 6)), .int .i64 (iV (mx s 7)), .slice A (mn s).toNat c, .int .i64 (d.k), .int .i64 (d.s), .int .i64 (d.q), .string (d.nm), .int .i64 (d.n), .int .i64 (iV (my1 s)), .int .i64 (iV (my2 s)), .int .i64 (iV (my3 s)), .int .u64 (((uV (my4 s) : Nat) : Int)), .int .i64 (iV (my5 s)), .string (tV (my6 s))]) (star (rowP 54 7 (.slice A (mn s).toNat c) (mn s).toNat (ents (esOf (mx s 9) (mn s).toNat))) (star (blkP w.heap.size 79 zm) none_)))) by rw [hw9]; exact J.out)
          clear hw9
          by_cases hdv : dV (my7 s) = 0
          · rw [hdv]
            rw [decide_eq_true hdv] at MO
            clear hdv
            cases hd : decOk (tV (my0 s)) with
            | false =>
              rw [show okF false = 2 from rfl]
              have E := Lib.hid (show mOk s = false by rw [MO.out, hd]; rfl)
              clear hd
              have BB := Lib.hid (blk_atM (J9.out.perm (show _ = star (blkP w.heap.size 79 zm) (star (blkP (w.heap.size + 1) 44 (my7 s).cs) (star (blkP g 79 #[.int .i64 (iV (mx s 0)), .int .i64 (iV (mx s 1)), .int .i64 (iV (mx s 2)), .int .i64 (iV (mx s 3)), .int .i64 (iV (mx s 4)), .int .i64 (iV (mx s 5)), .int .i64 (iV (mx s 6)), .int .i64 (iV (mx s 7)), .slice A (mn s).toNat c, .int .i64 (d.k), .int .i64 (d.s), .int .i64 (d.q), .string (d.nm), .int .i64 (d.n), .int .i64 (iV (my1 s)), .int .i64 (iV (my2 s)), .int .i64 (iV (my3 s)), .int .u64 (((uV (my4 s) : Nat) : Int)), .int .i64 (iV (my5 s)), .string (tV (my6 s))]) (star (rowP 54 7 (.slice A (mn s).toNat c) (mn s).toNat (ents (esOf (mx s 9) (mn s).toNat))) none_))) by ac_rfl)))
              have K9 := Lib.hid (hb _ (J9.out).below)
              go_wp2_with (refine wpList_store_row (by rfl) 79 (.tmp 2) (.tmp 113) (by rfl) w.heap.size zm (by rfl) (by rfl) 79 zm BB.out hi79 rfl zm_one ?_)
              refine bodyPost_ret (v := .tuple #[.agg zm, .int .i64 2]) (two_results (p := 2) (q := 3) (by rfl) (by rfl) (by rfl) (BB.out.setRow zm) hi79) rfl ?_
              exact dec_no E.out (K9.out.setRow (.inr (Nat.le_refl _)) zm)
            | true =>
              rw [show okF true = 0 from rfl]
              have MM := Lib.hid (mayM_dec HZZ.out hd)
              rw [hd, Bool.true_and, Bool.true_and] at MO
              clear hd
              have HMY := Lib.hid (show ∀ w, U.Src w A 7 (mn s).toNat (ents (esOf (mx s 9) (mn s).toNat)) → Calls Try.prog 63 #[.agg #[.int .i64 (iV (mx s 0)), .int .i64 (iV (mx s 1)), .int .i64 (iV (mx s 2)), .int .i64 (iV (mx s 3)), .int .i64 (iV (mx s 4)), .int .i64 (iV (mx s 5)), .int .i64 (iV (mx s 6)), .int .i64 (iV (mx s 7)), .slice A (mn s).toNat c, .int .i64 (d.k), .int .i64 (d.s), .int .i64 (d.q), .string (d.nm), .int .i64 (d.n), .int .i64 (iV (my1 s)), .int .i64 (iV (my2 s)), .int .i64 (iV (my3 s)), .int .u64 (((uV (my4 s) : Nat) : Int)), .int .i64 (iV (my5 s)), .string (tV (my6 s))]] w (fun e w' => e = .returned (.bool (mayM (mDec s))) ∧ Keep Nothing w w') from fun w hsr => by
                have h : U.Src w A 7 (mDec s).es.length (ents (mDec s).es) → Calls Try.prog 63 #[.agg (mcsv (mDec s) (.slice A (mDec s).es.length c))] w (fun e w' => e = .returned (.bool (mayM (mDec s))) ∧ Keep Nothing w w') := fun hh => mrmay_calls w (mDec s) A c hh (by rw [ESL.out]; omega)
                rw [ESL.out] at h
                have hc : mcsv (mDec s) (.slice A (mn s).toNat c) = #[.int .i64 (iV (mx s 0)), .int .i64 (iV (mx s 1)), .int .i64 (iV (mx s 2)), .int .i64 (iV (mx s 3)), .int .i64 (iV (mx s 4)), .int .i64 (iV (mx s 5)), .int .i64 (iV (mx s 6)), .int .i64 (iV (mx s 7)), .slice A (mn s).toNat c, .int .i64 (d.k), .int .i64 (d.s), .int .i64 (d.q), .string (d.nm), .int .i64 (d.n), .int .i64 (iV (my1 s)), .int .i64 (iV (my2 s)), .int .i64 (iV (my3 s)), .int .u64 (((uV (my4 s) : Nat) : Int)), .int .i64 (iV (my5 s)), .string (tV (my6 s))] := by rw [← HDS.out]; rfl
                rw [hc] at h
                exact h hsr)
              have BJ := Lib.hid (blk_atM (Holds.second J9.out))
              have SJ := Lib.hid ((J9.out.perm (show _ = star (rowP 54 7 (.slice A (mn s).toNat c) (mn s).toNat (ents (esOf (mx s 9) (mn s).toNat))) (star (blkP (w.heap.size + 1) 44 (my7 s).cs) (star (blkP g 79 #[.int .i64 (iV (mx s 0)), .int .i64 (iV (mx s 1)), .int .i64 (iV (mx s 2)), .int .i64 (iV (mx s 3)), .int .i64 (iV (mx s 4)), .int .i64 (iV (mx s 5)), .int .i64 (iV (mx s 6)), .int .i64 (iV (mx s 7)), .slice A (mn s).toNat c, .int .i64 (d.k), .int .i64 (d.s), .int .i64 (d.q), .string (d.nm), .int .i64 (d.n), .int .i64 (iV (my1 s)), .int .i64 (iV (my2 s)), .int .i64 (iV (my3 s)), .int .u64 (((uV (my4 s) : Nat) : Int)), .int .i64 (iV (my5 s)), .string (tV (my6 s))]) (star (blkP w.heap.size 79 zm) none_))) by ac_rfl)).row.src)
              go_wp2_with (refine wpList_load_guarded 79 (by rfl) (.tmp 5) (by rfl) g (by rfl) 79 #[.int .i64 (iV (mx s 0)), .int .i64 (iV (mx s 1)), .int .i64 (iV (mx s 2)), .int .i64 (iV (mx s 3)), .int .i64 (iV (mx s 4)), .int .i64 (iV (mx s 5)), .int .i64 (iV (mx s 6)), .int .i64 (iV (mx s 7)), .slice A (mn s).toNat c, .int .i64 (d.k), .int .i64 (d.s), .int .i64 (d.q), .string (d.nm), .int .i64 (d.n), .int .i64 (iV (my1 s)), .int .i64 (iV (my2 s)), .int .i64 (iV (my3 s)), .int .u64 (((uV (my4 s) : Nat) : Int)), .int .i64 (iV (my5 s)), .string (tV (my6 s))] (0, 0) _ BJ.out hu rfl hi79 ?_)
              refine (HMY.out _ SJ.out).mono ?_
              rintro e wa ⟨rfl, hka⟩
              have JD := Lib.hid (J9.out.kept (by repeat (first | exact none_stable | exact wrP_stable _ _ | exact blkP_stable _ _ _ | exact rowP_stable _ _ _ _ _ | apply Stable.star)) hka)
              clear hka
              rw [MM.out]
              rw [← MM.out] at MO
              cases hmm : mayM (mDec s) with
              | false =>
                rw [← MM.out, hmm]
                have E := Lib.hid (show mOk s = false by rw [MO.out, hmm])
                clear hmm
                have BB := Lib.hid (blk_atM (JD.out.perm (show _ = star (blkP w.heap.size 79 zm) (star (blkP (w.heap.size + 1) 44 (my7 s).cs) (star (blkP g 79 #[.int .i64 (iV (mx s 0)), .int .i64 (iV (mx s 1)), .int .i64 (iV (mx s 2)), .int .i64 (iV (mx s 3)), .int .i64 (iV (mx s 4)), .int .i64 (iV (mx s 5)), .int .i64 (iV (mx s 6)), .int .i64 (iV (mx s 7)), .slice A (mn s).toNat c, .int .i64 (d.k), .int .i64 (d.s), .int .i64 (d.q), .string (d.nm), .int .i64 (d.n), .int .i64 (iV (my1 s)), .int .i64 (iV (my2 s)), .int .i64 (iV (my3 s)), .int .u64 (((uV (my4 s) : Nat) : Int)), .int .i64 (iV (my5 s)), .string (tV (my6 s))]) (star (rowP 54 7 (.slice A (mn s).toNat c) (mn s).toNat (ents (esOf (mx s 9) (mn s).toNat))) none_))) by ac_rfl)))
                have K9 := Lib.hid (hb _ (JD.out).below)
                go_wp2_with (refine wpList_store_row (by rfl) 79 (.tmp 2) (.tmp 113) (by rfl) w.heap.size zm (by rfl) (by rfl) 79 zm BB.out hi79 rfl zm_one ?_)
                refine bodyPost_ret (v := .tuple #[.agg zm, .int .i64 2]) (two_results (p := 2) (q := 3) (by rfl) (by rfl) (by rfl) (BB.out.setRow zm) hi79) rfl ?_
                exact dec_no E.out (K9.out.setRow (.inr (Nat.le_refl _)) zm)
              | true =>
                rw [← MM.out, hmm]
                have E := Lib.hid (show mOk s = true by rw [MO.out, hmm])
                clear hmm
                have BJD := Lib.hid (blk_atM (Holds.second JD.out))
                have BZD := Lib.hid (blk_atM (JD.out.perm (show _ = star (blkP w.heap.size 79 zm) (star (blkP (w.heap.size + 1) 44 (my7 s).cs) (star (blkP g 79 #[.int .i64 (iV (mx s 0)), .int .i64 (iV (mx s 1)), .int .i64 (iV (mx s 2)), .int .i64 (iV (mx s 3)), .int .i64 (iV (mx s 4)), .int .i64 (iV (mx s 5)), .int .i64 (iV (mx s 6)), .int .i64 (iV (mx s 7)), .slice A (mn s).toNat c, .int .i64 (d.k), .int .i64 (d.s), .int .i64 (d.q), .string (d.nm), .int .i64 (d.n), .int .i64 (iV (my1 s)), .int .i64 (iV (my2 s)), .int .i64 (iV (my3 s)), .int .u64 (((uV (my4 s) : Nat) : Int)), .int .i64 (iV (my5 s)), .string (tV (my6 s))]) (star (rowP 54 7 (.slice A (mn s).toNat c) (mn s).toNat (ents (esOf (mx s 9) (mn s).toNat))) none_))) by ac_rfl)))
                have HF := Lib.hid (held_row (JD.out.perm (show _ = star (blkP w.heap.size 79 zm) (star (blkP (w.heap.size + 1) 44 (my7 s).cs) (star (blkP g 79 #[.int .i64 (iV (mx s 0)), .int .i64 (iV (mx s 1)), .int .i64 (iV (mx s 2)), .int .i64 (iV (mx s 3)), .int .i64 (iV (mx s 4)), .int .i64 (iV (mx s 5)), .int .i64 (iV (mx s 6)), .int .i64 (iV (mx s 7)), .slice A (mn s).toNat c, .int .i64 (d.k), .int .i64 (d.s), .int .i64 (d.q), .string (d.nm), .int .i64 (d.n), .int .i64 (iV (my1 s)), .int .i64 (iV (my2 s)), .int .i64 (iV (my3 s)), .int .u64 (((uV (my4 s) : Nat) : Int)), .int .i64 (iV (my5 s)), .string (tV (my6 s))]) (star (rowP 54 7 (.slice A (mn s).toNat c) (mn s).toNat (ents (esOf (mx s 9) (mn s).toNat))) none_))) by ac_rfl)) (by repeat (first | exact none_stable | exact wrP_stable _ _ | exact blkP_stable _ _ _ | exact rowP_stable _ _ _ _ _ | apply Stable.star)) #[.int .i64 (iV (mx s 0)), .int .i64 (iV (mx s 1)), .int .i64 (iV (mx s 2)), .int .i64 (iV (mx s 3)), .int .i64 (iV (mx s 4)), .int .i64 (iV (mx s 5)), .int .i64 (iV (mx s 6)), .int .i64 (iV (mx s 7)), .slice A (mn s).toNat c, .int .i64 (d.k), .int .i64 (d.s), .int .i64 (d.q), .string (d.nm), .int .i64 (d.n), .int .i64 (iV (my1 s)), .int .i64 (iV (my2 s)), .int .i64 (iV (my3 s)), .int .u64 (((uV (my4 s) : Nat) : Int)), .int .i64 (iV (my5 s)), .string (tV (my6 s))])
                go_wp2_with (first | refine wpList_load_row (by rfl) 79 (.tmp 5) (by rfl) g (by rfl) 79 #[.int .i64 (iV (mx s 0)), .int .i64 (iV (mx s 1)), .int .i64 (iV (mx s 2)), .int .i64 (iV (mx s 3)), .int .i64 (iV (mx s 4)), .int .i64 (iV (mx s 5)), .int .i64 (iV (mx s 6)), .int .i64 (iV (mx s 7)), .slice A (mn s).toNat c, .int .i64 (d.k), .int .i64 (d.s), .int .i64 (d.q), .string (d.nm), .int .i64 (d.n), .int .i64 (iV (my1 s)), .int .i64 (iV (my2 s)), .int .i64 (iV (my3 s)), .int .u64 (((uV (my4 s) : Nat) : Int)), .int .i64 (iV (my5 s)), .string (tV (my6 s))] (0, 0) _ BJD.out hu rfl hi79 ?_ | refine wpList_store_row (by rfl) 79 (.tmp 2) (.tmp 114) (by rfl) w.heap.size #[.int .i64 (iV (mx s 0)), .int .i64 (iV (mx s 1)), .int .i64 (iV (mx s 2)), .int .i64 (iV (mx s 3)), .int .i64 (iV (mx s 4)), .int .i64 (iV (mx s 5)), .int .i64 (iV (mx s 6)), .int .i64 (iV (mx s 7)), .slice A (mn s).toNat c, .int .i64 (d.k), .int .i64 (d.s), .int .i64 (d.q), .string (d.nm), .int .i64 (d.n), .int .i64 (iV (my1 s)), .int .i64 (iV (my2 s)), .int .i64 (iV (my3 s)), .int .u64 (((uV (my4 s) : Nat) : Int)), .int .i64 (iV (my5 s)), .string (tV (my6 s))] (by rfl) (by rfl) 79 zm BZD.out hi79 rfl (by simp [Value.oneCell']) ?_)
                refine bodyPost_ret (v := .tuple #[.agg #[.int .i64 (iV (mx s 0)), .int .i64 (iV (mx s 1)), .int .i64 (iV (mx s 2)), .int .i64 (iV (mx s 3)), .int .i64 (iV (mx s 4)), .int .i64 (iV (mx s 5)), .int .i64 (iV (mx s 6)), .int .i64 (iV (mx s 7)), .slice A (mn s).toNat c, .int .i64 (d.k), .int .i64 (d.s), .int .i64 (d.q), .string (d.nm), .int .i64 (d.n), .int .i64 (iV (my1 s)), .int .i64 (iV (my2 s)), .int .i64 (iV (my3 s)), .int .u64 (((uV (my4 s) : Nat) : Int)), .int .i64 (iV (my5 s)), .string (tV (my6 s))], .int .i64 0]) (two_results (p := 2) (q := 3) (by rfl) (by rfl) (by rfl) (blk_atM HF.out) hi79) rfl ?_
                have hcf : mval (mDec s) A c = .agg #[.int .i64 (iV (mx s 0)), .int .i64 (iV (mx s 1)), .int .i64 (iV (mx s 2)), .int .i64 (iV (mx s 3)), .int .i64 (iV (mx s 4)), .int .i64 (iV (mx s 5)), .int .i64 (iV (mx s 6)), .int .i64 (iV (mx s 7)), .slice A (mn s).toNat c, .int .i64 (d.k), .int .i64 (d.s), .int .i64 (d.q), .string (d.nm), .int .i64 (d.n), .int .i64 (iV (my1 s)), .int .i64 (iV (my2 s)), .int .i64 (iV (my3 s)), .int .u64 (((uV (my4 s) : Nat) : Int)), .int .i64 (iV (my5 s)), .string (tV (my6 s))] := by
                  show Value.agg (mcsv (mDec s) (.slice A (mDec s).es.length c)) = _
                  rw [ESL.out, ← HDS.out]
                  rfl
                unfold DecPost
                rw [mR_ok E.out, E.out]
                refine ⟨A, c, by rw [hcf]; rfl, ?_, by rw [ESL.out]; exact hn4, hb _ HF.out.below⟩
                rw [ESL.out]
                exact (HF.out.perm (show _ = star (rowP 54 7 (.slice A (mn s).toNat c) (mn s).toNat (ents (esOf (mx s 9) (mn s).toNat))) (star (blkP w.heap.size 79 #[.int .i64 (iV (mx s 0)), .int .i64 (iV (mx s 1)), .int .i64 (iV (mx s 2)), .int .i64 (iV (mx s 3)), .int .i64 (iV (mx s 4)), .int .i64 (iV (mx s 5)), .int .i64 (iV (mx s 6)), .int .i64 (iV (mx s 7)), .slice A (mn s).toNat c, .int .i64 (d.k), .int .i64 (d.s), .int .i64 (d.q), .string (d.nm), .int .i64 (d.n), .int .i64 (iV (my1 s)), .int .i64 (iV (my2 s)), .int .i64 (iV (my3 s)), .int .u64 (((uV (my4 s) : Nat) : Int)), .int .i64 (iV (my5 s)), .string (tV (my6 s))]) (star (blkP (w.heap.size + 1) 44 (my7 s).cs) (star (blkP g 79 #[.int .i64 (iV (mx s 0)), .int .i64 (iV (mx s 1)), .int .i64 (iV (mx s 2)), .int .i64 (iV (mx s 3)), .int .i64 (iV (mx s 4)), .int .i64 (iV (mx s 5)), .int .i64 (iV (mx s 6)), .int .i64 (iV (mx s 7)), .slice A (mn s).toNat c, .int .i64 (d.k), .int .i64 (d.s), .int .i64 (d.q), .string (d.nm), .int .i64 (d.n), .int .i64 (iV (my1 s)), .int .i64 (iV (my2 s)), .int .i64 (iV (my3 s)), .int .u64 (((uV (my4 s) : Nat) : Int)), .int .i64 (iV (my5 s)), .string (tV (my6 s))]) none_))) by ac_rfl)).row.src
          · have hd2 := dV_two hdv
            rw [hd2]
            have E := Lib.hid (show mOk s = false by rw [MO.out, decide_eq_false hdv]; simp)
            clear hdv hd2
            have BB := Lib.hid (blk_atM (J9.out.perm (show _ = star (blkP w.heap.size 79 zm) (star (blkP (w.heap.size + 1) 44 (my7 s).cs) (star (blkP g 79 #[.int .i64 (iV (mx s 0)), .int .i64 (iV (mx s 1)), .int .i64 (iV (mx s 2)), .int .i64 (iV (mx s 3)), .int .i64 (iV (mx s 4)), .int .i64 (iV (mx s 5)), .int .i64 (iV (mx s 6)), .int .i64 (iV (mx s 7)), .slice A (mn s).toNat c, .int .i64 (d.k), .int .i64 (d.s), .int .i64 (d.q), .string (d.nm), .int .i64 (d.n), .int .i64 (iV (my1 s)), .int .i64 (iV (my2 s)), .int .i64 (iV (my3 s)), .int .u64 (((uV (my4 s) : Nat) : Int)), .int .i64 (iV (my5 s)), .string (tV (my6 s))]) (star (rowP 54 7 (.slice A (mn s).toNat c) (mn s).toNat (ents (esOf (mx s 9) (mn s).toNat))) none_))) by ac_rfl)))
            have K9 := Lib.hid (hb _ (J9.out).below)
            go_wp2_with (refine wpList_store_row (by rfl) 79 (.tmp 2) (.tmp 113) (by rfl) w.heap.size zm (by rfl) (by rfl) 79 zm BB.out hi79 rfl zm_one ?_)
            refine bodyPost_ret (v := .tuple #[.agg zm, .int .i64 2]) (two_results (p := 2) (q := 3) (by rfl) (by rfl) (by rfl) (BB.out.setRow zm) hi79) rfl ?_
            exact dec_no E.out (K9.out.setRow (.inr (Nat.le_refl _)) zm)
    · have hsz2 : decide (524288 < (s.size : Int)) = true := decide_eq_true (by omega)
      have E := Lib.hid (show mOk s = false by unfold mOk; rw [decide_eq_false hsz]; rfl)
      have BB := Lib.hid (blk_atM (H9.out.perm (show _ = star (blkP w.heap.size 79 zm) (star (blkP (w.heap.size + 1) 44 (mx s 9).cs) (star (blkP g 79 #[.int .i64 (iV (mx s 0)), .int .i64 (iV (mx s 1)), .int .i64 (iV (mx s 2)), .int .i64 (iV (mx s 3)), .int .i64 (iV (mx s 4)), .int .i64 (iV (mx s 5)), .int .i64 (iV (mx s 6)), .int .i64 (iV (mx s 7)), .slice none 0 0, .int .i64 (0), .int .i64 (0), .int .i64 (0), .string (⟨#[]⟩), .int .i64 (0), .int .i64 (0), .int .i64 (0), .int .i64 (0), .int .u64 (0), .int .i64 (0), .string (⟨#[]⟩)]) none_)) by ac_rfl)))
      have K9 := Lib.hid (hb _ (H9.out).below)
      go_wp2_with (refine wpList_store_row (by rfl) 79 (.tmp 2) (.tmp 49) (by rfl) w.heap.size zm (by rfl) (by rfl) 79 zm BB.out hi79 rfl zm_one ?_)
      refine bodyPost_ret (v := .tuple #[.agg zm, .int .i64 2]) (two_results (p := 2) (q := 3) (by rfl) (by rfl) (by rfl) (BB.out.setRow zm) hi79) rfl ?_
      exact dec_no E.out (K9.out.setRow (.inr (Nat.le_refl _)) zm)
  · have hin : inB (mn s) 0 4096 = false := by unfold inB; exact decide_eq_false hn
    rw [hin]
    have E := Lib.hid (show mOk s = false by
      have : nOk s = false := by
        unfold nOk
        by_cases h0 : 0 ≤ mn s
        · rw [decide_eq_false (show ¬ mn s ≤ 4096 from fun h => hn ⟨h0, h⟩), Bool.and_false]
        · rw [decide_eq_false h0]; rfl
      unfold mOk
      rw [this]
      simp)
    clear hn hin
    have BB := Lib.hid (blk_atM (H9.out.perm (show _ = star (blkP w.heap.size 79 zm) (star (blkP (w.heap.size + 1) 44 (mx s 9).cs) (star (blkP g 79 #[.int .i64 (iV (mx s 0)), .int .i64 (iV (mx s 1)), .int .i64 (iV (mx s 2)), .int .i64 (iV (mx s 3)), .int .i64 (iV (mx s 4)), .int .i64 (iV (mx s 5)), .int .i64 (iV (mx s 6)), .int .i64 (iV (mx s 7)), .slice none 0 0, .int .i64 (0), .int .i64 (0), .int .i64 (0), .string (⟨#[]⟩), .int .i64 (0), .int .i64 (0), .int .i64 (0), .int .i64 (0), .int .u64 (0), .int .i64 (0), .string (⟨#[]⟩)]) none_)) by ac_rfl)))
    have K9 := Lib.hid (hb _ (H9.out).below)
    go_wp2_with (refine wpList_store_row (by rfl) 79 (.tmp 2) (.tmp 49) (by rfl) w.heap.size zm (by rfl) (by rfl) 79 zm BB.out hi79 rfl zm_one ?_)
    refine bodyPost_ret (v := .tuple #[.agg zm, .int .i64 2]) (two_results (p := 2) (q := 3) (by rfl) (by rfl) (by rfl) (BB.out.setRow zm) hi79) rfl ?_
    exact dec_no E.out (K9.out.setRow (.inr (Nat.le_refl _)) zm)
end Go.Proofs.Ytjojibgihoebaaa.A
