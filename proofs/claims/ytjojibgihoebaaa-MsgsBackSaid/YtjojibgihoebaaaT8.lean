/-
  The reference's Decode (printed by gen_t8.py).
-/
import Derived.Test.YtjojibgihoebaaaT7
namespace Go.Proofs.Ytjojibgihoebaaa.A
open Go.RowKit Go.Proofs.Ytjojibgihoebaaa.U
set_option linter.unusedVariables false
set_option linter.unusedSimpArgs false
set_option maxRecDepth 100000

set_option maxHeartbeats 6400000 in
theorem rdec_calls (w : World) (s : ByteArray) (hs : s.size ≤ 9223372036854775807) : Calls Try.prog 41 #[.string s] w (fun e w' => e = .returned (.tuple #[(decR s).val, .int .i64 (okF (decOk s))]) ∧ Keep Nothing w w') := by
  have hu := Try.underlying52
  have hb : ∀ w', Below w.heap.size w w' → Keep Nothing w w' := fun w' h => Keep.of_below h _
  have H0 := Lib.hid ((Holds.start w).newBlk none_stable 52 zcs)
  have SB := Lib.hid blkP_stable
  have SN := Lib.hid none_stable
  have hs3 := Nat.le_trans (dx3_size s) hs
  have X1 := Lib.hid (show uN ⟨s, false⟩ = dx1 s from rfl)
  have X2 := Lib.hid (show uN (dx1 s) = dx2 s from rfl)
  have X3 := Lib.hid (show uN (dx2 s) = dx3 s from rfl)
  have X4 := Lib.hid (show tN (dx3 s) = dx4 s from rfl)
  have X5 := Lib.hid (show uN (dx4 s) = dx5 s from rfl)
  have HM := Lib.hid (fun w => rmay_calls w (decC s))
  have OK := Lib.hid (show decOk s = (decide (dV (dx5 s) = 0) && mayB (decC s)) from rfl)
  have RR := Lib.hid (show decR s = if decOk s then decC s else zeroC from rfl)
  have DC := Lib.hid (show decC s = ⟨iV ⟨s, false⟩, iV (dx1 s), iV (dx2 s), tV (dx3 s), iV (dx4 s)⟩ from rfl)
  unfold maySpec at HM
  generalize hm : mayB (decC s) = m at HM OK
  clear hm
  rw [DC.out] at HM
  unfold Cmd.val Cmd.cs at HM
  go_enter Try.func41, Try.ntmps41
  have A1 := (show (w.alloc (.cells zcs 52)).heap.size = w.heap.size + 1 by simp)
  have A2 := (show ((w.alloc (.cells zcs 52)).alloc (.cells (Rd.mk s false).cs 44)).heap.size = w.heap.size + 1 + 1 by simp)
  have H1 := Lib.hid (show Holds w.heap.size w (((w.alloc (.cells zcs 52)).alloc (.cells (Rd.mk s false).cs 44)).alloc (.cells zcs 52)) (star (blkP (w.heap.size + 1) 44 (Rd.mk s false).cs) (star (blkP (w.heap.size + 1 + 1) 52 zcs) (star (blkP w.heap.size 52 zcs) none_))) by
    have h2 := H0.out.newBlk ((SB.out _ _ _).star SN.out) 44 (Rd.mk s false).cs
    rw [A1] at h2
    have h3 := h2.newBlk ((SB.out _ _ _).star ((SB.out _ _ _).star SN.out)) 52 zcs
    rw [A2] at h3
    exact Holds.second h3)
  clear A1 A2
  go_wp2_with fail
  refine (y_rdi H1.out ((SB.out _ _ _).star ((SB.out _ _ _).star SN.out))).mono ?_
  rintro e wa0 ⟨rfl, ha⟩
  rw [X1.out] at ha
  have Ha := Lib.hid ha
  clear ha
  have d := (blk_at Ha.out.drop).cell 0
  have f := (blk_at Ha.out.drop).free 0
  have Hb0 := Lib.hid (show Holds w.heap.size w (wa0.setCell ⟨w.heap.size + 1 + 1, 0, none⟩ (.int .i64 (iV ⟨s, false⟩))) (star (blkP (w.heap.size + 1) 44 (dx1 s).cs) (star (blkP (w.heap.size + 1 + 1) 52 #[.int .i64 (iV ⟨s, false⟩), .int .i64 0, .int .i64 0, .string ByteArray.empty, .int .i64 0]) (star (blkP w.heap.size 52 zcs) none_))) from
    Holds.second ((Holds.second Ha.out).setBlk ((SB.out _ _ _).star ((SB.out _ _ _).star SN.out)) 0 (.int .i64 (iV ⟨s, false⟩))))
  go_wp2_with fail
  clear d f Ha
  refine (y_rdi Hb0.out ((SB.out _ _ _).star ((SB.out _ _ _).star SN.out))).mono ?_
  rintro e wa1 ⟨rfl, ha⟩
  rw [X2.out] at ha
  have Ha := Lib.hid ha
  clear ha
  have d := (blk_at Ha.out.drop).cell 1
  have f := (blk_at Ha.out.drop).free 1
  have Hb1 := Lib.hid (show Holds w.heap.size w (wa1.setCell ⟨w.heap.size + 1 + 1, 1, none⟩ (.int .i64 (iV (dx1 s)))) (star (blkP (w.heap.size + 1) 44 (dx2 s).cs) (star (blkP (w.heap.size + 1 + 1) 52 #[.int .i64 (iV ⟨s, false⟩), .int .i64 (iV (dx1 s)), .int .i64 0, .string ByteArray.empty, .int .i64 0]) (star (blkP w.heap.size 52 zcs) none_))) from
    Holds.second ((Holds.second Ha.out).setBlk ((SB.out _ _ _).star ((SB.out _ _ _).star SN.out)) 1 (.int .i64 (iV (dx1 s)))))
  go_wp2_with fail
  clear d f Ha
  refine (y_rdi Hb1.out ((SB.out _ _ _).star ((SB.out _ _ _).star SN.out))).mono ?_
  rintro e wa2 ⟨rfl, ha⟩
  rw [X3.out] at ha
  have Ha := Lib.hid ha
  clear ha
  have d := (blk_at Ha.out.drop).cell 2
  have f := (blk_at Ha.out.drop).free 2
  have Hb2 := Lib.hid (show Holds w.heap.size w (wa2.setCell ⟨w.heap.size + 1 + 1, 2, none⟩ (.int .i64 (iV (dx2 s)))) (star (blkP (w.heap.size + 1) 44 (dx3 s).cs) (star (blkP (w.heap.size + 1 + 1) 52 #[.int .i64 (iV ⟨s, false⟩), .int .i64 (iV (dx1 s)), .int .i64 (iV (dx2 s)), .string ByteArray.empty, .int .i64 0]) (star (blkP w.heap.size 52 zcs) none_))) from
    Holds.second ((Holds.second Ha.out).setBlk ((SB.out _ _ _).star ((SB.out _ _ _).star SN.out)) 2 (.int .i64 (iV (dx2 s)))))
  go_wp2_with fail
  clear d f Ha
  refine (y_rdt Hb2.out ((SB.out _ _ _).star ((SB.out _ _ _).star SN.out)) hs3).mono ?_
  rintro e wa3 ⟨rfl, ha⟩
  rw [X4.out] at ha
  have Ha := Lib.hid ha
  clear ha
  have d := (blk_at Ha.out.drop).cell 3
  have f := (blk_at Ha.out.drop).free 3
  have Hb3 := Lib.hid (show Holds w.heap.size w (wa3.setCell ⟨w.heap.size + 1 + 1, 3, none⟩ (.string (tV (dx3 s)))) (star (blkP (w.heap.size + 1) 44 (dx4 s).cs) (star (blkP (w.heap.size + 1 + 1) 52 #[.int .i64 (iV ⟨s, false⟩), .int .i64 (iV (dx1 s)), .int .i64 (iV (dx2 s)), .string (tV (dx3 s)), .int .i64 0]) (star (blkP w.heap.size 52 zcs) none_))) from
    Holds.second ((Holds.second Ha.out).setBlk ((SB.out _ _ _).star ((SB.out _ _ _).star SN.out)) 3 (.string (tV (dx3 s)))))
  go_wp2_with fail
  clear d f Ha
  refine (y_rdi Hb3.out ((SB.out _ _ _).star ((SB.out _ _ _).star SN.out))).mono ?_
  rintro e wa4 ⟨rfl, ha⟩
  rw [X5.out] at ha
  have Ha := Lib.hid ha
  clear ha
  have d := (blk_at Ha.out.drop).cell 4
  have f := (blk_at Ha.out.drop).free 4
  have Hb4 := Lib.hid (show Holds w.heap.size w (wa4.setCell ⟨w.heap.size + 1 + 1, 4, none⟩ (.int .i64 (iV (dx4 s)))) (star (blkP (w.heap.size + 1) 44 (dx5 s).cs) (star (blkP (w.heap.size + 1 + 1) 52 #[.int .i64 (iV ⟨s, false⟩), .int .i64 (iV (dx1 s)), .int .i64 (iV (dx2 s)), .string (tV (dx3 s)), .int .i64 (iV (dx4 s))]) (star (blkP w.heap.size 52 zcs) none_))) from
    Holds.second ((Holds.second Ha.out).setBlk ((SB.out _ _ _).star ((SB.out _ _ _).star SN.out)) 4 (.int .i64 (iV (dx4 s)))))
  go_wp2_with fail
  clear d f Ha
  refine (y_rdd Hb4.out).mono ?_
  rintro e w12 ⟨rfl, rfl⟩
  have c0 := (blk_at Hb4.out.drop).cell 0
  have c1 := (blk_at Hb4.out.drop).cell 1
  have c2 := (blk_at Hb4.out.drop).cell 2
  have c3 := (blk_at Hb4.out.drop).cell 3
  have c4 := (blk_at Hb4.out.drop).cell 4
  generalize hwW : wa4.setCell ⟨w.heap.size + 1 + 1, 4, none⟩ (.int .i64 (iV (dx4 s))) = wW at *
  rcases hd : decide (dV (dx5 s) = 0) with _ | _
  · rw [hd] at OK
    have hd' := of_decide_eq_false hd
    clear hd
    have dn : dV (dx5 s) = 2 := dV_two hd'
    rw [dn]
    clear hd' dn
    obtain ⟨r0, f0, r1, f1, r2, f2, r3, f3, r4, f4, q0, q1, q2, q3, q4, p0, p1, p2, p3⟩ := store5 (blk_at Hb4.out.drop.drop) (.int .i64 0) (.int .i64 0) (.int .i64 0) (.string ⟨#[]⟩) (.int .i64 0)
    have L := Lib.hid (below5 Hb4.out.drop.drop SN.out (.int .i64 0) (.int .i64 0) (.int .i64 0) (.string ⟨#[]⟩) (.int .i64 0))
    go_wp2_with fail
    refine bodyPost_ret (v := .tuple #[.agg zcs, .int .i64 2]) (by simp [results, Try.results41, go_sem, hu, p0, p1, p2, p3, q0, q1, q2, q3, q4]; rfl) rfl ?_
    have OF : decOk s = false := by rw [OK.out]; rfl
    exact ⟨by rw [RR.out, OF]; rfl, hb _ L.out⟩
  · rw [hd] at OK
    have hd' : dV (dx5 s) = 0 := of_decide_eq_true hd
    rw [hd']
    clear hd hd'
    go_wp2_with fail
    refine (HM.out _).mono ?_
    rintro e w12 ⟨rfl, hk⟩
    have H12 := Lib.hid (Hb4.out.kept ((SB.out _ _ _).star ((SB.out _ _ _).star ((SB.out _ _ _).star SN.out))) hk)
    clear hk
    cases m with
    | false =>
      obtain ⟨r0, f0, r1, f1, r2, f2, r3, f3, r4, f4, q0, q1, q2, q3, q4, p0, p1, p2, p3⟩ := store5 (blk_at H12.out.drop.drop) (.int .i64 0) (.int .i64 0) (.int .i64 0) (.string ⟨#[]⟩) (.int .i64 0)
      have L := Lib.hid (below5 H12.out.drop.drop SN.out (.int .i64 0) (.int .i64 0) (.int .i64 0) (.string ⟨#[]⟩) (.int .i64 0))
      go_wp2_with fail
      refine bodyPost_ret (v := .tuple #[.agg zcs, .int .i64 2]) (by simp [results, Try.results41, go_sem, hu, p0, p1, p2, p3, q0, q1, q2, q3, q4]; rfl) rfl ?_
      have OF : decOk s = false := by rw [OK.out]; rfl
      exact ⟨by rw [RR.out, OF]; rfl, hb _ L.out⟩
    | true =>
      have c0 := (blk_at H12.out.drop).cell 0
      have c1 := (blk_at H12.out.drop).cell 1
      have c2 := (blk_at H12.out.drop).cell 2
      have c3 := (blk_at H12.out.drop).cell 3
      have c4 := (blk_at H12.out.drop).cell 4
      obtain ⟨r0, f0, r1, f1, r2, f2, r3, f3, r4, f4, q0, q1, q2, q3, q4, p0, p1, p2, p3⟩ := store5 (blk_at H12.out.drop.drop) (.int .i64 (iV ⟨s, false⟩)) (.int .i64 (iV (dx1 s))) (.int .i64 (iV (dx2 s))) (.string (tV (dx3 s))) (.int .i64 (iV (dx4 s)))
      have L := Lib.hid (below5 H12.out.drop.drop SN.out (.int .i64 (iV ⟨s, false⟩)) (.int .i64 (iV (dx1 s))) (.int .i64 (iV (dx2 s))) (.string (tV (dx3 s))) (.int .i64 (iV (dx4 s))))
      go_wp2_with fail
      refine bodyPost_ret (v := .tuple #[(decC s).val, .int .i64 0]) (by simp [results, Try.results41, go_sem, hu, decC, Cmd.val, Cmd.cs, p0, p1, p2, p3, q0, q1, q2, q3, q4]) rfl ?_
      have OF : decOk s = true := by rw [OK.out]; rfl
      exact ⟨by rw [RR.out, OF]; rfl, hb _ L.out⟩
end Go.Proofs.Ytjojibgihoebaaa.A
