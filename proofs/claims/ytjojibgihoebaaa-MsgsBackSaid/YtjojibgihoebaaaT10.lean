/-
  The reference's DecodeEntry (printed by gen_t10.py).
-/
import Derived.Test.YtjojibgihoebaaaT9
namespace Go.Proofs.Ytjojibgihoebaaa.A
open Go.RowKit Go.Proofs.Ytjojibgihoebaaa.U
set_option linter.unusedVariables false
set_option linter.unusedSimpArgs false
set_option maxRecDepth 100000

set_option maxHeartbeats 6400000 in
theorem redec_calls (w : World) (s : ByteArray) (hs : s.size ≤ 9223372036854775807) : Calls Try.prog 43 #[.string s] w (fun e w' => e = .returned (.tuple #[(eR s).val, .int .i64 (okF (eOk s))]) ∧ Keep Nothing w w') := by
  have hu := Try.underlying54
  have hu2 := Try.underlying52
  have hb : ∀ w', Below w.heap.size w w' → Keep Nothing w w' := fun w' h => Keep.of_below h _
  have H0 := Lib.hid ((Holds.start w).newBlk none_stable 54 zes)
  have SB := Lib.hid blkP_stable
  have SN := Lib.hid none_stable
  have hs3 := Nat.le_trans (fx2_size s) hs
  have X1 := Lib.hid (show uN ⟨s, false⟩ = fx1 s from rfl)
  have X2 := Lib.hid (show uN (fx1 s) = fx2 s from rfl)
  have X3 := Lib.hid (show tN (fx2 s) = fx3 s from rfl)
  have DT := Lib.hid (show tV (fx2 s) = decT s from rfl)
  have HD := Lib.hid (fun w => rdec_calls w (decT s) (tV_size _))
  have RR := Lib.hid (show eR s = if eOk s then decE s else zeroE from rfl)
  obtain ⟨c, hc⟩ : ∃ c, decR (decT s) = c := ⟨_, rfl⟩
  have DE := Lib.hid (show decE s = ⟨iV ⟨s, false⟩, iV (fx1 s), c⟩ from by unfold decE; rw [hc])
  rw [hc] at HD
  have HE := Lib.hid (fun w => rentry_calls w (decE s))
  have OK := Lib.hid (show eOk s = (decOk (decT s) && decide (dV (fx3 s) = 0) && entB (decE s)) from rfl)
  generalize hm : entB (decE s) = m at HE OK
  generalize hg : decOk (decT s) = g at HD OK
  clear hm hg hc
  rw [DE.out] at HE
  unfold Ent.val at HE
  unfold Cmd.val Cmd.cs at HD
  go_enter Try.func43, Try.ntmps43
  have A1 := (show (w.alloc (.cells zes 54)).heap.size = w.heap.size + 1 by simp)
  have A2 := (show ((w.alloc (.cells zes 54)).alloc (.cells (Rd.mk s false).cs 44)).heap.size = w.heap.size + 1 + 1 by simp)
  have H1 := Lib.hid (show Holds w.heap.size w (((w.alloc (.cells zes 54)).alloc (.cells (Rd.mk s false).cs 44)).alloc (.cells zes 54)) (star (blkP (w.heap.size + 1) 44 (Rd.mk s false).cs) (star (blkP (w.heap.size + 1 + 1) 54 zes) (star (blkP w.heap.size 54 zes) none_))) by
    have h2 := H0.out.newBlk ((SB.out _ _ _).star SN.out) 44 (Rd.mk s false).cs
    rw [A1] at h2
    have h3 := h2.newBlk ((SB.out _ _ _).star ((SB.out _ _ _).star SN.out)) 54 zes
    rw [A2] at h3
    exact Holds.second h3)
  clear A1 A2
  go_wp2_with fail
  refine (y_rdi H1.out ((SB.out _ _ _).star ((SB.out _ _ _).star SN.out))).mono ?_
  rintro e wa0 ⟨rfl, ha⟩
  rw [X1.out] at ha
  have Ha := Lib.hid ha
  clear ha
  have d := (blk_at Ha.out.drop).cell 0
  have f := (blk_at Ha.out.drop).free 0
  have Hb0 := Lib.hid (show Holds w.heap.size w (wa0.setCell ⟨w.heap.size + 1 + 1, 0, none⟩ (.int .i64 (iV ⟨s, false⟩))) (star (blkP (w.heap.size + 1) 44 (fx1 s).cs) (star (blkP (w.heap.size + 1 + 1) 54 #[.int .i64 (iV ⟨s, false⟩), .int .i64 0, .int .i64 0, .int .i64 0, .int .i64 0, .string ByteArray.empty, .int .i64 0]) (star (blkP w.heap.size 54 zes) none_))) from
    Holds.second ((Holds.second Ha.out).setBlk ((SB.out _ _ _).star ((SB.out _ _ _).star SN.out)) 0 (.int .i64 (iV ⟨s, false⟩))))
  go_wp2_with fail
  clear d f Ha
  refine (y_rdi Hb0.out ((SB.out _ _ _).star ((SB.out _ _ _).star SN.out))).mono ?_
  rintro e wa1 ⟨rfl, ha⟩
  rw [X2.out] at ha
  have Ha := Lib.hid ha
  clear ha
  have d := (blk_at Ha.out.drop).cell 1
  have f := (blk_at Ha.out.drop).free 1
  have Hb1 := Lib.hid (show Holds w.heap.size w (wa1.setCell ⟨w.heap.size + 1 + 1, 1, none⟩ (.int .i64 (iV (fx1 s)))) (star (blkP (w.heap.size + 1) 44 (fx2 s).cs) (star (blkP (w.heap.size + 1 + 1) 54 #[.int .i64 (iV ⟨s, false⟩), .int .i64 (iV (fx1 s)), .int .i64 0, .int .i64 0, .int .i64 0, .string ByteArray.empty, .int .i64 0]) (star (blkP w.heap.size 54 zes) none_))) from
    Holds.second ((Holds.second Ha.out).setBlk ((SB.out _ _ _).star ((SB.out _ _ _).star SN.out)) 1 (.int .i64 (iV (fx1 s)))))
  go_wp2_with fail
  clear d f Ha
  refine (y_rdt Hb1.out ((SB.out _ _ _).star ((SB.out _ _ _).star SN.out)) hs3).mono ?_
  rintro e w6 ⟨rfl, h6⟩
  rw [X3.out] at h6
  have H6 := Lib.hid h6
  clear h6
  rw [DT.out]
  go_wp2_with fail
  refine (HD.out _).mono ?_
  rintro e w7 ⟨rfl, hk⟩
  have H7 := Lib.hid ((H6.out.kept ((SB.out _ _ _).star ((SB.out _ _ _).star ((SB.out _ _ _).star SN.out))) hk).alloc ((SB.out _ _ _).star ((SB.out _ _ _).star ((SB.out _ _ _).star SN.out))) (.cells #[.int .i64 c.k, .int .i64 c.s, .int .i64 c.q, .string c.nm, .int .i64 c.n] 52))
  clear hk
  obtain ⟨r2, f2, r3, f3, r4, f4, r5, f5, r6, f6⟩ := store75 (blk_at H7.out.drop) (.int .i64 c.k) (.int .i64 c.s) (.int .i64 c.q) (.string c.nm) (.int .i64 c.n)
  have H8 := Lib.hid (Holds.second (held75 (Holds.second H7.out) ((SB.out _ _ _).star ((SB.out _ _ _).star SN.out)) (.int .i64 c.k) (.int .i64 c.s) (.int .i64 c.q) (.string c.nm) (.int .i64 c.n)))
  go_wp2_with fail
  clear r2 f2 r3 f3 r4 f4 r5 f5 r6 f6
  refine (y_rdd H8.out).mono ?_
  rintro e w12 ⟨rfl, rfl⟩
  have c0 := (blk_at H8.out.drop).cell 0
  have c1 := (blk_at H8.out.drop).cell 1
  have c2 := (blk_at H8.out.drop).cell 2
  have c3 := (blk_at H8.out.drop).cell 3
  have c4 := (blk_at H8.out.drop).cell 4
  have c5 := (blk_at H8.out.drop).cell 5
  have c6 := (blk_at H8.out.drop).cell 6
  generalize hwW : ((((((w7.alloc (.cells #[.int .i64 c.k, .int .i64 c.s, .int .i64 c.q, .string c.nm, .int .i64 c.n] 52)).setCell ⟨w.heap.size + 1 + 1, 2, none⟩ (.int .i64 c.k)).setCell ⟨w.heap.size + 1 + 1, 3, none⟩ (.int .i64 c.s)).setCell ⟨w.heap.size + 1 + 1, 4, none⟩ (.int .i64 c.q)).setCell ⟨w.heap.size + 1 + 1, 5, none⟩ (.string c.nm)).setCell ⟨w.heap.size + 1 + 1, 6, none⟩ (.int .i64 c.n)) = wW at *
  rcases hd : decide (dV (fx3 s) = 0) with _ | _
  · rw [hd] at OK
    have hd' := of_decide_eq_false hd
    clear hd
    have dn : dV (fx3 s) = 2 := dV_two hd'
    rw [dn]
    clear hd' dn
    obtain ⟨r0, f0, r1, f1, r2, f2, r3, f3, r4, f4, r5, f5, r6, f6, q0, q1, q2, q3, q4, q5, q6, p0, p1, p2, p3, p4, p5⟩ := store7 (blk_at H8.out.drop.drop) (.int .i64 0) (.int .i64 0) (.int .i64 0) (.int .i64 0) (.int .i64 0) (.string ⟨#[]⟩) (.int .i64 0)
    have L := Lib.hid (below7 H8.out.drop.drop SN.out (.int .i64 0) (.int .i64 0) (.int .i64 0) (.int .i64 0) (.int .i64 0) (.string ⟨#[]⟩) (.int .i64 0))
    go_wp2_with fail
    refine bodyPost_ret (v := .tuple #[.agg zes, .int .i64 2]) (by simp [results, Try.results43, go_sem, hu, hu2, p0, p1, p2, p3, p4, p5, q0, q1, q2, q3, q4, q5, q6]; rfl) rfl ?_
    have OF : eOk s = false := by rw [OK.out]; simp
    exact ⟨by rw [RR.out, OF]; rfl, hb _ L.out⟩
  · rw [hd] at OK
    have hd' : dV (fx3 s) = 0 := of_decide_eq_true hd
    rw [hd']
    clear hd hd'
    cases g with
    | false =>
      have o2 : okF false = 2 := rfl
      rw [o2]
      clear o2
      obtain ⟨r0, f0, r1, f1, r2, f2, r3, f3, r4, f4, r5, f5, r6, f6, q0, q1, q2, q3, q4, q5, q6, p0, p1, p2, p3, p4, p5⟩ := store7 (blk_at H8.out.drop.drop) (.int .i64 0) (.int .i64 0) (.int .i64 0) (.int .i64 0) (.int .i64 0) (.string ⟨#[]⟩) (.int .i64 0)
      have L := Lib.hid (below7 H8.out.drop.drop SN.out (.int .i64 0) (.int .i64 0) (.int .i64 0) (.int .i64 0) (.int .i64 0) (.string ⟨#[]⟩) (.int .i64 0))
      go_wp2_with fail
      refine bodyPost_ret (v := .tuple #[.agg zes, .int .i64 2]) (by simp [results, Try.results43, go_sem, hu, hu2, p0, p1, p2, p3, p4, p5, q0, q1, q2, q3, q4, q5, q6]; rfl) rfl ?_
      have OF : eOk s = false := by rw [OK.out]; simp
      exact ⟨by rw [RR.out, OF]; rfl, hb _ L.out⟩
    | true =>
      have o2 : okF true = 0 := rfl
      rw [o2]
      clear o2
      go_wp2_with fail
      refine (HE.out _).mono ?_
      rintro e w13 ⟨rfl, hk⟩
      have H12 := Lib.hid (H8.out.kept ((SB.out _ _ _).star ((SB.out _ _ _).star ((SB.out _ _ _).star SN.out))) hk)
      clear hk
      cases m with
      | false =>
        obtain ⟨r0, f0, r1, f1, r2, f2, r3, f3, r4, f4, r5, f5, r6, f6, q0, q1, q2, q3, q4, q5, q6, p0, p1, p2, p3, p4, p5⟩ := store7 (blk_at H12.out.drop.drop) (.int .i64 0) (.int .i64 0) (.int .i64 0) (.int .i64 0) (.int .i64 0) (.string ⟨#[]⟩) (.int .i64 0)
        have L := Lib.hid (below7 H12.out.drop.drop SN.out (.int .i64 0) (.int .i64 0) (.int .i64 0) (.int .i64 0) (.int .i64 0) (.string ⟨#[]⟩) (.int .i64 0))
        go_wp2_with fail
        refine bodyPost_ret (v := .tuple #[.agg zes, .int .i64 2]) (by simp [results, Try.results43, go_sem, hu, hu2, p0, p1, p2, p3, p4, p5, q0, q1, q2, q3, q4, q5, q6]; rfl) rfl ?_
        have OF : eOk s = false := by rw [OK.out]; simp
        exact ⟨by rw [RR.out, OF]; rfl, hb _ L.out⟩
      | true =>
        have c0 := (blk_at H12.out.drop).cell 0
        have c1 := (blk_at H12.out.drop).cell 1
        have c2 := (blk_at H12.out.drop).cell 2
        have c3 := (blk_at H12.out.drop).cell 3
        have c4 := (blk_at H12.out.drop).cell 4
        have c5 := (blk_at H12.out.drop).cell 5
        have c6 := (blk_at H12.out.drop).cell 6
        obtain ⟨r0, f0, r1, f1, r2, f2, r3, f3, r4, f4, r5, f5, r6, f6, q0, q1, q2, q3, q4, q5, q6, p0, p1, p2, p3, p4, p5⟩ := store7 (blk_at H12.out.drop.drop) (.int .i64 (iV ⟨s, false⟩)) (.int .i64 (iV (fx1 s))) (.int .i64 c.k) (.int .i64 c.s) (.int .i64 c.q) (.string c.nm) (.int .i64 c.n)
        have L := Lib.hid (below7 H12.out.drop.drop SN.out (.int .i64 (iV ⟨s, false⟩)) (.int .i64 (iV (fx1 s))) (.int .i64 c.k) (.int .i64 c.s) (.int .i64 c.q) (.string c.nm) (.int .i64 c.n))
        go_wp2_with fail
        refine bodyPost_ret (v := .tuple #[(decE s).val, .int .i64 0]) (by rw [DE.out]; simp [results, Try.results43, go_sem, hu, hu2, Ent.val, p0, p1, p2, p3, p4, p5, q0, q1, q2, q3, q4, q5, q6]) rfl ?_
        have OF : eOk s = true := by rw [OK.out]; simp
        exact ⟨by rw [RR.out, OF]; rfl, hb _ L.out⟩
end Go.Proofs.Ytjojibgihoebaaa.A
