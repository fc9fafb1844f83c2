/-
  DecodeEntry (printed by gen_t9.py).
-/
import Derived.Test.YtjojibgihoebaaaT8
namespace Go.Proofs.Ytjojibgihoebaaa.A
open Go.RowKit Go.Proofs.Ytjojibgihoebaaa.U
set_option linter.unusedVariables false
set_option linter.unusedSimpArgs false
set_option maxRecDepth 100000

theorem store75 {w : World} {g t : Nat} {c0 c1 c2 c3 c4 c5 c6 : Value} (B : Blk w g t #[c0, c1, c2, c3, c4, c5, c6]) (v2 v3 v4 v5 v6 : Value) :
    w.cell? ⟨g, 2, none⟩ = some c2 ∧
    w.frozen? ⟨g, 2, none⟩ = false ∧
    (w.setCell ⟨g, 2, none⟩ v2).cell? ⟨g, 3, none⟩ = some c3 ∧
    (w.setCell ⟨g, 2, none⟩ v2).frozen? ⟨g, 3, none⟩ = false ∧
    ((w.setCell ⟨g, 2, none⟩ v2).setCell ⟨g, 3, none⟩ v3).cell? ⟨g, 4, none⟩ = some c4 ∧
    ((w.setCell ⟨g, 2, none⟩ v2).setCell ⟨g, 3, none⟩ v3).frozen? ⟨g, 4, none⟩ = false ∧
    (((w.setCell ⟨g, 2, none⟩ v2).setCell ⟨g, 3, none⟩ v3).setCell ⟨g, 4, none⟩ v4).cell? ⟨g, 5, none⟩ = some c5 ∧
    (((w.setCell ⟨g, 2, none⟩ v2).setCell ⟨g, 3, none⟩ v3).setCell ⟨g, 4, none⟩ v4).frozen? ⟨g, 5, none⟩ = false ∧
    ((((w.setCell ⟨g, 2, none⟩ v2).setCell ⟨g, 3, none⟩ v3).setCell ⟨g, 4, none⟩ v4).setCell ⟨g, 5, none⟩ v5).cell? ⟨g, 6, none⟩ = some c6 ∧
    ((((w.setCell ⟨g, 2, none⟩ v2).setCell ⟨g, 3, none⟩ v3).setCell ⟨g, 4, none⟩ v4).setCell ⟨g, 5, none⟩ v5).frozen? ⟨g, 6, none⟩ = false := by
  have B2 := B
  have B3 : Blk (w.setCell ⟨g, 2, none⟩ v2) g t #[c0, c1, v2, c3, c4, c5, c6] := B2.put 2 v2
  have B4 : Blk ((w.setCell ⟨g, 2, none⟩ v2).setCell ⟨g, 3, none⟩ v3) g t #[c0, c1, v2, v3, c4, c5, c6] := B3.put 3 v3
  have B5 : Blk (((w.setCell ⟨g, 2, none⟩ v2).setCell ⟨g, 3, none⟩ v3).setCell ⟨g, 4, none⟩ v4) g t #[c0, c1, v2, v3, v4, c5, c6] := B4.put 4 v4
  have B6 : Blk ((((w.setCell ⟨g, 2, none⟩ v2).setCell ⟨g, 3, none⟩ v3).setCell ⟨g, 4, none⟩ v4).setCell ⟨g, 5, none⟩ v5) g t #[c0, c1, v2, v3, v4, v5, c6] := B5.put 5 v5
  have B7 : Blk (((((w.setCell ⟨g, 2, none⟩ v2).setCell ⟨g, 3, none⟩ v3).setCell ⟨g, 4, none⟩ v4).setCell ⟨g, 5, none⟩ v5).setCell ⟨g, 6, none⟩ v6) g t #[c0, c1, v2, v3, v4, v5, v6] := B6.put 6 v6
  exact ⟨B2.cell 2, B2.free 2, B3.cell 3, B3.free 3, B4.cell 4, B4.free 4, B5.cell 5, B5.free 5, B6.cell 6, B6.free 6⟩
theorem held75 {B : Nat} {w0 w : World} {Q : SP} {g t : Nat} {c0 c1 c2 c3 c4 c5 c6 : Value} (h : Holds B w0 w (star (blkP g t #[c0, c1, c2, c3, c4, c5, c6]) Q)) (hQ : Stable Q) (v2 v3 v4 v5 v6 : Value) : Holds B w0 (((((w.setCell ⟨g, 2, none⟩ v2).setCell ⟨g, 3, none⟩ v3).setCell ⟨g, 4, none⟩ v4).setCell ⟨g, 5, none⟩ v5).setCell ⟨g, 6, none⟩ v6) (star (blkP g t #[c0, c1, v2, v3, v4, v5, v6]) Q) := by
  exact (((((h.setBlk hQ 2 v2).setBlk hQ 3 v3).setBlk hQ 4 v4).setBlk hQ 5 v5).setBlk hQ 6 v6)
def fx1 (s : ByteArray) : Rd := uN ⟨s, false⟩
def fx2 (s : ByteArray) : Rd := uN (fx1 s)
def fx3 (s : ByteArray) : Rd := tN (fx2 s)
def decT (s : ByteArray) : ByteArray := tV (fx2 s)
def decE (s : ByteArray) : Ent := ⟨iV ⟨s, false⟩, iV (fx1 s), decR (decT s)⟩
def eOk (s : ByteArray) : Bool := decOk (decT s) && decide (dV (fx3 s) = 0) && entB (decE s)
def zeroE : Ent := ⟨0, 0, zeroC⟩
def eR (s : ByteArray) : Ent := if eOk s then decE s else zeroE
theorem fx2_size (s : ByteArray) : (fx2 s).s.size ≤ s.size := Nat.le_trans (uN_size _) (uN_size _)
theorem tV_size (x : Rd) : (tV x).size ≤ 9223372036854775807 := by
  unfold tV
  split
  · decide
  · split
    · decide
    · rename_i h1 h2
      have : (tV x).size ≤ 524288 := by
        unfold tV
        rw [if_neg h1, if_neg h2, ByteArray.size_extract]
        unfold tooBig at h2
        omega
      unfold tV at this
      rw [if_neg h1, if_neg h2] at this
      omega
abbrev zes : Array Value := #[.int .i64 0, .int .i64 0, .int .i64 0, .int .i64 0, .int .i64 0, .string ByteArray.empty, .int .i64 0]
set_option maxHeartbeats 6400000 in
theorem edec_calls (w : World) (s : ByteArray) (hs : s.size ≤ 9223372036854775807) : Calls Try.prog 42 #[.string s] w (fun e w' => e = .returned (.tuple #[(eR s).val, .int .i64 (okF (eOk s))]) ∧ Keep Nothing w w') := by
  have hu := Try.underlying54
  have hu2 := Try.underlying52
  have hb : ∀ w', Below w.heap.size w w' → Keep Nothing w w' := fun w' h => Keep.of_below h _
  have H0 := Lib.hid ((Holds.start w).newBlk none_stable 54 zes)
  have SB := Lib.hid blkP_stable
  have SN := Lib.hid none_stable
  have hs3 := Nat.le_trans (fx2_size s) hs
  have X1 := Lib.hid (show uN ⟨s, false⟩ = fx1 s from rfl)
  have X2 := Lib.hid (show uN (fx1 s) = fx2 s from rfl)
  have X3 := Lib.hid (show tN (fx2 s) = fx3 s from rfl)
  have DT := Lib.hid (show tV (fx2 s) = decT s from rfl)
  have HD := Lib.hid (fun w => dec_calls w (decT s) (tV_size _))
  have RR := Lib.hid (show eR s = if eOk s then decE s else zeroE from rfl)
  obtain ⟨c, hc⟩ : ∃ c, decR (decT s) = c := ⟨_, rfl⟩
  have DE := Lib.hid (show decE s = ⟨iV ⟨s, false⟩, iV (fx1 s), c⟩ from by unfold decE; rw [hc])
  rw [hc] at HD
  have HE := Lib.hid (fun w => entry_calls w (decE s))
  have OK := Lib.hid (show eOk s = (decOk (decT s) && decide (dV (fx3 s) = 0) && entB (decE s)) from rfl)
  generalize hm : entB (decE s) = m at HE OK
  generalize hg : decOk (decT s) = g at HD OK
  clear hm hg hc
  rw [DE.out] at HE
  unfold Ent.val at HE
  unfold Cmd.val Cmd.cs at HD
  go_enter Try.func42, Try.ntmps42
  go_wp2_with fail
  refine (of_calls _ _).mono ?_
  rintro e w1 ⟨rfl, hw1⟩
  have H1 := Lib.hid (show Holds w.heap.size w w1 (star (blkP (w.heap.size + 1) 97 (Rd.mk s false).cs) (star (blkP w.heap.size 54 zes) none_)) by
    rw [hw1]
    have := H0.out.newBlk ((SB.out _ _ _).star SN.out) 97 (Rd.mk s false).cs
    rw [show (w.alloc (.cells zes 54)).heap.size = w.heap.size + 1 by simp] at this
    exact this)
  clear hw1
  go_wp2_with fail
  refine (x_rdi H1.out ((SB.out _ _ _).star SN.out)).mono ?_
  rintro e w2 ⟨rfl, h2⟩
  rw [X1.out] at h2
  have H3 := Lib.hid (Holds.second (h2.newBlk ((SB.out _ _ _).star ((SB.out _ _ _).star SN.out)) 54 #[.int .i64 (iV ⟨s, false⟩), .int .i64 0, .int .i64 0, .int .i64 0, .int .i64 0, .string ByteArray.empty, .int .i64 0]))
  clear h2
  go_wp2_with fail
  refine (x_rdi H3.out ((SB.out _ _ _).star ((SB.out _ _ _).star SN.out))).mono ?_
  rintro e w3 ⟨rfl, h3⟩
  rw [X2.out] at h3
  have H4 := Lib.hid h3
  clear h3
  have d := (blk_at H4.out.drop).cell 1
  have f := (blk_at H4.out.drop).free 1
  have H5 := Lib.hid (show Holds w.heap.size w (w3.setCell ⟨w2.heap.size, 1, none⟩ (.int .i64 (iV (fx1 s)))) (star (blkP (w.heap.size + 1) 97 (fx2 s).cs) (star (blkP w2.heap.size 54 #[.int .i64 (iV ⟨s, false⟩), .int .i64 (iV (fx1 s)), .int .i64 0, .int .i64 0, .int .i64 0, .string ByteArray.empty, .int .i64 0]) (star (blkP w.heap.size 54 zes) none_))) from
    Holds.second ((Holds.second H4.out).setBlk ((SB.out _ _ _).star ((SB.out _ _ _).star SN.out)) 1 (.int .i64 (iV (fx1 s)))))
  go_wp2_with fail
  clear d f
  refine (x_rdt H5.out ((SB.out _ _ _).star ((SB.out _ _ _).star SN.out)) hs3).mono ?_
  rintro e w6 ⟨rfl, h6⟩
  rw [X3.out] at h6
  have H6 := Lib.hid h6
  clear h6
  rw [DT.out]
  go_wp2_with fail
  refine (HD.out _).mono ?_
  rintro e w7 ⟨rfl, hk⟩
  have H7 := Lib.hid ((H6.out.kept ((SB.out _ _ _).star ((SB.out _ _ _).star ((SB.out _ _ _).star SN.out))) hk).alloc ((SB.out _ _ _).star ((SB.out _ _ _).star ((SB.out _ _ _).star SN.out))) (.cells #[.int .i64 c.k, .int .i64 c.s, .int .i64 c.q, .string c.nm, .int .i64 c.n] 52))
  clear hk
  obtain ⟨r2, f2, r3, f3, r4, f4, r5, f5, r6, f6⟩ := store75 (blk_at H7.out.drop) (.int .i64 c.k) (.int .i64 c.s) (.int .i64 c.q) (.string c.nm) (.int .i64 c.n)
  have H8 := Lib.hid (Holds.second (held75 (Holds.second H7.out) ((SB.out _ _ _).star ((SB.out _ _ _).star SN.out)) (.int .i64 c.k) (.int .i64 c.s) (.int .i64 c.q) (.string c.nm) (.int .i64 c.n)))
  cases g with
  | false =>
    have o2 : okF false = 2 := rfl
    rw [o2]
    clear o2
    obtain ⟨r0, f0, r1, f1, r2, f2, r3, f3, r4, f4, r5, f5, r6, f6, q0, q1, q2, q3, q4, q5, q6, p0, p1, p2, p3, p4, p5⟩ := store7 (blk_at H8.out.drop.drop) (.int .i64 0) (.int .i64 0) (.int .i64 0) (.int .i64 0) (.int .i64 0) (.string ⟨#[]⟩) (.int .i64 0)
    have L := Lib.hid (below7 H8.out.drop.drop SN.out (.int .i64 0) (.int .i64 0) (.int .i64 0) (.int .i64 0) (.int .i64 0) (.string ⟨#[]⟩) (.int .i64 0))
    go_wp2_with fail
    refine bodyPost_ret (v := .tuple #[.agg zes, .int .i64 2]) (by simp [results, Try.results42, go_sem, hu, hu2, p0, p1, p2, p3, p4, p5, q0, q1, q2, q3, q4, q5, q6]; rfl) rfl ?_
    have OF : eOk s = false := by rw [OK.out]; rfl
    exact ⟨by rw [RR.out, OF]; rfl, hb _ L.out⟩
  | true =>
    have o2 : okF true = 0 := rfl
    rw [o2]
    clear o2
    go_wp2_with fail
    clear r2 f2 r3 f3 r4 f4 r5 f5 r6 f6
    refine (x_rdd H8.out).mono ?_
    rintro e w12 ⟨rfl, rfl⟩
    have c0 := (blk_at H8.out.drop).cell 0
    have c1 := (blk_at H8.out.drop).cell 1
    have c2 := (blk_at H8.out.drop).cell 2
    have c3 := (blk_at H8.out.drop).cell 3
    have c4 := (blk_at H8.out.drop).cell 4
    have c5 := (blk_at H8.out.drop).cell 5
    have c6 := (blk_at H8.out.drop).cell 6
    generalize hwW : (((((w7.alloc (.cells #[.int .i64 c.k, .int .i64 c.s, .int .i64 c.q, .string c.nm, .int .i64 c.n] 52)).setCell ⟨w2.heap.size, 2, none⟩ (.int .i64 c.k)).setCell ⟨w2.heap.size, 3, none⟩ (.int .i64 c.s)).setCell ⟨w2.heap.size, 4, none⟩ (.int .i64 c.q)).setCell ⟨w2.heap.size, 5, none⟩ (.string c.nm)).setCell ⟨w2.heap.size, 6, none⟩ (.int .i64 c.n) = wW at *
    rcases hd : decide (dV (fx3 s) = 0) with _ | _
    · rw [hd] at OK
      have hd' := of_decide_eq_false hd
      clear hd
      have dn : dV (fx3 s) = 2 := dV_two hd'
      rw [dn]
      clear hd' dn
      obtain ⟨r0, f0, r1, f1, r2, f2, r3, f3, r4, f4, r5, f5, r6, f6, q0, q1, q2, q3, q4, q5, q6, p0, p1, p2, p3, p4, p5⟩ := store7 (blk_at H8.out.drop.drop) (.int .i64 0) (.int .i64 0) (.int .i64 0) (.int .i64 0) (.int .i64 0) (.string ⟨#[]⟩) (.int .i64 0)
      have L := Lib.hid (below7 H8.out.drop.drop SN.out (.int .i64 0) (.int .i64 0) (.int .i64 0) (.int .i64 0) (.int .i64 0) (.string ⟨#[]⟩) (.int .i64 0))
      go_wp2_with fail
      refine bodyPost_ret (v := .tuple #[.agg zes, .int .i64 2]) (by simp [results, Try.results42, go_sem, hu, hu2, p0, p1, p2, p3, p4, p5, q0, q1, q2, q3, q4, q5, q6]; rfl) rfl ?_
      have OF : eOk s = false := by rw [OK.out]; rfl
      exact ⟨by rw [RR.out, OF]; rfl, hb _ L.out⟩
    · rw [hd] at OK
      have hd' : dV (fx3 s) = 0 := of_decide_eq_true hd
      rw [hd']
      clear hd hd'
      go_wp2_with fail
      refine (HE.out _).mono ?_
      rintro e w13 ⟨rfl, hk⟩
      have H12 := Lib.hid (H8.out.kept ((SB.out _ _ _).star ((SB.out _ _ _).star ((SB.out _ _ _).star SN.out))) hk)
      clear hk
      cases m with
      | false =>
        obtain ⟨r0, f0, r1, f1, r2, f2, r3, f3, r4, f4, r5, f5, r6, f6, q0, q1, q2, q3, q4, q5, q6, p0, p1, p2, p3, p4, p5⟩ := store7 (blk_at H12.out.drop.drop) (.int .i64 0) (.int .i64 0) (.int .i64 0) (.int .i64 0) (.int .i64 0) (.string ⟨#[]⟩) (.int .i64 0)
        have L := Lib.hid (below7 H12.out.drop.drop SN.out (.int .i64 0) (.int .i64 0) (.int .i64 0) (.int .i64 0) (.int .i64 0) (.string ⟨#[]⟩) (.int .i64 0))
        go_wp2_with fail
        refine bodyPost_ret (v := .tuple #[.agg zes, .int .i64 2]) (by simp [results, Try.results42, go_sem, hu, hu2, p0, p1, p2, p3, p4, p5, q0, q1, q2, q3, q4, q5, q6]; rfl) rfl ?_
        have OF : eOk s = false := by rw [OK.out]; rfl
        exact ⟨by rw [RR.out, OF]; rfl, hb _ L.out⟩
      | true =>
        have c0 := (blk_at H12.out.drop).cell 0
        have c1 := (blk_at H12.out.drop).cell 1
        have c2 := (blk_at H12.out.drop).cell 2
        have c3 := (blk_at H12.out.drop).cell 3
        have c4 := (blk_at H12.out.drop).cell 4
        have c5 := (blk_at H12.out.drop).cell 5
        have c6 := (blk_at H12.out.drop).cell 6
        obtain ⟨r0, f0, r1, f1, r2, f2, r3, f3, r4, f4, r5, f5, r6, f6, q0, q1, q2, q3, q4, q5, q6, p0, p1, p2, p3, p4, p5⟩ := store7 (blk_at H12.out.drop.drop) (.int .i64 (iV ⟨s, false⟩)) (.int .i64 (iV (fx1 s))) (.int .i64 c.k) (.int .i64 c.s) (.int .i64 c.q) (.string c.nm) (.int .i64 c.n)
        have L := Lib.hid (below7 H12.out.drop.drop SN.out (.int .i64 (iV ⟨s, false⟩)) (.int .i64 (iV (fx1 s))) (.int .i64 c.k) (.int .i64 c.s) (.int .i64 c.q) (.string c.nm) (.int .i64 c.n))
        go_wp2_with fail
        refine bodyPost_ret (v := .tuple #[(decE s).val, .int .i64 0]) (by rw [DE.out]; simp [results, Try.results42, go_sem, hu, hu2, Ent.val, p0, p1, p2, p3, p4, p5, q0, q1, q2, q3, q4, q5, q6]) rfl ?_
        have OF : eOk s = true := by rw [OK.out]; rfl
        exact ⟨by rw [RR.out, OF]; rfl, hb _ L.out⟩
end Go.Proofs.Ytjojibgihoebaaa.A
