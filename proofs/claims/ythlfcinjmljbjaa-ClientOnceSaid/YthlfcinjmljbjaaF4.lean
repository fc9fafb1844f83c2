/-
  The client: Call that sends. Printed by gen_f4.py.
-/
import Derived.Test.YthlfcinjmljbjaaF3
namespace Go.Proofs.Ythlfcinjmljbjaa.A
open Go.RowKit Go.Proofs.Ythlfcinjmljbjaa.U
set_option linter.unusedVariables false
set_option linter.unusedSimpArgs false
set_option maxRecDepth 100000
set_option maxHeartbeats 400000

section
/-- The call is sent. -/
abbrev SentPost (B : Nat) (w0 : World) (b : Nat) (S : CS) (o : Oc) (Q : SP) (e : Ending) (w' : World) : Prop :=
  ∃ g, e = .returned (.tuple #[.slice (some ⟨g, 0, none⟩) 1 1, .int .i64 0]) ∧ Holds B w0 w' (star (rowP 40 20 (.slice (some ⟨g, 0, none⟩) 1 1) 1 (askCs S o).toList) (star (cliP b (S.withOp (some o))) Q))
variable {B : Nat} {w0 w : World} {Q : SP} {b : Nat} {S : CS} {x y : Cmd} {now : Int}
theorem sent_end {g c : Nat} {gs cs : Array Value} {o : Oc} {A : Value} {l : List Value} (h : Holds B w0 w (star (rowP 40 20 A 1 l) (star (cliP b (S.withOp (some o))) (star (blkP g 31 gs) (star (blkP c 31 cs) Q))))) : Holds B w0 w (star (rowP 40 20 A 1 l) (star (cliP b (S.withOp (some o))) Q)) := by
  have h1 : Holds B w0 w (star (blkP g 31 gs) (star (blkP c 31 cs) (star (rowP 40 20 A 1 l) (star (cliP b (S.withOp (some o))) Q)))) := h.perm (by ac_rfl)
  exact h1.drop.drop
theorem call_open (h : Holds B w0 w (star (cliP b S) Q)) (hQ : Stable Q) (h2 : ¬ x.k < 2) (h4 : x.k ≠ 4) (hm : mayB (askC x) = true) (ho : S.op = none) (hid : 0 ≤ S.id ∧ S.id < 8) (hk : x.k = 2) (hd : S.had = false) :
    Calls Try.prog 9 #[.pointer (some ⟨b, 0, none⟩), x.val, .int .i64 now] w (SentPost B w0 b (S) ⟨⟨x.k, S.id, S.life, x.nm, x.n⟩, now, now⟩ Q) := by
  have hu := Try.underlying62
  have hu2 := Try.underlying31
  have hu3 := Try.underlying66
  have HH := Lib.hid h
  have QQ := Lib.hid hQ
  have X0 := Blk.fresh w 31 x.cs
  unfold Cmd.cs at X0
  have q0 := X0.cell 0
  have q1 := X0.cell 1
  have q2 := X0.cell 2
  have q3 := X0.cell 3
  have q4 := X0.cell 4
  clear X0
  have D := decide_eq_false h2
  have D4 : (x.k == 4) = false := by simp [h4]
  have HS := Lib.hid (call_start h hQ x (askC x))
  have HC := Lib.hid (check_calls ((w.alloc (.cells x.cs 31)).alloc (.cells (askC x).cs 31)) (askC x))
  rw [show okE (mayB (askC x)) = 0 by rw [hm]; rfl] at HC
  unfold Cmd.val Cmd.cs at HC
  have X1 := (three_cells HS.out).1
  have Y1 := (three_cells HS.out).2
  unfold Cmd.cs at X1 Y1
  have s0 := X1.cell 0
  have s1 := X1.cell 1
  have s2 := X1.cell 2
  have s3 := X1.cell 3
  have s4 := X1.cell 4
  have y0 := Y1.cell 0
  have y1 := Y1.cell 1
  have y2 := Y1.cell 2
  have y3 := Y1.cell 3
  have y4 := Y1.cell 4
  clear X1 Y1
  have HO := Lib.hid ho
  have HD := Lib.hid hd
  have HI := Lib.hid hid
  have HK2 := Lib.hid hk
  have D2 : (x.k == 2) = true := by simp [hk]
  have E6 : (x.k == 6) = false := by simp [hk]
  have E8 : (x.k == 8) = false := by simp [hk]
  have E3 : (x.k == 3) = false := by simp [hk]
  clear h hQ h2 h4 hm ho hd hk hid
  unfold Cmd.val Cmd.cs
  go_enter Try.func9, Try.ntmps9
  go_wp2_with fail
  clear q0 q1 q2 q3 q4
  refine HC.out.mono ?_
  rintro e w3 ⟨rfl, hk3⟩
  have H3 := Lib.hid (HS.out.kept (three_stable QQ.out) hk3)
  have X3 := (three_cells H3.out).1
  have Y3 := (three_cells H3.out).2
  unfold Cmd.cs at X3 Y3
  clear hk3 s0 s1 s2 s3 s4 y0 y1 y2 y3 y4
  have s0 := X3.cell 0
  have s1 := X3.cell 1
  have s2 := X3.cell 2
  have s3 := X3.cell 3
  have s4 := X3.cell 4
  have y0 := Y3.cell 0
  have y1 := Y3.cell 1
  have y2 := Y3.cell 2
  have y3 := Y3.cell 3
  have y4 := Y3.cell 4
  clear X3 Y3
  obtain ⟨A, c, Z⟩ := three_open H3.out HO.out
  have z7 := Z.cell 7
  have z6 : w3.cell? ⟨b, 6, none⟩ = some (.bool false) := by rw [Z.cell 6]; show some (Value.bool S.had) = _; rw [HD.out]
  have z0 := Z.cell 0
  have z2 := Z.cell 2
  have H4 := Lib.hid (three_set (three_set H3.out QQ.out 1 (.int .i64 S.id)) QQ.out 2 (.int .i64 S.life))
  have Y3 := (three_cells H3.out).2
  have Y4 := (three_cells (three_set H3.out QQ.out 1 (.int .i64 S.id))).2
  have Y5 := (three_cells H4.out).2
  have X5 := (three_cells H4.out).1
  have f1 := Y3.free 1
  have f2 := Y4.free 2
  unfold Cmd.cs at Y3 Y4 Y5 X5
  have p2 := Y4.cell 2
  have g0 := X5.cell 0
  have g3 := X5.cell 3
  have y5 := Y5.cell 0
  have y6 := Y5.cell 1
  have y7 := Y5.cell 2
  have y8 := Y5.cell 3
  have y9 := Y5.cell 4
  clear Z Y3 Y4 Y5 X5
  have TT := three_call H4.out QQ.out HO.out ⟨⟨x.k, S.id, S.life, x.nm, x.n⟩, now, 0⟩ w3.heap.size (by simp)
  obtain ⟨⟨v7, t7⟩, f7, HT⟩ := TT
  have HT2 := Lib.hid HT
  have HSEND := Lib.hid (fun (X : World) (hX : Keep Nothing _ X) => x_send (HT.kept (three_stable QQ.out) hX) ((blkP_stable _ _ _).star ((blkP_stable _ _ _).star QQ.out)) HI.out now)
  clear HT
  go_wp2_with fail
  go_region
  all_goals
    go_wp2_with fail
    refine (HSEND.out _ (by repeat (first | with_reducible (apply Keep.drew) | with_reducible (apply Keep.alloc) | with_reducible (exact Keep.same _ _)))).mono ?_
    rintro e w9 ⟨g, rfl, h9⟩
    have H9 := Lib.hid h9
    clear h9
    go_wp2_with fail
    go_ret2
    exact ⟨g, rfl, sent_end H9.out⟩
theorem call_plain (h : Holds B w0 w (star (cliP b S) Q)) (hQ : Stable Q) (h2 : ¬ x.k < 2) (h4 : x.k ≠ 4) (hm : mayB (askC x) = true) (ho : S.op = none) (hid : 0 ≤ S.id ∧ S.id < 8) (hk : x.k ≠ 2) (hs : S.session ≠ 0) (hq : 0 ≤ S.seq ∧ S.seq < 1000000) (k6 : x.k ≠ 6) (k8 : x.k ≠ 8) (k3 : x.k ≠ 3) :
    Calls Try.prog 9 #[.pointer (some ⟨b, 0, none⟩), x.val, .int .i64 now] w (SentPost B w0 b (({ S with seq := S.seq + 1 } : CS)) ⟨⟨x.k, S.session, S.seq + 1, x.nm, x.n⟩, now, now⟩ Q) := by
  have hu := Try.underlying62
  have hu2 := Try.underlying31
  have hu3 := Try.underlying66
  have HH := Lib.hid h
  have QQ := Lib.hid hQ
  have X0 := Blk.fresh w 31 x.cs
  unfold Cmd.cs at X0
  have q0 := X0.cell 0
  have q1 := X0.cell 1
  have q2 := X0.cell 2
  have q3 := X0.cell 3
  have q4 := X0.cell 4
  clear X0
  have D := decide_eq_false h2
  have D4 : (x.k == 4) = false := by simp [h4]
  have HS := Lib.hid (call_start h hQ x (askC x))
  have HC := Lib.hid (check_calls ((w.alloc (.cells x.cs 31)).alloc (.cells (askC x).cs 31)) (askC x))
  rw [show okE (mayB (askC x)) = 0 by rw [hm]; rfl] at HC
  unfold Cmd.val Cmd.cs at HC
  have X1 := (three_cells HS.out).1
  have Y1 := (three_cells HS.out).2
  unfold Cmd.cs at X1 Y1
  have s0 := X1.cell 0
  have s1 := X1.cell 1
  have s2 := X1.cell 2
  have s3 := X1.cell 3
  have s4 := X1.cell 4
  have y0 := Y1.cell 0
  have y1 := Y1.cell 1
  have y2 := Y1.cell 2
  have y3 := Y1.cell 3
  have y4 := Y1.cell 4
  clear X1 Y1
  have HO := Lib.hid ho
  have HI := Lib.hid hid
  have HW : IntKind.i64.wrap (S.seq + 1) = S.seq + 1 := by rw [IntKind.wrap_i64]; omega
  have D2 : (x.k == 2) = false := by simp [hk]
  have DS : (S.session == 0) = false := by simp [hs]
  have E6 : (x.k == 6) = false := by simp [k6]
  have E8 : (x.k == 8) = false := by simp [k8]
  have E3 : (x.k == 3) = false := by simp [k3]
  clear h hQ h2 h4 hm ho hk hid hs hq k6 k8 k3
  unfold Cmd.val Cmd.cs
  go_enter Try.func9, Try.ntmps9
  go_wp2_with fail
  clear q0 q1 q2 q3 q4
  refine HC.out.mono ?_
  rintro e w3 ⟨rfl, hk3⟩
  have H3 := Lib.hid (HS.out.kept (three_stable QQ.out) hk3)
  have X3 := (three_cells H3.out).1
  have Y3 := (three_cells H3.out).2
  unfold Cmd.cs at X3 Y3
  clear hk3 s0 s1 s2 s3 s4 y0 y1 y2 y3 y4
  have s0 := X3.cell 0
  have s1 := X3.cell 1
  have s2 := X3.cell 2
  have s3 := X3.cell 3
  have s4 := X3.cell 4
  have y0 := Y3.cell 0
  have y1 := Y3.cell 1
  have y2 := Y3.cell 2
  have y3 := Y3.cell 3
  have y4 := Y3.cell 4
  clear X3 Y3
  obtain ⟨A, c, Z⟩ := three_open H3.out HO.out
  have z7 := Z.cell 7
  have z4 := Z.cell 4
  have z5 := Z.cell 5
  have f5 := Z.free 5
  have H5 := Lib.hid (three_put H3.out QQ.out HO.out 5 (.int .i64 (S.seq + 1)) ({ S with seq := S.seq + 1 } : CS) HO.out rfl (fun A k => rfl))
  obtain ⟨A5, c5, Z5⟩ := three_open H5.out HO.out
  have v4 := Z5.cell 4
  have v5 := Z5.cell 5
  have H6 := Lib.hid (three_set (three_set H5.out QQ.out 1 (.int .i64 S.session)) QQ.out 2 (.int .i64 (S.seq + 1)))
  have X5 := (three_cells H5.out).1
  have Y3 := (three_cells H5.out).2
  have Y4 := (three_cells (three_set H5.out QQ.out 1 (.int .i64 S.session))).2
  have Y5 := (three_cells H6.out).2
  have X6 := (three_cells H6.out).1
  have f1 := Y3.free 1
  have f2 := Y4.free 2
  unfold Cmd.cs at X5 Y3 Y4 Y5 X6
  have p1 := Y3.cell 1
  have p2 := Y4.cell 2
  have g0 := X6.cell 0
  have g3 := X6.cell 3
  have y5 := Y5.cell 0
  have y6 := Y5.cell 1
  have y7 := Y5.cell 2
  have y8 := Y5.cell 3
  have y9 := Y5.cell 4
  clear Z Z5 Y3 Y4 Y5 X6 X5
  have TT := three_call H6.out QQ.out HO.out ⟨⟨x.k, S.session, S.seq + 1, x.nm, x.n⟩, now, 0⟩ w3.heap.size (by simp)
  obtain ⟨⟨v7, t7⟩, f7, HT⟩ := TT
  have HT2 := Lib.hid HT
  have HSEND := Lib.hid (fun (X : World) (hX : Keep Nothing _ X) => x_send (HT.kept (three_stable QQ.out) hX) ((blkP_stable _ _ _).star ((blkP_stable _ _ _).star QQ.out)) HI.out now)
  clear HT
  go_wp2_with fail
  go_region
  all_goals
    go_wp2_with fail
    refine (HSEND.out _ (by repeat (first | with_reducible (apply Keep.drew) | with_reducible (apply Keep.alloc) | with_reducible (exact Keep.same _ _)))).mono ?_
    rintro e w9 ⟨g, rfl, h9⟩
    have H9 := Lib.hid h9
    clear h9
    go_wp2_with fail
    go_ret2
    exact ⟨g, rfl, sent_end H9.out⟩
theorem call_close (h : Holds B w0 w (star (cliP b S) Q)) (hQ : Stable Q) (h2 : ¬ x.k < 2) (h4 : x.k ≠ 4) (hm : mayB (askC x) = true) (ho : S.op = none) (hid : 0 ≤ S.id ∧ S.id < 8) (hk : x.k ≠ 2) (hs : S.session ≠ 0) (hq : 0 ≤ S.seq ∧ S.seq < 1000000) (hk3 : x.k = 3) :
    Calls Try.prog 9 #[.pointer (some ⟨b, 0, none⟩), x.val, .int .i64 now] w (SentPost B w0 b (({ S with seq := S.seq + 1 } : CS).withL []) ⟨⟨x.k, S.session, S.seq + 1, x.nm, x.n⟩, now, now⟩ Q) := by
  have hu := Try.underlying62
  have hu2 := Try.underlying31
  have hu3 := Try.underlying66
  have HH := Lib.hid h
  have QQ := Lib.hid hQ
  have X0 := Blk.fresh w 31 x.cs
  unfold Cmd.cs at X0
  have q0 := X0.cell 0
  have q1 := X0.cell 1
  have q2 := X0.cell 2
  have q3 := X0.cell 3
  have q4 := X0.cell 4
  clear X0
  have D := decide_eq_false h2
  have D4 : (x.k == 4) = false := by simp [h4]
  have HS := Lib.hid (call_start h hQ x (askC x))
  have HC := Lib.hid (check_calls ((w.alloc (.cells x.cs 31)).alloc (.cells (askC x).cs 31)) (askC x))
  rw [show okE (mayB (askC x)) = 0 by rw [hm]; rfl] at HC
  unfold Cmd.val Cmd.cs at HC
  have X1 := (three_cells HS.out).1
  have Y1 := (three_cells HS.out).2
  unfold Cmd.cs at X1 Y1
  have s0 := X1.cell 0
  have s1 := X1.cell 1
  have s2 := X1.cell 2
  have s3 := X1.cell 3
  have s4 := X1.cell 4
  have y0 := Y1.cell 0
  have y1 := Y1.cell 1
  have y2 := Y1.cell 2
  have y3 := Y1.cell 3
  have y4 := Y1.cell 4
  clear X1 Y1
  have HO := Lib.hid ho
  have HI := Lib.hid hid
  have HW : IntKind.i64.wrap (S.seq + 1) = S.seq + 1 := by rw [IntKind.wrap_i64]; omega
  have D2 : (x.k == 2) = false := by simp [hk]
  have DS : (S.session == 0) = false := by simp [hs]
  have E6 : (x.k == 6) = false := by simp [hk3]
  have E8 : (x.k == 8) = false := by simp [hk3]
  have E3 : (x.k == 3) = true := by simp [hk3]
  clear h hQ h2 h4 hm ho hk hid hs hq hk3
  unfold Cmd.val Cmd.cs
  go_enter Try.func9, Try.ntmps9
  go_wp2_with fail
  clear q0 q1 q2 q3 q4
  refine HC.out.mono ?_
  rintro e w3 ⟨rfl, hk3⟩
  have H3 := Lib.hid (HS.out.kept (three_stable QQ.out) hk3)
  have X3 := (three_cells H3.out).1
  have Y3 := (three_cells H3.out).2
  unfold Cmd.cs at X3 Y3
  clear hk3 s0 s1 s2 s3 s4 y0 y1 y2 y3 y4
  have s0 := X3.cell 0
  have s1 := X3.cell 1
  have s2 := X3.cell 2
  have s3 := X3.cell 3
  have s4 := X3.cell 4
  have y0 := Y3.cell 0
  have y1 := Y3.cell 1
  have y2 := Y3.cell 2
  have y3 := Y3.cell 3
  have y4 := Y3.cell 4
  clear X3 Y3
  obtain ⟨A, c, Z⟩ := three_open H3.out HO.out
  have z7 := Z.cell 7
  have z4 := Z.cell 4
  have z5 := Z.cell 5
  have f5 := Z.free 5
  have H5 := Lib.hid (three_put H3.out QQ.out HO.out 5 (.int .i64 (S.seq + 1)) ({ S with seq := S.seq + 1 } : CS) HO.out rfl (fun A k => rfl))
  obtain ⟨A5, c5, Z5⟩ := three_open H5.out HO.out
  have v4 := Z5.cell 4
  have v5 := Z5.cell 5
  have H6 := Lib.hid (three_set (three_set H5.out QQ.out 1 (.int .i64 S.session)) QQ.out 2 (.int .i64 (S.seq + 1)))
  have X5 := (three_cells H5.out).1
  have Y3 := (three_cells H5.out).2
  have Y4 := (three_cells (three_set H5.out QQ.out 1 (.int .i64 S.session))).2
  have Y5 := (three_cells H6.out).2
  have X6 := (three_cells H6.out).1
  have f1 := Y3.free 1
  have f2 := Y4.free 2
  unfold Cmd.cs at X5 Y3 Y4 Y5 X6
  have p1 := Y3.cell 1
  have p2 := Y4.cell 2
  have g0 := X6.cell 0
  have g3 := X6.cell 3
  have y5 := Y5.cell 0
  have y6 := Y5.cell 1
  have y7 := Y5.cell 2
  have y8 := Y5.cell 3
  have y9 := Y5.cell 4
  clear Z Z5 Y3 Y4 Y5 X6 X5
  obtain ⟨A6, c6, Z6⟩ := three_open H6.out HO.out
  have v11 := Z6.cell 11
  have f11 := Z6.free 11
  have H7 := Lib.hid (three_nil H6.out QQ.out HO.out)
  have Y7 := (three_cells H7.out).2
  unfold Cmd.cs at Y7
  have t5 := Y7.cell 0
  have t6 := Y7.cell 1
  have t8 := Y7.cell 2
  have t9 := Y7.cell 3
  have t10 := Y7.cell 4
  clear Z6 Y7
  have TT := three_call H7.out QQ.out HO.out ⟨⟨x.k, S.session, S.seq + 1, x.nm, x.n⟩, now, 0⟩ w3.heap.size (by simp)
  obtain ⟨⟨v7, t7⟩, f7, HT⟩ := TT
  have HT2 := Lib.hid HT
  have HSEND := Lib.hid (fun (X : World) (hX : Keep Nothing _ X) => x_send (HT.kept (three_stable QQ.out) hX) ((blkP_stable _ _ _).star ((blkP_stable _ _ _).star QQ.out)) HI.out now)
  clear HT
  go_wp2_with fail
  go_region
  all_goals
    go_wp2_with fail
    refine (HSEND.out _ (by repeat (first | with_reducible (apply Keep.drew) | with_reducible (apply Keep.alloc) | with_reducible (exact Keep.same _ _)))).mono ?_
    rintro e w9 ⟨g, rfl, h9⟩
    have H9 := Lib.hid h9
    clear h9
    go_wp2_with fail
    go_ret2
    exact ⟨g, rfl, sent_end H9.out⟩
theorem call_let (h : Holds B w0 w (star (cliP b S) Q)) (hQ : Stable Q) (h2 : ¬ x.k < 2) (h4 : x.k ≠ 4) (hm : mayB (askC x) = true) (ho : S.op = none) (hid : 0 ≤ S.id ∧ S.id < 8) (hk : x.k ≠ 2) (hs : S.session ≠ 0) (hq : 0 ≤ S.seq ∧ S.seq < 1000000) (rd : Bool) (hkr : x.k = if rd = true then 8 else 6) (hn : S.L.length ≤ 500000) (hr : Rise S.L) :
    Calls Try.prog 9 #[.pointer (some ⟨b, 0, none⟩), x.val, .int .i64 now] w (SentPost B w0 b (({ S with seq := S.seq + 1 } : CS).withL (letL S.L x.nm rd)) ⟨⟨x.k, S.session, S.seq + 1, x.nm, x.n⟩, now, now⟩ Q) := by
  have hu := Try.underlying62
  have hu2 := Try.underlying31
  have hu3 := Try.underlying66
  have HH := Lib.hid h
  have QQ := Lib.hid hQ
  have X0 := Blk.fresh w 31 x.cs
  unfold Cmd.cs at X0
  have q0 := X0.cell 0
  have q1 := X0.cell 1
  have q2 := X0.cell 2
  have q3 := X0.cell 3
  have q4 := X0.cell 4
  clear X0
  have D := decide_eq_false h2
  have D4 : (x.k == 4) = false := by simp [h4]
  have HS := Lib.hid (call_start h hQ x (askC x))
  have HC := Lib.hid (check_calls ((w.alloc (.cells x.cs 31)).alloc (.cells (askC x).cs 31)) (askC x))
  rw [show okE (mayB (askC x)) = 0 by rw [hm]; rfl] at HC
  unfold Cmd.val Cmd.cs at HC
  have X1 := (three_cells HS.out).1
  have Y1 := (three_cells HS.out).2
  unfold Cmd.cs at X1 Y1
  have s0 := X1.cell 0
  have s1 := X1.cell 1
  have s2 := X1.cell 2
  have s3 := X1.cell 3
  have s4 := X1.cell 4
  have y0 := Y1.cell 0
  have y1 := Y1.cell 1
  have y2 := Y1.cell 2
  have y3 := Y1.cell 3
  have y4 := Y1.cell 4
  clear X1 Y1
  have HO := Lib.hid ho
  have HI := Lib.hid hid
  have HW : IntKind.i64.wrap (S.seq + 1) = S.seq + 1 := by rw [IntKind.wrap_i64]; omega
  have D2 : (x.k == 2) = false := by simp [hk]
  have DS : (S.session == 0) = false := by simp [hs]
  have E6 : (x.k == 6) = !rd := by cases rd <;> simp [hkr]
  have E8 : (x.k == 8) = rd := by cases rd <;> simp [hkr]
  have E3 : (x.k == 3) = false := by cases rd <;> simp [hkr]
  have HN := Lib.hid hn
  have HR := Lib.hid hr
  clear h hQ h2 h4 hm ho hk hid hs hq hkr hn hr
  unfold Cmd.val Cmd.cs
  go_enter Try.func9, Try.ntmps9
  go_wp2_with fail
  clear q0 q1 q2 q3 q4
  refine HC.out.mono ?_
  rintro e w3 ⟨rfl, hk3⟩
  have H3 := Lib.hid (HS.out.kept (three_stable QQ.out) hk3)
  have X3 := (three_cells H3.out).1
  have Y3 := (three_cells H3.out).2
  unfold Cmd.cs at X3 Y3
  clear hk3 s0 s1 s2 s3 s4 y0 y1 y2 y3 y4
  have s0 := X3.cell 0
  have s1 := X3.cell 1
  have s2 := X3.cell 2
  have s3 := X3.cell 3
  have s4 := X3.cell 4
  have y0 := Y3.cell 0
  have y1 := Y3.cell 1
  have y2 := Y3.cell 2
  have y3 := Y3.cell 3
  have y4 := Y3.cell 4
  clear X3 Y3
  obtain ⟨A, c, Z⟩ := three_open H3.out HO.out
  have z7 := Z.cell 7
  have z4 := Z.cell 4
  have z5 := Z.cell 5
  have f5 := Z.free 5
  have H5 := Lib.hid (three_put H3.out QQ.out HO.out 5 (.int .i64 (S.seq + 1)) ({ S with seq := S.seq + 1 } : CS) HO.out rfl (fun A k => rfl))
  obtain ⟨A5, c5, Z5⟩ := three_open H5.out HO.out
  have v4 := Z5.cell 4
  have v5 := Z5.cell 5
  have H6 := Lib.hid (three_set (three_set H5.out QQ.out 1 (.int .i64 S.session)) QQ.out 2 (.int .i64 (S.seq + 1)))
  have X5 := (three_cells H5.out).1
  have Y3 := (three_cells H5.out).2
  have Y4 := (three_cells (three_set H5.out QQ.out 1 (.int .i64 S.session))).2
  have Y5 := (three_cells H6.out).2
  have X6 := (three_cells H6.out).1
  have f1 := Y3.free 1
  have f2 := Y4.free 2
  unfold Cmd.cs at X5 Y3 Y4 Y5 X6
  have p1 := Y3.cell 1
  have p2 := Y4.cell 2
  have g0 := X6.cell 0
  have g3 := X6.cell 3
  have y5 := Y5.cell 0
  have y6 := Y5.cell 1
  have y7 := Y5.cell 2
  have y8 := Y5.cell 3
  have y9 := Y5.cell 4
  clear Z Z5 Y3 Y4 Y5 X6 X5
  have HL := Lib.hid (fun (X : World) (hX : Keep Nothing _ X) => x_let (H6.out.kept (three_stable QQ.out) hX) ((blkP_stable _ _ _).star ((blkP_stable _ _ _).star QQ.out)) (by have := HN.out; show S.L.length ≤ 1000000; omega) HR.out x.nm rd)
  cases rd
  all_goals
    simp only [Bool.not_true, Bool.not_false] at E6
    go_wp2_with fail
    go_region
    all_goals
      go_wp2_with fail
      refine (HL.out _ (by repeat (first | with_reducible (apply Keep.drew) | with_reducible (apply Keep.alloc) | with_reducible (exact Keep.same _ _)))).mono ?_
      rintro e w7 ⟨rfl, h7⟩
      have H7 := Lib.hid h7
      have X7 := (three_cells H7.out).1
      have Y7 := (three_cells H7.out).2
      unfold Cmd.cs at X7 Y7
      clear h7 g0 g3 y5 y6 y7 y8 y9 v4 v5 p1 p2 f1 f2
      have g0 := X7.cell 0
      have y5 := Y7.cell 0
      have y6 := Y7.cell 1
      have y7 := Y7.cell 2
      have y8 := Y7.cell 3
      have y9 := Y7.cell 4
      clear X7 Y7
      have TT := three_call H7.out QQ.out HO.out ⟨⟨x.k, S.session, S.seq + 1, x.nm, x.n⟩, now, 0⟩ w7.heap.size (by simp)
      obtain ⟨⟨v7, t7⟩, f7, HT⟩ := TT
      have HT2 := Lib.hid HT
      have HSEND := Lib.hid (fun (X : World) (hX : Keep Nothing _ X) => x_send (HT.kept (three_stable QQ.out) hX) ((blkP_stable _ _ _).star ((blkP_stable _ _ _).star QQ.out)) HI.out now)
      clear HT
      go_wp2_with fail
      refine (HSEND.out _ (by repeat (first | with_reducible (apply Keep.drew) | with_reducible (apply Keep.alloc) | with_reducible (exact Keep.same _ _)))).mono ?_
      rintro e w9 ⟨g, rfl, h9⟩
      have H9 := Lib.hid h9
      clear h9
      go_wp2_with fail
      go_ret2
      exact ⟨g, rfl, sent_end H9.out⟩
theorem callS_open (hk : x.k = 2) : callS S x now = S.withOp (some ⟨⟨x.k, S.id, S.life, x.nm, x.n⟩, now, now⟩) := by
  have h6 : x.k ≠ 6 := by omega
  have h8 : x.k ≠ 8 := by omega
  have h3 : x.k ≠ 3 := by omega
  unfold callS callL callC CS.withOp
  simp only [if_pos hk, if_neg h6, if_neg h8, if_neg h3]
theorem callS_other (hk : x.k ≠ 2) : callS S x now = (({ S with seq := S.seq + 1 } : CS).withL (callL S x)).withOp (some ⟨⟨x.k, S.session, S.seq + 1, x.nm, x.n⟩, now, now⟩) := by
  unfold callS callC CS.withOp CS.withL
  simp only [if_neg hk]
/-- What Call answers. -/
def CallPost (B : Nat) (w0 : World) (b : Nat) (S : CS) (x : Cmd) (now : Int) (Q : SP) (e : Ending) (w' : World) : Prop :=
  if callE S x = 0 then ∃ g, e = .returned (.tuple #[.slice (some ⟨g, 0, none⟩) 1 1, .int .i64 0]) ∧ Holds B w0 w' (star (rowP 40 20 (.slice (some ⟨g, 0, none⟩) 1 1) 1 (askCs S ⟨callC S x, now, now⟩).toList) (star (cliP b (callS S x now)) Q))
  else e = .returned (.tuple #[.slice none 0 0, .int .i64 (callE S x)]) ∧ Holds B w0 w' (star (cliP b S) Q)
theorem x_call (h : Holds B w0 w (star (cliP b S) Q)) (hQ : Stable Q) (hid : 0 ≤ S.id ∧ S.id < 8) (hq : 0 ≤ S.seq ∧ S.seq < 1000000) (hn : S.L.length ≤ 500000) (hr : Rise S.L) (x : Cmd) (now : Int) :
    Calls Try.prog 9 #[.pointer (some ⟨b, 0, none⟩), x.val, .int .i64 now] w (CallPost B w0 b S x now Q) := by
  by_cases h1 : x.k < 2 ∨ x.k = 4
  · have e : callE S x = 1 := by unfold callE; rw [if_pos h1]
    refine (call_arg h hQ h1).mono ?_
    rintro e' w' ⟨he, hh⟩
    unfold CallPost
    rw [e, if_neg (by decide)]
    exact ⟨he, hh⟩
  · have h2 : ¬ x.k < 2 := fun h => h1 (.inl h)
    have h4 : x.k ≠ 4 := fun h => h1 (.inr h)
    cases hm : mayB (askC x) with
    | false =>
      have e : callE S x = 1 := by unfold callE; rw [if_neg h1, if_pos hm]
      refine (call_check h hQ h2 h4 hm).mono ?_
      rintro e' w' ⟨he, hh⟩
      unfold CallPost
      rw [e, if_neg (by decide)]
      exact ⟨he, hh⟩
    | true =>
      cases ho : S.op with
      | some o =>
        have e : callE S x = 10 := by unfold callE; rw [if_neg h1, if_neg (by rw [hm]; decide), if_pos (.inl (by rw [ho]; rfl))]
        refine (call_busy h hQ h2 h4 hm o ho).mono ?_
        rintro e' w' ⟨he, hh⟩
        unfold CallPost
        rw [e, if_neg (by decide)]
        exact ⟨he, hh⟩
      | none =>
        by_cases hk : x.k = 2
        · cases hd : S.had with
          | true =>
            have e : callE S x = 10 := by unfold callE; rw [if_neg h1, if_neg (by rw [hm]; decide), if_pos (.inr ⟨hk, hd⟩)]
            refine (call_had h hQ h2 h4 hm ho hk hd).mono ?_
            rintro e' w' ⟨he, hh⟩
            unfold CallPost
            rw [e, if_neg (by decide)]
            exact ⟨he, hh⟩
          | false =>
            have e : callE S x = 0 := by unfold callE; rw [if_neg h1, if_neg (by rw [hm]; decide), if_neg (by rw [ho, hd]; simp), if_pos hk]
            refine (call_open h hQ h2 h4 hm ho hid hk hd).mono ?_
            rintro e' w' ⟨g, he, hh⟩
            unfold CallPost
            rw [if_pos e, callS_open hk, show callC S x = ⟨x.k, S.id, S.life, x.nm, x.n⟩ by unfold callC; rw [if_pos hk]]
            exact ⟨g, he, hh⟩
        · by_cases hs : S.session = 0
          · have e : callE S x = 11 := by unfold callE; rw [if_neg h1, if_neg (by rw [hm]; decide), if_neg (by rw [ho]; simp [hk]), if_neg hk, if_pos hs]
            refine (call_session h hQ h2 h4 hm ho hk hs).mono ?_
            rintro e' w' ⟨he, hh⟩
            unfold CallPost
            rw [e, if_neg (by decide)]
            exact ⟨he, hh⟩
          · have e : callE S x = 0 := by unfold callE; rw [if_neg h1, if_neg (by rw [hm]; decide), if_neg (by rw [ho]; simp [hk]), if_neg hk, if_neg hs]
            have ec : callC S x = ⟨x.k, S.session, S.seq + 1, x.nm, x.n⟩ := by unfold callC; rw [if_neg hk]
            unfold CallPost
            simp only [if_pos e, callS_other hk, ec]
            by_cases h6 : x.k = 6
            · rw [show callL S x = letL S.L x.nm false by unfold callL; rw [if_pos h6]]
              exact call_let h hQ h2 h4 hm ho hid hk hs hq false (by simpa using h6) hn hr
            · by_cases h8 : x.k = 8
              · rw [show callL S x = letL S.L x.nm true by unfold callL; rw [if_neg h6, if_pos h8]]
                exact call_let h hQ h2 h4 hm ho hid hk hs hq true (by simpa using h8) hn hr
              · by_cases h3 : x.k = 3
                · rw [show callL S x = [] by unfold callL; rw [if_neg h6, if_neg h8, if_pos h3]]
                  exact call_close h hQ h2 h4 hm ho hid hk hs hq h3
                · rw [show callL S x = S.L by unfold callL; rw [if_neg h6, if_neg h8, if_neg h3]]
                  exact call_plain h hQ h2 h4 hm ho hid hk hs hq h6 h8 h3
end
end Go.Proofs.Ythlfcinjmljbjaa.A
