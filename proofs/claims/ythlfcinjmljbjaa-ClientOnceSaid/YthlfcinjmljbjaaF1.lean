/-
  The client: told. Printed by gen_f1.py.
-/
import Derived.Test.YthlfcinjmljbjaaF0
namespace Go.Proofs.Ythlfcinjmljbjaa.A
open Go.RowKit Go.Proofs.Ythlfcinjmljbjaa.U
set_option linter.unusedVariables false
set_option linter.unusedSimpArgs false
set_option maxRecDepth 100000
set_option maxHeartbeats 1600000

theorem size_alloc (w : World) (o : Obj) : (w.alloc o).heap.size = w.heap.size + 1 := by simp
/-- A server's answer. -/
structure Rp where
  s : Int
  q : Int
  e : Int
  t : Int
  n : Int
abbrev Rp.cs (x : Rp) : Array Value := #[.int .i64 x.s, .int .i64 x.q, .int .i64 x.e, .int .u64 x.t, .int .i64 x.n]
abbrev Rp.val (x : Rp) : Value := .agg x.cs
/-- What an answer of no error makes of the client. -/
def okS (S : CS) (o : Oc) (r : Rp) : CS :=
  if o.cmd.k = 2 then { S with op := none, session := r.n, had := true, til := leaseV o.first }
  else if o.cmd.k = 3 then (S.withOp none).gone
  else if o.cmd.k = 5 ∨ o.cmd.k = 7 then (S.withOp none).withL (holdL S.L ⟨o.cmd.nm, decide (o.cmd.k = 7), r.t⟩)
  else S.withOp none
def toldS (S : CS) (o : Oc) (r : Rp) : CS := if r.e = 11 then (S.withOp none).gone else if r.e = 0 then okS S o r else S.withOp none
section
variable {B : Nat} {w0 w : World} {Q : SP} {b : Nat} {S : CS} {o : Oc} {r : Rp}
abbrev ToldPost (B : Nat) (w0 : World) (b : Nat) (S : CS) (Q : SP) (e : Ending) (w' : World) : Prop := ∃ A c, e = .returned (.slice A 1 c) ∧ Holds B w0 w' (star (cliP b S) Q)
theorem told_start (h : Holds B w0 w (star (cliP b (S.withOp (some o))) Q)) (hQ : Stable Q) (r : Rp) :
    ∃ ob A c, Blk w b 62 (S.cs (some ⟨ob, 0, none⟩) A S.L.length c) ∧ Blk w ob 66 o.cs ∧
      Holds B w0 (((w.alloc (.cells r.cs 38)).alloc (.cells o.cs 66)).setCell ⟨b, 7, none⟩ (.pointer none)) (star (cliP b (S.withOp none)) (star (blkP w.heap.size 38 r.cs) (star (blkP (w.heap.size + 1) 66 o.cs) Q))) := by
  obtain ⟨p, A, c, h1⟩ := cli_open h
  have B1 := blk_at h1
  have h2 : Holds B w0 w (star (opP p (some o)) (star (blkP b 62 (S.cs p A S.L.length c)) (star (lrow S A c) Q))) := h1.perm (by
    show star (blkP b 62 (S.cs p A S.L.length c)) (star (opP p (some o)) (star (lrow S A c) Q)) = _
    ac_rfl)
  obtain ⟨ob, rfl, h3⟩ := op_open h2
  have O1 := blk_at h3
  have SR : Stable (star (blkP b 62 (S.cs (some ⟨ob, 0, none⟩) A S.L.length c)) (star (lrow S A c) Q)) := (blkP_stable _ _ _).star ((rowP_stable _ _ _ _ _).star hQ)
  have h4 := h3.drop
  have h5 := h4.newBlk SR 38 r.cs
  have h6 := h5.newBlk ((blkP_stable _ _ _).star SR) 66 o.cs
  rw [size_alloc] at h6
  have S7 : Stable (star (lrow S A c) (star (blkP w.heap.size 38 r.cs) (star (blkP (w.heap.size + 1) 66 o.cs) Q))) := (rowP_stable _ _ _ _ _).star ((blkP_stable _ _ _).star ((blkP_stable _ _ _).star hQ))
  have h7 : Holds B w0 _ (star (blkP b 62 (S.cs (some ⟨ob, 0, none⟩) A S.L.length c)) (star (lrow S A c) (star (blkP w.heap.size 38 r.cs) (star (blkP (w.heap.size + 1) 66 o.cs) Q)))) := h6.perm (by ac_rfl)
  have h8 : Holds B w0 _ (star (blkP b 62 (S.cs none A S.L.length c)) (star (lrow S A c) (star (blkP w.heap.size 38 r.cs) (star (blkP (w.heap.size + 1) 66 o.cs) Q)))) := h7.setBlk S7 7 (.pointer none)
  have h9 := op_none h8 ((blkP_stable _ _ _).star S7)
  refine ⟨ob, A, c, B1, O1, cli_close (S := S.withOp none) (p := none) (A := A) (c := c) (h9.perm ?_)⟩
  show _ = star (blkP b 62 (S.cs none A S.L.length c)) (star (opP none none) (star (lrow S A c) (star (blkP w.heap.size 38 r.cs) (star (blkP (w.heap.size + 1) 66 o.cs) Q))))
  ac_rfl
/-- The cells of the answer and of the call. -/
theorem told_cells {g x : Nat} (h : Holds B w0 w (star (cliP b S) (star (blkP g 38 r.cs) (star (blkP x 66 o.cs) Q)))) : Blk w g 38 r.cs ∧ Blk w x 66 o.cs := by
  constructor
  · exact blk_at (show Holds B w0 w (star (blkP g 38 r.cs) (star (cliP b S) (star (blkP x 66 o.cs) Q))) from h.perm (by ac_rfl))
  · exact blk_at (show Holds B w0 w (star (blkP x 66 o.cs) (star (cliP b S) (star (blkP g 38 r.cs) Q))) from h.perm (by ac_rfl))
theorem told_end {g x : Nat} (hQ : Stable Q) (h : Holds B w0 w (star (cliP b S) (star (blkP g 38 r.cs) (star (blkP x 66 o.cs) Q)))) (w' : World) (hk : Keep Nothing w w') : Holds B w0 w' (star (cliP b S) Q) := by
  have h1 : Holds B w0 w (star (blkP g 38 r.cs) (star (blkP x 66 o.cs) (star (cliP b S) Q))) := h.perm (by ac_rfl)
  exact (h1.drop).drop.kept ((cliP_stable _ _).star hQ) hk
theorem told_gone (h : Holds B w0 w (star (cliP b (S.withOp (some o))) Q)) (hQ : Stable Q) (he : r.e = 11) :
    Calls Try.prog 24 #[.pointer (some ⟨b, 0, none⟩), r.val] w (ToldPost B w0 b ((S.withOp none).gone) Q) := by
  have hu := Try.underlying62
  have hu2 := Try.underlying66
  have hu3 := Try.underlying38
  have hu4 := Try.underlying31
  have hu5 := Try.underlying78
  have hu6 := Try.underlying46
  obtain ⟨ob, A, c, B1, O1, H2⟩ := told_start h hQ r
  have HH := Lib.hid H2
  have QQ := Lib.hid hQ
  have SR := Lib.hid (show Stable (star (blkP w.heap.size 38 r.cs) (star (blkP (w.heap.size + 1) 66 o.cs) Q)) from (blkP_stable _ _ _).star ((blkP_stable _ _ _).star hQ))
  have B2 := B1.alloc (.cells r.cs 38)
  have B3 := B2.alloc (.cells o.cs 66)
  have O2 := O1.alloc (.cells r.cs 38)
  have b7 := B2.cell 7
  have b77 := B3.cell 7
  have f7 := B3.free 7
  have o0 := O2.cell 0
  have o1 := O2.cell 1
  have o2 := O2.cell 2
  have o3 := O2.cell 3
  have o4 := O2.cell 4
  have o5 := O2.cell 5
  have o6 := O2.cell 6
  obtain ⟨R2, X2⟩ := told_cells H2
  have r0 := R2.cell 0
  have r1 := R2.cell 1
  have r2 := R2.cell 2
  have r3 := R2.cell 3
  have r4 := R2.cell 4
  have x0 := X2.cell 0
  have x1 := X2.cell 1
  have x2 := X2.cell 2
  have x3 := X2.cell 3
  have x4 := X2.cell 4
  have x5 := X2.cell 5
  have HG := Lib.hid (x_gone HH.out SR.out)
  have D1 : (r.e == 11) = true := by simp [he]
  have D2 : (r.e == 0) = false := by simp [he]
  clear h B1 O1 H2 B2 B3 O2 R2 X2 hQ he
  go_enter Try.func24, Try.ntmps24
  go_wp2_with fail
  refine HG.out.mono ?_
  rintro e w3 ⟨rfl, h3⟩
  have H3 := Lib.hid h3
  obtain ⟨R3, X3⟩ := told_cells h3
  clear r0 r1 r2 r3 r4 x0 x1 x2 x3 x4 x5 b7 b77 f7 o0 o1 o2 o3 o4 o5 o6
  have r0 := R3.cell 0
  have r1 := R3.cell 1
  have r2 := R3.cell 2
  have r3 := R3.cell 3
  have r4 := R3.cell 4
  have x0 := X3.cell 0
  have x1 := X3.cell 1
  have x2 := X3.cell 2
  have x3 := X3.cell 3
  have x4 := X3.cell 4
  clear h3 R3 X3
  go_wp2_with fail
  go_ret
  exact ⟨_, _, rfl, told_end QQ.out H3.out _ (by repeat (first | with_reducible (apply Keep.drew) | with_reducible (apply Keep.alloc) | with_reducible (exact Keep.same _ _)))⟩
theorem told_err (h : Holds B w0 w (star (cliP b (S.withOp (some o))) Q)) (hQ : Stable Q) (he1 : r.e ≠ 11) (he2 : r.e ≠ 0) :
    Calls Try.prog 24 #[.pointer (some ⟨b, 0, none⟩), r.val] w (ToldPost B w0 b (S.withOp none) Q) := by
  have hu := Try.underlying62
  have hu2 := Try.underlying66
  have hu3 := Try.underlying38
  have hu4 := Try.underlying31
  have hu5 := Try.underlying78
  have hu6 := Try.underlying46
  obtain ⟨ob, A, c, B1, O1, H2⟩ := told_start h hQ r
  have HH := Lib.hid H2
  have QQ := Lib.hid hQ
  have SR := Lib.hid (show Stable (star (blkP w.heap.size 38 r.cs) (star (blkP (w.heap.size + 1) 66 o.cs) Q)) from (blkP_stable _ _ _).star ((blkP_stable _ _ _).star hQ))
  have B2 := B1.alloc (.cells r.cs 38)
  have B3 := B2.alloc (.cells o.cs 66)
  have O2 := O1.alloc (.cells r.cs 38)
  have b7 := B2.cell 7
  have b77 := B3.cell 7
  have f7 := B3.free 7
  have o0 := O2.cell 0
  have o1 := O2.cell 1
  have o2 := O2.cell 2
  have o3 := O2.cell 3
  have o4 := O2.cell 4
  have o5 := O2.cell 5
  have o6 := O2.cell 6
  obtain ⟨R2, X2⟩ := told_cells H2
  have r0 := R2.cell 0
  have r1 := R2.cell 1
  have r2 := R2.cell 2
  have r3 := R2.cell 3
  have r4 := R2.cell 4
  have x0 := X2.cell 0
  have x1 := X2.cell 1
  have x2 := X2.cell 2
  have x3 := X2.cell 3
  have x4 := X2.cell 4
  have x5 := X2.cell 5
  have D1 : (r.e == 11) = false := by simp [he1]
  have D2 : (r.e == 0) = false := by simp [he2]
  clear h B1 O1 H2 B2 B3 O2 R2 X2 hQ he1 he2
  go_enter Try.func24, Try.ntmps24
  go_wp2_with fail
  go_ret
  exact ⟨_, _, rfl, told_end QQ.out HH.out _ (by repeat (first | with_reducible (apply Keep.drew) | with_reducible (apply Keep.alloc) | with_reducible (exact Keep.same _ _)))⟩
theorem told_close (h : Holds B w0 w (star (cliP b (S.withOp (some o))) Q)) (hQ : Stable Q) (he : r.e = 0) (hk : o.cmd.k = 3) :
    Calls Try.prog 24 #[.pointer (some ⟨b, 0, none⟩), r.val] w (ToldPost B w0 b ((S.withOp none).gone) Q) := by
  have hu := Try.underlying62
  have hu2 := Try.underlying66
  have hu3 := Try.underlying38
  have hu4 := Try.underlying31
  have hu5 := Try.underlying78
  have hu6 := Try.underlying46
  obtain ⟨ob, A, c, B1, O1, H2⟩ := told_start h hQ r
  have HH := Lib.hid H2
  have QQ := Lib.hid hQ
  have SR := Lib.hid (show Stable (star (blkP w.heap.size 38 r.cs) (star (blkP (w.heap.size + 1) 66 o.cs) Q)) from (blkP_stable _ _ _).star ((blkP_stable _ _ _).star hQ))
  have B2 := B1.alloc (.cells r.cs 38)
  have B3 := B2.alloc (.cells o.cs 66)
  have O2 := O1.alloc (.cells r.cs 38)
  have b7 := B2.cell 7
  have b77 := B3.cell 7
  have f7 := B3.free 7
  have o0 := O2.cell 0
  have o1 := O2.cell 1
  have o2 := O2.cell 2
  have o3 := O2.cell 3
  have o4 := O2.cell 4
  have o5 := O2.cell 5
  have o6 := O2.cell 6
  obtain ⟨R2, X2⟩ := told_cells H2
  have r0 := R2.cell 0
  have r1 := R2.cell 1
  have r2 := R2.cell 2
  have r3 := R2.cell 3
  have r4 := R2.cell 4
  have x0 := X2.cell 0
  have x1 := X2.cell 1
  have x2 := X2.cell 2
  have x3 := X2.cell 3
  have x4 := X2.cell 4
  have x5 := X2.cell 5
  have HG := Lib.hid (x_gone HH.out SR.out)
  have D1 : (r.e == 11) = false := by simp [he]
  have D2 : (r.e == 0) = true := by simp [he]
  have E2 : (o.cmd.k == 2) = false := by simp [hk]
  have E3 : (o.cmd.k == 3) = true := by simp [hk]
  clear h B1 O1 H2 B2 B3 O2 R2 X2 hQ he hk
  go_enter Try.func24, Try.ntmps24
  go_wp2_with fail
  refine HG.out.mono ?_
  rintro e w3 ⟨rfl, h3⟩
  have H3 := Lib.hid h3
  obtain ⟨R3, X3⟩ := told_cells h3
  clear r0 r1 r2 r3 r4 x0 x1 x2 x3 x4 x5 b7 b77 f7 o0 o1 o2 o3 o4 o5 o6
  have r0 := R3.cell 0
  have r1 := R3.cell 1
  have r2 := R3.cell 2
  have r3 := R3.cell 3
  have r4 := R3.cell 4
  have x0 := X3.cell 0
  have x1 := X3.cell 1
  have x2 := X3.cell 2
  have x3 := X3.cell 3
  have x4 := X3.cell 4
  clear h3 R3 X3
  go_wp2_with fail
  go_ret
  exact ⟨_, _, rfl, told_end QQ.out H3.out _ (by repeat (first | with_reducible (apply Keep.drew) | with_reducible (apply Keep.alloc) | with_reducible (exact Keep.same _ _)))⟩
theorem told_other (h : Holds B w0 w (star (cliP b (S.withOp (some o))) Q)) (hQ : Stable Q) (he : r.e = 0) (h2 : o.cmd.k ≠ 2) (h3 : o.cmd.k ≠ 3) (h5 : o.cmd.k ≠ 5) (h7 : o.cmd.k ≠ 7) :
    Calls Try.prog 24 #[.pointer (some ⟨b, 0, none⟩), r.val] w (ToldPost B w0 b (S.withOp none) Q) := by
  have hu := Try.underlying62
  have hu2 := Try.underlying66
  have hu3 := Try.underlying38
  have hu4 := Try.underlying31
  have hu5 := Try.underlying78
  have hu6 := Try.underlying46
  obtain ⟨ob, A, c, B1, O1, H2⟩ := told_start h hQ r
  have HH := Lib.hid H2
  have QQ := Lib.hid hQ
  have SR := Lib.hid (show Stable (star (blkP w.heap.size 38 r.cs) (star (blkP (w.heap.size + 1) 66 o.cs) Q)) from (blkP_stable _ _ _).star ((blkP_stable _ _ _).star hQ))
  have B2 := B1.alloc (.cells r.cs 38)
  have B3 := B2.alloc (.cells o.cs 66)
  have O2 := O1.alloc (.cells r.cs 38)
  have b7 := B2.cell 7
  have b77 := B3.cell 7
  have f7 := B3.free 7
  have o0 := O2.cell 0
  have o1 := O2.cell 1
  have o2 := O2.cell 2
  have o3 := O2.cell 3
  have o4 := O2.cell 4
  have o5 := O2.cell 5
  have o6 := O2.cell 6
  obtain ⟨R2, X2⟩ := told_cells H2
  have r0 := R2.cell 0
  have r1 := R2.cell 1
  have r2 := R2.cell 2
  have r3 := R2.cell 3
  have r4 := R2.cell 4
  have x0 := X2.cell 0
  have x1 := X2.cell 1
  have x2 := X2.cell 2
  have x3 := X2.cell 3
  have x4 := X2.cell 4
  have x5 := X2.cell 5
  have D1 : (r.e == 11) = false := by simp [he]
  have D2 : (r.e == 0) = true := by simp [he]
  have E2 : (o.cmd.k == 2) = false := by simp [h2]
  have E3 : (o.cmd.k == 3) = false := by simp [h3]
  have E5 : (o.cmd.k == 5) = false := by simp [h5]
  have E7 : (o.cmd.k == 7) = false := by simp [h7]
  clear h B1 O1 H2 B2 B3 O2 R2 X2 hQ he h2 h3 h5 h7
  go_enter Try.func24, Try.ntmps24
  go_wp2_with fail
  go_ret
  exact ⟨_, _, rfl, told_end QQ.out HH.out _ (by repeat (first | with_reducible (apply Keep.drew) | with_reducible (apply Keep.alloc) | with_reducible (exact Keep.same _ _)))⟩
theorem told_hold (h : Holds B w0 w (star (cliP b (S.withOp (some o))) Q)) (hQ : Stable Q) (he : r.e = 0) (rd : Bool) (hk : o.cmd.k = if rd = true then 7 else 5) (hn : S.L.length ≤ 500000) (hr : Rise S.L) :
    Calls Try.prog 24 #[.pointer (some ⟨b, 0, none⟩), r.val] w (ToldPost B w0 b ((S.withOp none).withL (holdL S.L ⟨o.cmd.nm, rd, r.t⟩)) Q) := by
  have hu := Try.underlying62
  have hu2 := Try.underlying66
  have hu3 := Try.underlying38
  have hu4 := Try.underlying31
  have hu5 := Try.underlying78
  have hu6 := Try.underlying46
  obtain ⟨ob, A, c, B1, O1, H2⟩ := told_start h hQ r
  have HH := Lib.hid H2
  have QQ := Lib.hid hQ
  have SR := Lib.hid (show Stable (star (blkP w.heap.size 38 r.cs) (star (blkP (w.heap.size + 1) 66 o.cs) Q)) from (blkP_stable _ _ _).star ((blkP_stable _ _ _).star hQ))
  have B2 := B1.alloc (.cells r.cs 38)
  have B3 := B2.alloc (.cells o.cs 66)
  have O2 := O1.alloc (.cells r.cs 38)
  have b7 := B2.cell 7
  have b77 := B3.cell 7
  have f7 := B3.free 7
  have o0 := O2.cell 0
  have o1 := O2.cell 1
  have o2 := O2.cell 2
  have o3 := O2.cell 3
  have o4 := O2.cell 4
  have o5 := O2.cell 5
  have o6 := O2.cell 6
  obtain ⟨R2, X2⟩ := told_cells H2
  have r0 := R2.cell 0
  have r1 := R2.cell 1
  have r2 := R2.cell 2
  have r3 := R2.cell 3
  have r4 := R2.cell 4
  have x0 := X2.cell 0
  have x1 := X2.cell 1
  have x2 := X2.cell 2
  have x3 := X2.cell 3
  have x4 := X2.cell 4
  have x5 := X2.cell 5
  have HG := Lib.hid (x_hold HH.out SR.out hn hr ⟨o.cmd.nm, rd, r.t⟩)
  have D1 : (r.e == 11) = false := by simp [he]
  have D2 : (r.e == 0) = true := by simp [he]
  have E2 : (o.cmd.k == 2) = false := by cases rd <;> simp [hk]
  have E3 : (o.cmd.k == 3) = false := by cases rd <;> simp [hk]
  have E5 : (o.cmd.k == 5) = !rd := by cases rd <;> simp [hk]
  have E7 : (o.cmd.k == 7) = rd := by cases rd <;> simp [hk]
  clear h B1 O1 H2 B2 B3 O2 R2 X2 hQ he hk hn hr
  unfold Hd.val Hd.cs at HG
  cases rd
  all_goals
    simp only [Bool.not_true, Bool.not_false] at E5
    go_enter Try.func24, Try.ntmps24
    go_wp2_with fail
    refine HG.out.mono ?_
    rintro e w3 ⟨rfl, h3⟩
    have H3 := Lib.hid h3
    obtain ⟨R3, X3⟩ := told_cells h3
    clear r0 r1 r2 r3 r4 x0 x1 x2 x3 x4 x5 b7 b77 f7 o0 o1 o2 o3 o4 o5 o6
    have r0 := R3.cell 0
    have r1 := R3.cell 1
    have r2 := R3.cell 2
    have r3 := R3.cell 3
    have r4 := R3.cell 4
    have x0 := X3.cell 0
    have x1 := X3.cell 1
    have x2 := X3.cell 2
    have x3 := X3.cell 3
    have x4 := X3.cell 4
    clear h3 R3 X3
    go_wp2_with fail
    go_ret
    exact ⟨_, _, rfl, told_end QQ.out H3.out _ (by repeat (first | with_reducible (apply Keep.drew) | with_reducible (apply Keep.alloc) | with_reducible (exact Keep.same _ _)))⟩
end
end Go.Proofs.Ythlfcinjmljbjaa.A
