/-
  The client: Call. Printed by gen_f3.py.
-/
import Derived.Test.YthlfcinjmljbjaaF2
namespace Go.Proofs.Ythlfcinjmljbjaa.A
open Go.RowKit Go.Proofs.Ythlfcinjmljbjaa.U
set_option linter.unusedVariables false
set_option linter.unusedSimpArgs false
set_option maxRecDepth 100000
set_option maxHeartbeats 1600000

section
variable {B : Nat} {w0 w : World} {Q : SP} {b : Nat} {S : CS} {x y : Cmd} {now : Int}
theorem cli_open0 (h : Holds B w0 w (star (cliP b S) Q)) (ho : S.op = none) : ∃ A c, Holds B w0 w (star (blkP b 62 (S.cs none A S.L.length c)) (star (lrow S A c) Q)) := by
  obtain ⟨p, A, c, h1⟩ := cli_open h
  rw [ho] at h1
  obtain ⟨F, ⟨F1, F2, h3, ⟨F3, F4, ⟨hp, hn⟩, h5, h6⟩, h4⟩, hr⟩ := h1
  subst hp
  have h2 : Holds B w0 w (star (blkP b 62 (S.cs none A S.L.length c)) (star (opP none none) (star (lrow S A c) Q))) := ⟨F, ⟨F1, F2, h3, ⟨F3, F4, ⟨rfl, hn⟩, h5, h6⟩, h4⟩, hr⟩
  have h7 : Holds B w0 w (star (opP none none) (star (blkP b 62 (S.cs none A S.L.length c)) (star (lrow S A c) Q))) := h2.perm (by ac_rfl)
  exact ⟨A, c, h7.drop⟩
theorem cli_close0 {A : Option Addr} {c : Nat} (h : Holds B w0 w (star (blkP b 62 (S.cs none A S.L.length c)) (star (lrow S A c) Q))) (hQ : Stable Q) (ho : S.op = none) : Holds B w0 w (star (cliP b S) Q) := by
  have h1 := op_none h ((blkP_stable _ _ _).star ((rowP_stable _ _ _ _ _).star hQ))
  refine cli_close (p := none) (A := A) (c := c) (h1.perm ?_)
  rw [ho]
  ac_rfl
theorem cli_close1 {A : Option Addr} {c ob : Nat} {o : Oc} (h : Holds B w0 w (star (blkP b 62 (S.cs (some ⟨ob, 0, none⟩) A S.L.length c)) (star (blkP ob 66 o.cs) (star (lrow S A c) Q)))) : Holds B w0 w (star (cliP b (S.withOp (some o))) Q) := by
  have h1 : Holds B w0 w (star (blkP ob 66 o.cs) (star (blkP b 62 (S.cs (some ⟨ob, 0, none⟩) A S.L.length c)) (star (lrow S A c) Q))) := h.perm (by ac_rfl)
  have h2 := op_close h1
  refine cli_close (S := S.withOp (some o)) (p := some ⟨ob, 0, none⟩) (A := A) (c := c) (h2.perm ?_)
  show _ = star (blkP b 62 (S.cs (some ⟨ob, 0, none⟩) A S.L.length c)) (star (opP (some ⟨ob, 0, none⟩) (some o)) (star (lrow S A c) Q))
  ac_rfl
abbrev three (b g c : Nat) (S : CS) (gs cs : Array Value) (Q : SP) : SP := star (cliP b S) (star (blkP g 31 gs) (star (blkP c 31 cs) Q))
theorem three_stable {g c : Nat} {gs cs : Array Value} (hQ : Stable Q) : Stable (three b g c S gs cs Q) := (cliP_stable _ _).star ((blkP_stable _ _ _).star ((blkP_stable _ _ _).star hQ))
theorem three_cells {g c : Nat} {gs cs : Array Value} (h : Holds B w0 w (three b g c S gs cs Q)) : Blk w g 31 gs ∧ Blk w c 31 cs := by
  constructor
  · exact blk_at (show Holds B w0 w (star (blkP g 31 gs) (star (cliP b S) (star (blkP c 31 cs) Q))) from h.perm (by unfold three; ac_rfl))
  · exact blk_at (show Holds B w0 w (star (blkP c 31 cs) (star (cliP b S) (star (blkP g 31 gs) Q))) from h.perm (by unfold three; ac_rfl))
theorem three_set {g c : Nat} {gs cs : Array Value} (h : Holds B w0 w (three b g c S gs cs Q)) (hQ : Stable Q) (i : Nat) (u : Value) : Holds B w0 (w.setCell ⟨c, i, none⟩ u) (three b g c S gs (cs.setIfInBounds i u) Q) := by
  have h1 : Holds B w0 w (star (blkP c 31 cs) (star (cliP b S) (star (blkP g 31 gs) Q))) := h.perm (by unfold three; ac_rfl)
  exact (h1.setBlk ((cliP_stable _ _).star ((blkP_stable _ _ _).star hQ)) i u).perm (by unfold three; ac_rfl)
theorem three_end {g c : Nat} {gs cs : Array Value} (h : Holds B w0 w (three b g c S gs cs Q)) : Holds B w0 w (star (cliP b S) Q) := by
  have h1 : Holds B w0 w (star (blkP g 31 gs) (star (blkP c 31 cs) (star (cliP b S) Q))) := h.perm (by unfold three; ac_rfl)
  exact h1.drop.drop
/-- A client of no open call: its cells. -/
theorem three_open {g c : Nat} {gs cs : Array Value} (h : Holds B w0 w (three b g c S gs cs Q)) (ho : S.op = none) : ∃ A k, Blk w b 62 (S.cs none A S.L.length k) := by
  obtain ⟨A, k, h1⟩ := cli_open0 h ho
  exact ⟨A, k, blk_at h1⟩
theorem three_put {g c : Nat} {gs cs : Array Value} (h : Holds B w0 w (three b g c S gs cs Q)) (hQ : Stable Q) (ho : S.op = none) (i : Nat) (u : Value) (S' : CS) (ho' : S'.op = none) (hL : S'.L = S.L)
    (hc : ∀ A k, (S.cs none A S.L.length k).setIfInBounds i u = S'.cs none A S.L.length k) : Holds B w0 (w.setCell ⟨b, i, none⟩ u) (three b g c S' gs cs Q) := by
  obtain ⟨A, k, h1⟩ := cli_open0 h ho
  have h2 := h1.setBlk ((rowP_stable _ _ _ _ _).star ((blkP_stable _ _ _).star ((blkP_stable _ _ _).star hQ))) i u
  rw [hc] at h2
  refine cli_close0 (A := A) (c := k) ?_ ((blkP_stable _ _ _).star ((blkP_stable _ _ _).star hQ)) ho'
  rw [show lrow S' A k = lrow S A k by show rowP 46 3 (.slice A S'.L.length k) S'.L.length (hds S'.L) = _; rw [hL], hL]
  exact h2
/-- The call is opened: what its cell is, and what holds behind it. -/
theorem three_call {g c : Nat} {gs cs : Array Value} (h : Holds B w0 w (three b g c S gs cs Q)) (hQ : Stable Q) (ho : S.op = none) (o : Oc) (ob : Nat) (hob : w.heap.size = ob) :
    (∃ v, (w.alloc (.cells o.cs 66)).cell? ⟨b, 7, none⟩ = some v) ∧ (w.alloc (.cells o.cs 66)).frozen? ⟨b, 7, none⟩ = false ∧
    Holds B w0 ((w.alloc (.cells o.cs 66)).setCell ⟨b, 7, none⟩ (.pointer (some ⟨ob, 0, none⟩))) (three b g c (S.withOp (some o)) gs cs Q) := by
  subst hob
  obtain ⟨A, k, h1⟩ := cli_open0 h ho
  have SR : Stable (star (lrow S A k) (star (blkP g 31 gs) (star (blkP c 31 cs) Q))) := (rowP_stable _ _ _ _ _).star ((blkP_stable _ _ _).star ((blkP_stable _ _ _).star hQ))
  have h2 := h1.newBlk ((blkP_stable _ _ _).star SR) 66 o.cs
  have h3 : Holds B w0 _ (star (blkP b 62 (S.cs none A S.L.length k)) (star (blkP w.heap.size 66 o.cs) (star (lrow S A k) (star (blkP g 31 gs) (star (blkP c 31 cs) Q))))) := h2.perm (by ac_rfl)
  have h4 := h3.setBlk ((blkP_stable _ _ _).star SR) 7 (.pointer (some ⟨w.heap.size, 0, none⟩))
  exact ⟨⟨_, (blk_at h3).cell 7⟩, (blk_at h3).free 7, cli_close1 h4⟩
theorem three_nil {g c : Nat} {gs cs : Array Value} (h : Holds B w0 w (three b g c S gs cs Q)) (hQ : Stable Q) (ho : S.op = none) : Holds B w0 (w.setCell ⟨b, 11, none⟩ (.slice none 0 0)) (three b g c (S.withL []) gs cs Q) := by
  obtain ⟨A, k, h1⟩ := cli_open0 h ho
  have SQ : Stable (star (blkP g 31 gs) (star (blkP c 31 cs) Q)) := (blkP_stable _ _ _).star ((blkP_stable _ _ _).star hQ)
  have h2 := h1.setBlk ((rowP_stable _ _ _ _ _).star SQ) 11 (.slice none 0 0)
  have h3 : Holds B w0 _ (star (lrow S A k) (star (blkP b 62 ((S.withL []).cs none none 0 0)) (star (blkP g 31 gs) (star (blkP c 31 cs) Q)))) := h2.perm (by
    show star (blkP b 62 ((S.withL []).cs none none 0 0)) (star (lrow S A k) (star (blkP g 31 gs) (star (blkP c 31 cs) Q))) = _
    ac_rfl)
  have h4 : Holds B w0 _ (star (lrow (S.withL []) none 0) (star (blkP b 62 ((S.withL []).cs none none 0 0)) (star (blkP g 31 gs) (star (blkP c 31 cs) Q)))) := h3.drop.newRow ((blkP_stable _ _ _).star SQ) (Row.nil _ 46 3) (Keep.same _ _) (fun k hk => by simp [Value.ownBlock] at hk)
  refine cli_close0 (S := S.withL []) (A := none) (c := 0) ?_ SQ ho
  exact h4.perm (by
    show _ = star (blkP b 62 ((S.withL []).cs none none 0 0)) (star (lrow (S.withL []) none 0) (star (blkP g 31 gs) (star (blkP c 31 cs) Q)))
    ac_rfl)
/-- The command to be checked. -/
abbrev askC (x : Cmd) : Cmd := ⟨x.k, 1, 1, x.nm, x.n⟩
/-- The error of a call. -/
def callE (S : CS) (x : Cmd) : Int :=
  if x.k < 2 ∨ x.k = 4 then 1 else if mayB (askC x) = false then 1 else if S.op.isSome = true ∨ (x.k = 2 ∧ S.had = true) then 10 else if x.k = 2 then 0 else if S.session = 0 then 11 else 0
/-- The command sent. -/
def callC (S : CS) (x : Cmd) : Cmd := if x.k = 2 then ⟨x.k, S.id, S.life, x.nm, x.n⟩ else ⟨x.k, S.session, S.seq + 1, x.nm, x.n⟩
def callL (S : CS) (x : Cmd) : List Hd := if x.k = 6 then letL S.L x.nm false else if x.k = 8 then letL S.L x.nm true else if x.k = 3 then [] else S.L
def callS (S : CS) (x : Cmd) (now : Int) : CS := { S with seq := if x.k = 2 then S.seq else S.seq + 1, L := callL S x, op := some ⟨callC S x, now, now⟩ }
theorem call_start (h : Holds B w0 w (star (cliP b S) Q)) (hQ : Stable Q) (x y : Cmd) : Holds B w0 ((w.alloc (.cells x.cs 31)).alloc (.cells y.cs 31)) (three b w.heap.size (w.heap.size + 1) S x.cs y.cs Q) := by
  have h1 := h.newBlk ((cliP_stable _ _).star hQ) 31 x.cs
  have h2 := h1.newBlk ((blkP_stable _ _ _).star ((cliP_stable _ _).star hQ)) 31 y.cs
  rw [size_alloc] at h2
  exact h2.perm (by unfold three; ac_rfl)
theorem call_arg (h : Holds B w0 w (star (cliP b S) Q)) (hQ : Stable Q) (hk : x.k < 2 ∨ x.k = 4) :
    Calls Try.prog 9 #[.pointer (some ⟨b, 0, none⟩), x.val, .int .i64 now] w (fun e w' => e = .returned (.tuple #[.slice none 0 0, .int .i64 1]) ∧ Holds B w0 w' (star (cliP b S) Q)) := by
  have hu := Try.underlying62
  have hu2 := Try.underlying31
  have hu3 := Try.underlying66
  have HH := Lib.hid h
  have QQ := Lib.hid hQ
  have X0 := Blk.fresh w 31 x.cs
  unfold Cmd.cs at X0
  have q0 := X0.cell 0
  have q1 := X0.cell 1
  have q2 := X0.cell 2
  have q3 := X0.cell 3
  have q4 := X0.cell 4
  clear X0
  clear h hQ
  unfold Cmd.val Cmd.cs
  by_cases h2 : x.k < 2
  · have D : decide (x.k < 2) = true := decide_eq_true h2
    clear hk h2
    go_enter Try.func9, Try.ntmps9
    go_wp2_with fail
    go_ret2
    exact ⟨rfl, HH.out.kept ((cliP_stable _ _).star QQ.out) (by repeat (first | with_reducible (apply Keep.drew) | with_reducible (apply Keep.alloc) | with_reducible (exact Keep.same _ _)))⟩
  · have D : decide (x.k < 2) = false := decide_eq_false h2
    have D4 : (x.k == 4) = true := by rcases hk with h | h; exact absurd h h2; simp [h]
    clear hk h2
    go_enter Try.func9, Try.ntmps9
    go_wp2_with fail
    go_ret2
    exact ⟨rfl, HH.out.kept ((cliP_stable _ _).star QQ.out) (by repeat (first | with_reducible (apply Keep.drew) | with_reducible (apply Keep.alloc) | with_reducible (exact Keep.same _ _)))⟩
theorem call_check (h : Holds B w0 w (star (cliP b S) Q)) (hQ : Stable Q) (h2 : ¬ x.k < 2) (h4 : x.k ≠ 4) (hm : mayB (askC x) = false) :
    Calls Try.prog 9 #[.pointer (some ⟨b, 0, none⟩), x.val, .int .i64 now] w (fun e w' => e = .returned (.tuple #[.slice none 0 0, .int .i64 1]) ∧ Holds B w0 w' (star (cliP b S) Q)) := by
  have hu := Try.underlying62
  have hu2 := Try.underlying31
  have hu3 := Try.underlying66
  have HH := Lib.hid h
  have QQ := Lib.hid hQ
  have X0 := Blk.fresh w 31 x.cs
  unfold Cmd.cs at X0
  have q0 := X0.cell 0
  have q1 := X0.cell 1
  have q2 := X0.cell 2
  have q3 := X0.cell 3
  have q4 := X0.cell 4
  clear X0
  have D := decide_eq_false h2
  have D4 : (x.k == 4) = false := by simp [h4]
  have HS := Lib.hid (call_start h hQ x (askC x))
  have HC := Lib.hid (check_calls ((w.alloc (.cells x.cs 31)).alloc (.cells (askC x).cs 31)) (askC x))
  rw [show okE (mayB (askC x)) = 1 by rw [hm]; rfl] at HC
  unfold Cmd.val Cmd.cs at HC
  have X1 := (three_cells HS.out).1
  have Y1 := (three_cells HS.out).2
  unfold Cmd.cs at X1 Y1
  have s0 := X1.cell 0
  have s1 := X1.cell 1
  have s2 := X1.cell 2
  have s3 := X1.cell 3
  have s4 := X1.cell 4
  have y0 := Y1.cell 0
  have y1 := Y1.cell 1
  have y2 := Y1.cell 2
  have y3 := Y1.cell 3
  have y4 := Y1.cell 4
  clear X1 Y1
  clear h hQ h2 h4 hm
  unfold Cmd.val Cmd.cs
  go_enter Try.func9, Try.ntmps9
  go_wp2_with fail
  clear q0 q1 q2 q3 q4
  refine HC.out.mono ?_
  rintro e w3 ⟨rfl, hk3⟩
  have H3 := Lib.hid (HS.out.kept (three_stable QQ.out) hk3)
  have X3 := (three_cells H3.out).1
  have Y3 := (three_cells H3.out).2
  unfold Cmd.cs at X3 Y3
  clear hk3 s0 s1 s2 s3 s4 y0 y1 y2 y3 y4
  have s0 := X3.cell 0
  have s1 := X3.cell 1
  have s2 := X3.cell 2
  have s3 := X3.cell 3
  have s4 := X3.cell 4
  have y0 := Y3.cell 0
  have y1 := Y3.cell 1
  have y2 := Y3.cell 2
  have y3 := Y3.cell 3
  have y4 := Y3.cell 4
  clear X3 Y3
  go_wp2_with fail
  go_ret2
  exact ⟨rfl, (three_end H3.out).kept ((cliP_stable _ _).star QQ.out) (by repeat (first | with_reducible (apply Keep.drew) | with_reducible (apply Keep.alloc) | with_reducible (exact Keep.same _ _)))⟩
theorem call_busy (h : Holds B w0 w (star (cliP b S) Q)) (hQ : Stable Q) (h2 : ¬ x.k < 2) (h4 : x.k ≠ 4) (hm : mayB (askC x) = true) (o : Oc) (ho : S.op = some o) :
    Calls Try.prog 9 #[.pointer (some ⟨b, 0, none⟩), x.val, .int .i64 now] w (fun e w' => e = .returned (.tuple #[.slice none 0 0, .int .i64 10]) ∧ Holds B w0 w' (star (cliP b S) Q)) := by
  have hu := Try.underlying62
  have hu2 := Try.underlying31
  have hu3 := Try.underlying66
  have HH := Lib.hid h
  have QQ := Lib.hid hQ
  have X0 := Blk.fresh w 31 x.cs
  unfold Cmd.cs at X0
  have q0 := X0.cell 0
  have q1 := X0.cell 1
  have q2 := X0.cell 2
  have q3 := X0.cell 3
  have q4 := X0.cell 4
  clear X0
  have D := decide_eq_false h2
  have D4 : (x.k == 4) = false := by simp [h4]
  have HS := Lib.hid (call_start h hQ x (askC x))
  have HC := Lib.hid (check_calls ((w.alloc (.cells x.cs 31)).alloc (.cells (askC x).cs 31)) (askC x))
  rw [show okE (mayB (askC x)) = 0 by rw [hm]; rfl] at HC
  unfold Cmd.val Cmd.cs at HC
  have X1 := (three_cells HS.out).1
  have Y1 := (three_cells HS.out).2
  unfold Cmd.cs at X1 Y1
  have s0 := X1.cell 0
  have s1 := X1.cell 1
  have s2 := X1.cell 2
  have s3 := X1.cell 3
  have s4 := X1.cell 4
  have y0 := Y1.cell 0
  have y1 := Y1.cell 1
  have y2 := Y1.cell 2
  have y3 := Y1.cell 3
  have y4 := Y1.cell 4
  clear X1 Y1
  have HO := Lib.hid ho
  cases D2 : (x.k == 2)
  all_goals
    clear h hQ h2 h4 hm ho
    unfold Cmd.val Cmd.cs
    go_enter Try.func9, Try.ntmps9
    go_wp2_with fail
    clear q0 q1 q2 q3 q4
    refine HC.out.mono ?_
    rintro e w3 ⟨rfl, hk3⟩
    have H3 := Lib.hid (HS.out.kept (three_stable QQ.out) hk3)
    have X3 := (three_cells H3.out).1
    have Y3 := (three_cells H3.out).2
    unfold Cmd.cs at X3 Y3
    clear hk3 s0 s1 s2 s3 s4 y0 y1 y2 y3 y4
    have s0 := X3.cell 0
    have s1 := X3.cell 1
    have s2 := X3.cell 2
    have s3 := X3.cell 3
    have s4 := X3.cell 4
    have y0 := Y3.cell 0
    have y1 := Y3.cell 1
    have y2 := Y3.cell 2
    have y3 := Y3.cell 3
    have y4 := Y3.cell 4
    clear X3 Y3
    obtain ⟨p, A, c, g1⟩ := cli_open H3.out
    have Z := blk_at g1
    have g2 : Holds B w0 w3 (star (opP p (some o)) (star (blkP b 62 (S.cs p A S.L.length c)) (star (lrow S A c) (star (blkP w.heap.size 31 x.cs) (star (blkP (w.heap.size + 1) 31 (askC x).cs) Q))))) := g1.perm (by rw [HO.out]; ac_rfl)
    obtain ⟨ob, rfl, g3⟩ := op_open g2
    have z7 := Z.cell 7
    clear g1 g2 g3 Z
    go_wp2_with fail
    go_ret2
    exact ⟨rfl, (three_end H3.out).kept ((cliP_stable _ _).star QQ.out) (by repeat (first | with_reducible (apply Keep.drew) | with_reducible (apply Keep.alloc) | with_reducible (exact Keep.same _ _)))⟩
theorem call_had (h : Holds B w0 w (star (cliP b S) Q)) (hQ : Stable Q) (h2 : ¬ x.k < 2) (h4 : x.k ≠ 4) (hm : mayB (askC x) = true) (ho : S.op = none) (hk : x.k = 2) (hd : S.had = true) :
    Calls Try.prog 9 #[.pointer (some ⟨b, 0, none⟩), x.val, .int .i64 now] w (fun e w' => e = .returned (.tuple #[.slice none 0 0, .int .i64 10]) ∧ Holds B w0 w' (star (cliP b S) Q)) := by
  have hu := Try.underlying62
  have hu2 := Try.underlying31
  have hu3 := Try.underlying66
  have HH := Lib.hid h
  have QQ := Lib.hid hQ
  have X0 := Blk.fresh w 31 x.cs
  unfold Cmd.cs at X0
  have q0 := X0.cell 0
  have q1 := X0.cell 1
  have q2 := X0.cell 2
  have q3 := X0.cell 3
  have q4 := X0.cell 4
  clear X0
  have D := decide_eq_false h2
  have D4 : (x.k == 4) = false := by simp [h4]
  have HS := Lib.hid (call_start h hQ x (askC x))
  have HC := Lib.hid (check_calls ((w.alloc (.cells x.cs 31)).alloc (.cells (askC x).cs 31)) (askC x))
  rw [show okE (mayB (askC x)) = 0 by rw [hm]; rfl] at HC
  unfold Cmd.val Cmd.cs at HC
  have X1 := (three_cells HS.out).1
  have Y1 := (three_cells HS.out).2
  unfold Cmd.cs at X1 Y1
  have s0 := X1.cell 0
  have s1 := X1.cell 1
  have s2 := X1.cell 2
  have s3 := X1.cell 3
  have s4 := X1.cell 4
  have y0 := Y1.cell 0
  have y1 := Y1.cell 1
  have y2 := Y1.cell 2
  have y3 := Y1.cell 3
  have y4 := Y1.cell 4
  clear X1 Y1
  have HO := Lib.hid ho
  have HD := Lib.hid hd
  have D2 : (x.k == 2) = true := by simp [hk]
  clear h hQ h2 h4 hm ho hd hk
  unfold Cmd.val Cmd.cs
  go_enter Try.func9, Try.ntmps9
  go_wp2_with fail
  clear q0 q1 q2 q3 q4
  refine HC.out.mono ?_
  rintro e w3 ⟨rfl, hk3⟩
  have H3 := Lib.hid (HS.out.kept (three_stable QQ.out) hk3)
  have X3 := (three_cells H3.out).1
  have Y3 := (three_cells H3.out).2
  unfold Cmd.cs at X3 Y3
  clear hk3 s0 s1 s2 s3 s4 y0 y1 y2 y3 y4
  have s0 := X3.cell 0
  have s1 := X3.cell 1
  have s2 := X3.cell 2
  have s3 := X3.cell 3
  have s4 := X3.cell 4
  have y0 := Y3.cell 0
  have y1 := Y3.cell 1
  have y2 := Y3.cell 2
  have y3 := Y3.cell 3
  have y4 := Y3.cell 4
  clear X3 Y3
  obtain ⟨A, c, Z⟩ := three_open H3.out HO.out
  have z7 := Z.cell 7
  have z6 : w3.cell? ⟨b, 6, none⟩ = some (.bool true) := by rw [Z.cell 6]; show some (Value.bool S.had) = _; rw [HD.out]
  clear Z
  go_wp2_with fail
  go_ret2
  exact ⟨rfl, (three_end H3.out).kept ((cliP_stable _ _).star QQ.out) (by repeat (first | with_reducible (apply Keep.drew) | with_reducible (apply Keep.alloc) | with_reducible (exact Keep.same _ _)))⟩
theorem call_session (h : Holds B w0 w (star (cliP b S) Q)) (hQ : Stable Q) (h2 : ¬ x.k < 2) (h4 : x.k ≠ 4) (hm : mayB (askC x) = true) (ho : S.op = none) (hk : x.k ≠ 2) (hs : S.session = 0) :
    Calls Try.prog 9 #[.pointer (some ⟨b, 0, none⟩), x.val, .int .i64 now] w (fun e w' => e = .returned (.tuple #[.slice none 0 0, .int .i64 11]) ∧ Holds B w0 w' (star (cliP b S) Q)) := by
  have hu := Try.underlying62
  have hu2 := Try.underlying31
  have hu3 := Try.underlying66
  have HH := Lib.hid h
  have QQ := Lib.hid hQ
  have X0 := Blk.fresh w 31 x.cs
  unfold Cmd.cs at X0
  have q0 := X0.cell 0
  have q1 := X0.cell 1
  have q2 := X0.cell 2
  have q3 := X0.cell 3
  have q4 := X0.cell 4
  clear X0
  have D := decide_eq_false h2
  have D4 : (x.k == 4) = false := by simp [h4]
  have HS := Lib.hid (call_start h hQ x (askC x))
  have HC := Lib.hid (check_calls ((w.alloc (.cells x.cs 31)).alloc (.cells (askC x).cs 31)) (askC x))
  rw [show okE (mayB (askC x)) = 0 by rw [hm]; rfl] at HC
  unfold Cmd.val Cmd.cs at HC
  have X1 := (three_cells HS.out).1
  have Y1 := (three_cells HS.out).2
  unfold Cmd.cs at X1 Y1
  have s0 := X1.cell 0
  have s1 := X1.cell 1
  have s2 := X1.cell 2
  have s3 := X1.cell 3
  have s4 := X1.cell 4
  have y0 := Y1.cell 0
  have y1 := Y1.cell 1
  have y2 := Y1.cell 2
  have y3 := Y1.cell 3
  have y4 := Y1.cell 4
  clear X1 Y1
  have HO := Lib.hid ho
  have HD := Lib.hid hs
  have D2 : (x.k == 2) = false := by simp [hk]
  clear h hQ h2 h4 hm ho hs hk
  unfold Cmd.val Cmd.cs
  go_enter Try.func9, Try.ntmps9
  go_wp2_with fail
  clear q0 q1 q2 q3 q4
  refine HC.out.mono ?_
  rintro e w3 ⟨rfl, hk3⟩
  have H3 := Lib.hid (HS.out.kept (three_stable QQ.out) hk3)
  have X3 := (three_cells H3.out).1
  have Y3 := (three_cells H3.out).2
  unfold Cmd.cs at X3 Y3
  clear hk3 s0 s1 s2 s3 s4 y0 y1 y2 y3 y4
  have s0 := X3.cell 0
  have s1 := X3.cell 1
  have s2 := X3.cell 2
  have s3 := X3.cell 3
  have s4 := X3.cell 4
  have y0 := Y3.cell 0
  have y1 := Y3.cell 1
  have y2 := Y3.cell 2
  have y3 := Y3.cell 3
  have y4 := Y3.cell 4
  clear X3 Y3
  obtain ⟨A, c, Z⟩ := three_open H3.out HO.out
  have z7 := Z.cell 7
  have z4 : w3.cell? ⟨b, 4, none⟩ = some (.int .i64 0) := by rw [Z.cell 4]; show some (Value.int .i64 S.session) = _; rw [HD.out]
  clear Z
  go_wp2_with fail
  go_ret2
  exact ⟨rfl, (three_end H3.out).kept ((cliP_stable _ _).star QQ.out) (by repeat (first | with_reducible (apply Keep.drew) | with_reducible (apply Keep.alloc) | with_reducible (exact Keep.same _ _)))⟩
end
end Go.Proofs.Ythlfcinjmljbjaa.A
