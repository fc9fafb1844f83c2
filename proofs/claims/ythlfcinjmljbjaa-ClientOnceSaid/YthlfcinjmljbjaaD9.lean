/-
  The client: send beside other things.
-/
import Derived.Test.YthlfcinjmljbjaaD8
namespace Go.Proofs.Ythlfcinjmljbjaa.A
open Go.RowKit Go.Proofs.Ythlfcinjmljbjaa.U
set_option linter.unusedVariables false
set_option linter.unusedSimpArgs false
set_option maxRecDepth 100000

section
variable {B : Nat} {w0 w : World} {b : Nat} {S : CS} {Q R : SP} {p : Option Addr} {o : Oc}
theorem op_open (h : Holds B w0 w (star (opP p (some o)) R)) : ∃ ob, p = some ⟨ob, 0, none⟩ ∧ Holds B w0 w (star (blkP ob 66 o.cs) R) := by
  obtain ⟨F, ⟨F1, F2, ⟨ob, e, h1⟩, h2, h3, h4⟩, hr⟩ := h
  exact ⟨ob, e, F, ⟨F1, F2, h1, h2, h3, h4⟩, hr⟩
theorem op_close {ob : Nat} (h : Holds B w0 w (star (blkP ob 66 o.cs) R)) : Holds B w0 w (star (opP (some ⟨ob, 0, none⟩) (some o)) R) := by
  obtain ⟨F, ⟨F1, F2, h1, h2, h3, h4⟩, hr⟩ := h
  exact ⟨F, ⟨F1, F2, ⟨ob, rfl, h1⟩, h2, h3, h4⟩, hr⟩
def CS.withOp (S : CS) (o : Option Oc) : CS := { S with op := o }
theorem x_send (h : Holds B w0 w (star (cliP b (S.withOp (some o))) Q)) (hQ : Stable Q) (hid : 0 ≤ S.id ∧ S.id < 8) (now : Int) :
    Calls Try.prog 21 #[.pointer (some ⟨b, 0, none⟩), .int .i64 now] w (fun e w' => ∃ g, e = .returned (.slice (some ⟨g, 0, none⟩) 1 1) ∧
      Holds B w0 w' (star (rowP 40 20 (.slice (some ⟨g, 0, none⟩) 1 1) 1 (askCs S o).toList) (star (cliP b (S.withOp (some ⟨o.cmd, o.first, now⟩))) Q))) := by
  obtain ⟨p, A, c, h1⟩ := cli_open h
  have B1 : Blk w b 62 (S.cs p A S.L.length c) := blk_at h1
  have h2 : Holds B w0 w (star (opP p (some o)) (star (blkP b 62 (S.cs p A S.L.length c)) (star (lrow S A c) Q))) := h1.perm (by
    show star (blkP b 62 (S.cs p A S.L.length c)) (star (opP p (some o)) (star (lrow S A c) Q)) = _
    ac_rfl)
  obtain ⟨ob, rfl, h3⟩ := op_open h2
  have O1 := blk_at h3
  have hne : ob ≠ b := fun e => by
    subst e
    have x : w.heap[ob]? = _ := O1
    have y : w.heap[ob]? = _ := B1
    rw [x] at y
    injection y with y
    injection y with _ y
    exact absurd y (by decide)
  have SR : Stable (star (blkP b 62 (S.cs (some ⟨ob, 0, none⟩) A S.L.length c)) (star (lrow S A c) Q)) := (blkP_stable _ _ _).star ((rowP_stable _ _ _ _ _).star hQ)
  have h4 : Holds B w0 _ (star (blkP ob 66 (Oc.cs ⟨o.cmd, o.first, now⟩)) (star (blkP b 62 (S.cs (some ⟨ob, 0, none⟩) A S.L.length c)) (star (lrow S A c) Q))) := h3.setBlk SR 6 (.int .i64 now)
  have h5 := op_close h4
  have h6 : Holds B w0 _ (star (cliP b (S.withOp (some ⟨o.cmd, o.first, now⟩))) Q) := cli_close (S := S.withOp (some ⟨o.cmd, o.first, now⟩)) (p := some ⟨ob, 0, none⟩) (A := A) (c := c) (h5.perm (by
    show _ = star (blkP b 62 (S.cs (some ⟨ob, 0, none⟩) A S.L.length c)) (star (opP (some ⟨ob, 0, none⟩) (some ⟨o.cmd, o.first, now⟩)) (star (lrow S A c) Q))
    ac_rfl))
  refine (send21 w b ob S o A S.L.length c now B1 O1 hne hid).mono ?_
  rintro e w' ⟨rfl, rfl⟩
  refine ⟨w.heap.size, rfl, ?_⟩
  have R1 := Row.fresh (w.setCell ⟨ob, 6, none⟩ (.int .i64 now)) 40 20 1 (askCs S o) rfl (by unfold maxLen; omega)
  rw [show (w.setCell ⟨ob, 6, none⟩ (.int .i64 now)).heap.size = w.heap.size by simp] at R1
  exact h6.newRow ((cliP_stable _ _).star hQ) (R1.keep ((Keep.same Nothing _).drew) (fun _ _ h => h)) (((Keep.same Nothing _).alloc _).drew) (fun k hk => by simp [Value.ownBlock] at hk; simp; omega)
end
end Go.Proofs.Ythlfcinjmljbjaa.A
