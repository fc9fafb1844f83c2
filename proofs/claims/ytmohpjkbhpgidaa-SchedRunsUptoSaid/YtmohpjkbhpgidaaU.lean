/-
  Small words of this session's own: a world after some draws; a call that only computes.
-/
import Derived.Test.YtmohpjkbhpgidaaProg
import Derived.WalkKit
import Derived.KernelRfl
import Derived.RowKit3
import Derived.Deep.Draws
import Derived.Deep.QuietTactic
import Derived.BigQuiet
import Derived.WideLaws
import Derived.Lib.Hide
import Derived.Laws.BitsLemmas
import Derived.WalkLawsBesides
import Derived.WalkSpells
namespace Go.Proofs.Ytmohpjkbhpgidaa.U
open Go.RowKit

/-- The world has at most drawn. -/
structure Drew (w w' : World) : Prop where
  mk :: (out : ∃ n, w' = w.drewN n)
theorem Drew.same (w : World) : Drew w w := ⟨⟨0, rfl⟩⟩
theorem Drew.more {w w' : World} (h : Drew w w') (n : Nat) : Drew w (w'.drewN n) := by
  obtain ⟨m, rfl⟩ := h.out
  exact ⟨⟨m + n, by rw [World.drewN_drewN]⟩⟩
theorem Drew.one {w w' : World} (h : Drew w w') : Drew w w'.drew := h.more 1
theorem Drew.grown {w w' : World} (h : Drew w w') : Grown w w' := by
  obtain ⟨n, rfl⟩ := h.out
  induction n with
  | zero => exact Grown.refl _
  | succ n ih => have := ih ⟨⟨n, rfl⟩⟩; rw [← World.drew_drewN]; exact Grown.drew this
theorem Drew.below {w w' : World} (h : Drew w w') (B : Nat) : Below B w w' := by
  obtain ⟨n, rfl⟩ := h.out
  exact ⟨rfl, rfl, rfl, Nat.le_refl _, fun _ _ => rfl⟩

theorem grown_drewN {w w' : World} (h : Grown w w') (n : Nat) : Grown w (w'.drewN n) := by
  induction n with
  | zero => exact h
  | succ n ih => rw [← World.drew_drewN]; exact Grown.drew ih

/-- Below the old end nothing turns: a new block, a draw. -/
theorem bAlloc {w W : World} (h : Below w.heap.size w W) (o : Obj) : Below w.heap.size w (W.alloc o) := h.alloc h.size o
theorem bDrew {B : Nat} {w W : World} (h : Below B w W) : Below B w W.drew := h.drew
theorem bDrewN {B : Nat} {w W : World} (h : Below B w W) (n : Nat) : Below B w (W.drewN n) := ⟨h.os, h.tape, h.output, h.size, h.block⟩
theorem bThen {w W w' : World} (h : Below w.heap.size w W) (k : Below W.heap.size W w') : Below w.heap.size w w' := h.trans (k.mono h.size)
theorem bDrawn {B : Nat} {w W W' : World} (h : Below B w W) (k : Drew W W') : Below B w W' := by
  obtain ⟨n, rfl⟩ := k.out
  exact bDrewN h n

/-- A call that only computes: it answers v, and the world has at most drawn. -/
def Pure (w : World) (v : Value) (e : Ending) (w' : World) : Prop := e = .returned v ∧ Drew w w'
theorem Pure.ret {w : World} {v : Value} {e : Ending} {w' : World} (h : Pure w v e w') : e = .returned v ∧ Grown w w' := ⟨h.1, h.2.grown⟩
theorem Pure.q {P : Program} {f : FuncId} {args : Array Value} {w : World} {n : Nat} {v : Value} (h : Calls P f args (w.drewN n) (Pure (w.drewN n) v)) :
    Calls P f args (w.drewN n) fun e w'' => e = .returned v ∧ ∃ m, w'' = w.drewN m :=
  Calls.quiet_of (h.mono fun _ _ k => ⟨k.1, k.2.out⟩)
/-- .. behind an elder draw, whose count the walk has joined. -/
theorem Pure.qa {P : Program} {f : FuncId} {args : Array Value} {w : World} {a n : Nat} {v : Value} (h : Calls P f args (w.drewN (a + n)) (Pure (w.drewN (a + n)) v)) :
    Calls P f args (w.drewN (a + n)) fun e w'' => e = .returned v ∧ ∃ m, w'' = w.drewN (a + m) :=
  h.mono fun _ _ k => ⟨k.1, by obtain ⟨m, hm⟩ := k.2.out; exact ⟨n + m, by rw [hm, World.drewN_drewN, Nat.add_assoc]⟩⟩
end Go.Proofs.Ytmohpjkbhpgidaa.U
