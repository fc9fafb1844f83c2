/-
  Small words of this session's own: a world after some draws; a call that only computes.
-/
import Derived.Test.YtcgbgnebemknjaaProg
import Derived.WalkKit
import Derived.KernelRfl
import Derived.RowKit3
import Derived.Deep.Draws
import Derived.Deep.QuietTactic
import Derived.BigQuiet
import Derived.WideLaws
import Derived.Lib.Hide
import Derived.Laws.BitsLemmas
import Derived.WalkLawsBesides
import Derived.WalkSpells
namespace Go.Proofs.Ytcgbgnebemknjaa.U
open Go.RowKit

/-- The world has at most drawn. -/
structure Drew (w w' : World) : Prop where
  mk :: (out : ∃ n, w' = w.drewN n)
theorem Drew.same (w : World) : Drew w w := ⟨⟨0, rfl⟩⟩
theorem Drew.more {w w' : World} (h : Drew w w') (n : Nat) : Drew w (w'.drewN n) := by
  obtain ⟨m, rfl⟩ := h.out
  exact ⟨⟨m + n, by rw [World.drewN_drewN]⟩⟩
theorem Drew.one {w w' : World} (h : Drew w w') : Drew w w'.drew := h.more 1
theorem Drew.grown {w w' : World} (h : Drew w w') : Grown w w' := by
  obtain ⟨n, rfl⟩ := h.out
  induction n with
  | zero => exact Grown.refl _
  | succ n ih => have := ih ⟨⟨n, rfl⟩⟩; rw [← World.drew_drewN]; exact Grown.drew this
theorem Drew.below {w w' : World} (h : Drew w w') (B : Nat) : Below B w w' := by
  obtain ⟨n, rfl⟩ := h.out
  exact ⟨rfl, rfl, rfl, Nat.le_refl _, fun _ _ => rfl⟩

/-- A call that only computes: it answers v, and the world has at most drawn. -/
def Pure (w : World) (v : Value) (e : Ending) (w' : World) : Prop := e = .returned v ∧ Drew w w'
theorem Pure.ret {w : World} {v : Value} {e : Ending} {w' : World} (h : Pure w v e w') : e = .returned v ∧ Grown w w' := ⟨h.1, h.2.grown⟩
end Go.Proofs.Ytcgbgnebemknjaa.U
