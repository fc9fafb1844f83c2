/-
  SchedExclusive: a task is made. Printed by gen_zb.py.
-/
import Derived.Test.YtmohpjkbhpgidaaZB
import Derived.Test.YtmohpjkbhpgidaaZG
namespace Go.Proofs.Ytmohpjkbhpgidaa.A
open Go.ChangeShapes Go.WideShapes Go.ChangeAt Go.RowKit Go.Joins Go.Proofs.Ytmohpjkbhpgidaa.U
set_option linter.unusedVariables false
set_option linter.unusedSimpArgs false
set_option maxRecDepth 100000
set_option maxHeartbeats 1600000

/-- How many yields. -/
def clampN (y : Int) : Nat := if 5 < y then 5 else y.toNat
theorem clampN_le (y : Int) : clampN y ≤ 5 := by unfold clampN; split <;> omega
theorem tks_any {v : Value} {Z : List (Value × List Op3)} {B : Nat} {w0 w : World} (h : Holds B w0 w (star (tksP v Z) none_)) : Holds B w0 w (star (orows v Z) (star (innP Z) none_)) := h.perm (by unfold tksP; ac_rfl)
def exL (j : Nat) : List Op3 := ⟨1, 1, 0⟩ :: List.replicate j ⟨9, 0, 0⟩
theorem exL_len (j : Nat) : (exL j).length = j + 1 := by unfold exL; simp
theorem exL_next (j : Nat) : opsV (exL j) ++ [.int .i64 9, .int .i64 0, .int .i64 0] = opsV (exL (j + 1)) := by
  unfold exL
  rw [List.replicate_succ', ← List.cons_append, opsV_app]
  rfl
theorem exL_end (j : Nat) : opsV (exL j) ++ [.int .i64 2, .int .i64 1, .int .i64 0] = opsV (exO j) := by
  unfold exL exO
  rw [← List.cons_append, opsV_app]
  rfl
theorem lock_eq (w : World) : Calls Try.prog 58 #[.int .i64 1] w (fun e w' => e = .returned (.agg #[.int .i64 1, .int .i64 1, .int .i64 0]) ∧ Keep Nothing w w') := lock58 w 1
theorem unlock_eq (w : World) : Calls Try.prog 59 #[.int .i64 1] w (fun e w' => e = .returned (.agg #[.int .i64 2, .int .i64 1, .int .i64 0]) ∧ Keep Nothing w w') := unlock59 w 1
end Go.Proofs.Ytmohpjkbhpgidaa.A
