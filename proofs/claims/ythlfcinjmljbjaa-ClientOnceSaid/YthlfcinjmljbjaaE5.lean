/-
  A new client.
-/
import Derived.Test.YthlfcinjmljbjaaE4
namespace Go.Proofs.Ythlfcinjmljbjaa.A
open Go.RowKit Go.Proofs.Ythlfcinjmljbjaa.U
set_option linter.unusedVariables false
set_option linter.unusedSimpArgs false
set_option maxRecDepth 100000

section
variable {B : Nat} {w0 w : World} {Q : SP}
theorem op_none {R : SP} (h : Holds B w0 w R) (hR : Stable R) : Holds B w0 w (star (opP none none) R) :=
  h.more hR (F := fun _ => False) ⟨rfl, fun _ h => h⟩ (Keep.same _ _) (fun k hk => hk.elim)
theorem x_new (h : Holds B w0 w Q) (hQ : Stable Q) : Calls Try.prog 8 #[.int .i64 2, .int .i64 3, .int .i64 1] w (fun e w' => ∃ b, e = .returned (.pointer (some ⟨b, 0, none⟩)) ∧ Holds B w0 w' (star (cliP b (newC 2 3 1)) Q)) := by
  refine (new8 w).mono ?_
  rintro e w' ⟨rfl, rfl⟩
  refine ⟨w.heap.size, rfl, cli_close (p := none) (A := none) (c := 0) ?_⟩
  have h1 : Holds B w0 w (star (lrow (newC 2 3 1) none 0) Q) := h.newRow hQ (Row.nil _ 46 3) (Keep.same _ _) (fun k hk => by simp [Value.ownBlock] at hk)
  have S1 : Stable (star (lrow (newC 2 3 1) none 0) Q) := (rowP_stable _ _ _ _ _).star hQ
  exact (op_none h1 S1).newBlk ((opP_stable _ _).star S1) 62 ((newC 2 3 1).cs none none 0 0)
end
end Go.Proofs.Ythlfcinjmljbjaa.A
