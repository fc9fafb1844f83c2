/-
  SchedExclusive: for every input the law returns true, and each argument reads as it read. No conditions.
-/
import Derived.Test.YtmohpjkbhpgidaaR
import Derived.Test.YtmohpjkbhpgidaaZJ
namespace Go.Proofs.Ytmohpjkbhpgidaa.schedExclusive
open Go.ChangeShapes Go.WideShapes Go.ChangeAt Go.RowKit
set_option maxRecDepth 100000 in
theorem lifted (os : Os) (started : os.Started) (H : Type) (enc : TypeId × Value → H) :
    ReturnsInHanded {} Try.checked os 14 .any (Rows.schedExclusiveSpec.pre6 enc Try.prog Try.f14 Rows.schedExclusiveRow.domain false) (Rows.schedExclusiveSpec.post enc Try.prog Try.f14 false true false false) := by
  refine returnsInHanded_of_change_sized (C := Try.checked) R.own started (by kernel_rfl) Try.func14
    (ChangeSpec.witness6 (enc := enc) (C := Try.checked) false ⟨#[], #[.slice none 0 0, .slice none 0 0], []⟩ 8 (by kernel_rfl) (by kernel_rfl) (by kernel_rfl) (by kernel_rfl)) ?_
  intro W base args ds gs before hval hW _ hsz _
  exact R.law_post (tb := 4) (A.sexcl_law) rfl rfl Try.underlying4 (by rw [Try.params14]; intro t ht; simp only [List.mem_cons, List.not_mem_nil, or_false] at ht; rcases ht with rfl | rfl <;> exact ⟨by kernel_rfl, of_decide_eq_true (by kernel_rfl)⟩) (fun H ds h => by match ds, h with | [d0, d1], _ => exact ⟨rfl, rfl, rfl⟩) hval hW rfl hsz
theorem over : Rows.schedExclusiveRow.holds Try.pinned (OpenSpec.ofChange Rows.schedExclusiveSpec) :=
  OpenClaim.holds_of_wide 14 Try.f14 rfl rfl rfl rfl rfl rfl rfl ⟨rfl, rfl, rfl, rfl, rfl⟩ rfl rfl rfl rfl rfl (by kernel_rfl) Try.func14 (by kernel_rfl)
    (of_decide_eq_true (by kernel_rfl)) (by unfold Func.isWrapper; first | (rw [if_pos (by decide +kernel)]; kernel_rfl) | (rw [if_neg (by decide +kernel)]; exact ⟨rfl, rfl⟩))
    (fun os started H enc _ => lifted os started H enc)
theorem proved : Rows.SchedExclusiveSaid := over
#print axioms proved
end Go.Proofs.Ytmohpjkbhpgidaa.schedExclusive
