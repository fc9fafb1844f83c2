/-
  SchedWaits: for every input the law returns true, and each argument reads as it read. No conditions.
-/
import Derived.Test.YtmohpjkbhpgidaaR
import Derived.Test.YtmohpjkbhpgidaaZF
namespace Go.Proofs.Ytmohpjkbhpgidaa.schedWaits
open Go.ChangeShapes Go.WideShapes Go.ChangeAt Go.RowKit
set_option maxRecDepth 100000 in
theorem lifted (os : Os) (started : os.Started) (H : Type) (enc : TypeId × Value → H) :
    ReturnsInHanded {} Try.checked os 16 .any (Rows.schedWaitsSpec.pre6 enc Try.prog Try.f16 Rows.schedWaitsRow.domain false) (Rows.schedWaitsSpec.post enc Try.prog Try.f16 false true false false) := by
  refine returnsInHanded_of_change_sized (C := Try.checked) R.own started (by kernel_rfl) Try.func16
    (ChangeSpec.witness6 (enc := enc) (C := Try.checked) false ⟨#[], #[.int .i64 0, .slice none 0 0], []⟩ 8 (by kernel_rfl) (by kernel_rfl) (by kernel_rfl) (by kernel_rfl)) ?_
  intro W base args ds gs before hval hW _ hsz _
  exact R.law_post (tb := 4) (A.swaits_law) rfl rfl Try.underlying4 (by rw [Try.params16]; intro t ht; simp only [List.mem_cons, List.not_mem_nil, or_false] at ht; rcases ht with rfl | rfl <;> exact ⟨by kernel_rfl, of_decide_eq_true (by kernel_rfl)⟩) (fun H ds h => by match ds, h with | [d0, d1], _ => exact ⟨rfl, rfl, rfl⟩) hval hW rfl hsz
theorem over : Rows.schedWaitsRow.holds Try.pinned (OpenSpec.ofChange Rows.schedWaitsSpec) :=
  OpenClaim.holds_of_wide 16 Try.f16 rfl rfl rfl rfl rfl rfl rfl ⟨rfl, rfl, rfl, rfl, rfl⟩ rfl rfl rfl rfl rfl (by kernel_rfl) Try.func16 (by kernel_rfl)
    (of_decide_eq_true (by kernel_rfl)) (by unfold Func.isWrapper; first | (rw [if_pos (by decide +kernel)]; kernel_rfl) | (rw [if_neg (by decide +kernel)]; exact ⟨rfl, rfl⟩))
    (fun os started H enc _ => lifted os started H enc)
theorem proved : Rows.SchedWaitsSaid := over
#print axioms proved
end Go.Proofs.Ytmohpjkbhpgidaa.schedWaits
