/-
  SchedRuns: for every input of bulk at most 1048576 the law returns true, and each argument reads as it read. Condition: the bound on the bulk of what is read, as the given statement has it.
-/
import Derived.Test.YtmohpjkbhpgidaaR
import Derived.Test.YtmohpjkbhpgidaaWQ
import Derived.Deep.CondSized
namespace Go.Proofs.Ytmohpjkbhpgidaa.schedRunsUpto
open Go.ChangeShapes Go.WideShapes Go.ChangeAt Go.RowKit
set_option maxRecDepth 100000 in
theorem lifted (os : Os) (started : os.Started) (H : Type) (enc : TypeId × Value → H) (F : Stop.Interp) :
    ReturnsInHanded {} Try.checked os 13 .any ((Rows.OpenSpec.upto Rows.schedRunsSpec).pre6 enc Try.prog Try.f13 Rows.schedRunsUptoRow.domain false) (((Rows.OpenSpec.upto Rows.schedRunsSpec).at F).post enc Try.prog Try.f13 false true false false) := by
  refine returnsInHanded_of_cond_sized (C := Try.checked) (s := Rows.OpenSpec.upto Rows.schedRunsSpec) (k := Rows.uptoSmall) rfl R.own started (by kernel_rfl) Try.func13
    (OpenSpec.witness (enc := enc) (C := Try.checked) (s := Rows.OpenSpec.upto Rows.schedRunsSpec) (k := Rows.uptoSmall) rfl false ⟨#[], #[.slice none 0 0, .slice none 0 0], []⟩ 8 (by kernel_rfl) (by kernel_rfl) (by kernel_rfl)
      (x := ([.nil, .nil], [], [])) (by kernel_rfl) rfl (by kernel_rfl)) ?_
  intro W base args ds gs before hval hW _ hk hsz _
  exact R.law_post (tb := 4) (s := Rows.schedRunsSpec) (A.sruns_law) rfl rfl Try.underlying4 (by rw [Try.params13]; intro t ht; simp only [List.mem_cons, List.not_mem_nil, or_false] at ht; rcases ht with rfl | rfl <;> exact ⟨by kernel_rfl, of_decide_eq_true (by kernel_rfl)⟩) (fun H ds h => by match ds, h with | [d0, d1], _ => exact ⟨rfl, rfl, rfl⟩) hval hW hk hsz
theorem over : Rows.schedRunsUptoRow.holds Try.pinned (Rows.OpenSpec.upto Rows.schedRunsSpec) :=
  OpenClaim.holds_of_cond 13 Try.f13 rfl rfl rfl rfl rfl rfl rfl ⟨rfl, rfl, rfl, rfl, rfl⟩ rfl rfl rfl rfl rfl (by kernel_rfl) Try.func13 (by kernel_rfl)
    (of_decide_eq_true (by kernel_rfl)) (by unfold Func.isWrapper; first | (rw [if_pos (by decide +kernel)]; kernel_rfl) | (rw [if_neg (by decide +kernel)]; exact ⟨rfl, rfl⟩))
    (fun os started H enc _ F => lifted os started H enc F)
theorem proved : Rows.SchedRunsUptoSaid := over
#print axioms proved
end Go.Proofs.Ytmohpjkbhpgidaa.schedRunsUpto
