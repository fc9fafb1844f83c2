/-
  Arguments of the scheduler's laws.
-/
import Derived.Test.YtmohpjkbhpgidaaYM
import Derived.Test.YtmohpjkbhpgidaaW
namespace Go.Proofs.Ytmohpjkbhpgidaa.A
open Go.ChangeShapes Go.WideShapes Go.ChangeAt Go.RowKit Go.Joins Go.Proofs.Ytmohpjkbhpgidaa.U
set_option linter.unusedVariables false
set_option linter.unusedSimpArgs false
set_option maxRecDepth 100000

theorem cells_3 : Try.prog.cellsOf 3 = 1 := by kernel_rfl
theorem cells_97 : Try.prog.cellsOf 97 = 3 := by kernel_rfl
theorem cells_99 : Try.prog.cellsOf 99 = 1 := by kernel_rfl
/-- A slice of numbers, as an argument. -/
theorem open_picks {H : Type} {enc : TypeId × Value → H} {W : World} {base : Nat} {v : Value} {d : DataW H} {p : List MemPlace}
    (hv : Value.okWide Try.prog W .any base 26 v) (h : DataW.Trod enc Try.prog W 0 (fun _ => true) true 26 v d p) (hlt : ∀ x ∈ p, x.block < W.heap.size) :
    ∃ A len cap l, v = .slice A len cap ∧ U.Src W A 1 len (ints l) := by
  obtain ⟨A, len, cap, rfl, hc1, hc2, hel, hd⟩ := R.open_cells Try.underlying26 cells_3 hv h hlt (by omega)
  obtain ⟨l, hl, hp⟩ := R.exists_list (p := fun i (x : Int) => ∃ ad, A = some ad ∧ W.cell? (ad.add i) = some (.int .i64 x)) len (fun i hi => by
    obtain ⟨ad, cs, n, y, rfl, hB, hcl, hat, ht, _⟩ := hel i hi
    obtain ⟨c, rfl⟩ : ∃ c, cs = [c] := by
      match cs, hcl with
      | [c], _ => exact ⟨c, rfl⟩
    obtain ⟨s, e0, _, _⟩ := DataW.trod_int Try.underlying3 ht
    injection e0 with e0 _
    subst e0
    exact ⟨s, ad, rfl, by have := hat 0 (by omega); simpa using this⟩)
  refine ⟨A, len, cap, l, rfl, by rw [ints, List.length_map, hl, Nat.mul_one], fun hn => ?_⟩
  obtain ⟨ad, e, _⟩ := hp 0 _ (List.getElem?_eq_getElem (by omega))
  refine ⟨ad, e, fun j u hu => ?_⟩
  unfold ints at hu
  rw [List.getElem?_map] at hu
  cases hx : l[j]? with
  | none => rw [hx] at hu; cases hu
  | some x =>
    rw [hx] at hu
    injection hu with hu
    subst hu
    obtain ⟨ad', e', hc⟩ := hp j x hx
    rw [e] at e'
    injection e' with e'
    subst e'
    exact hc
/-- .. with a bound. -/
theorem open_picks2 {H : Type} {enc : TypeId × Value → H} {W : World} {base : Nat} {v : Value} {d : DataW H} {p : List MemPlace}
    (hv : Value.okWide Try.prog W .any base 26 v) (h : DataW.Trod enc Try.prog W 0 (fun _ => true) true 26 v d p) (hlt : ∀ x ∈ p, x.block < W.heap.size) :
    ∃ A len cap l, v = .slice A len cap ∧ U.Src W A 1 len (ints l) ∧ len ≤ 9223372036854775807 := by
  obtain ⟨A, len, cap, rfl, hc1, hc2, hel, hd⟩ := R.open_cells Try.underlying26 cells_3 hv h hlt (by omega)
  obtain ⟨l, hl, hp⟩ := R.exists_list (p := fun i (x : Int) => ∃ ad, A = some ad ∧ W.cell? (ad.add i) = some (.int .i64 x)) len (fun i hi => by
    obtain ⟨ad, cs, n, y, rfl, hB, hcl, hat, ht, _⟩ := hel i hi
    obtain ⟨c, rfl⟩ : ∃ c, cs = [c] := by
      match cs, hcl with
      | [c], _ => exact ⟨c, rfl⟩
    obtain ⟨s, e0, _, _⟩ := DataW.trod_int Try.underlying3 ht
    injection e0 with e0 _
    subst e0
    exact ⟨s, ad, rfl, by have := hat 0 (by omega); simpa using this⟩)
  have hm : len ≤ 9223372036854775807 := by unfold maxLen at hc2; omega
  refine ⟨A, len, cap, l, rfl, ⟨by rw [ints, List.length_map, hl, Nat.mul_one], fun hn => ?_⟩, hm⟩
  obtain ⟨ad, e, _⟩ := hp 0 _ (List.getElem?_eq_getElem (by omega))
  refine ⟨ad, e, fun j u hu => ?_⟩
  unfold ints at hu
  rw [List.getElem?_map] at hu
  cases hx : l[j]? with
  | none => rw [hx] at hu; cases hu
  | some x =>
    rw [hx] at hu
    injection hu with hu
    subst hu
    obtain ⟨ad', e', hc⟩ := hp j x hx
    rw [e] at e'
    injection e' with e'
    subst e'
    exact hc
end Go.Proofs.Ytmohpjkbhpgidaa.A
