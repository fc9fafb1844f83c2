/-
  NetPlays' contract: a slice of deeds, opened.
-/
import Derived.Test.YtealhicbcbkofaaJ
namespace Go.Proofs.Ytealhicbcbkofaa.A
open Go.RowKit Go.Proofs.Ytealhicbcbkofaa.U
set_option linter.unusedVariables false

theorem deed_cells {H : Type} {enc : TypeId × Value → H} {W : World} {b0 n : Nat} {cs : List Value} {y : DataW H × List MemPlace} (ht : DataW.trod enc Try.prog W b0 (fun _ => true) true n 30 cs = some y) :
    ∃ x : Deed, cs = x.cells := by
  obtain ⟨hcl, m, hf⟩ := R.struct_fields Try.underlying30 ht
  rw [cells30] at hcl
  have e1 : Try.prog.cellsOf 3 = 1 := by kernel_rfl
  have e9 : Try.prog.cellsOf 9 = 1 := by kernel_rfl
  obtain ⟨v0, y0, g0, k0, _⟩ := hf 0 3 0 rfl e1 (by omega)
  obtain ⟨v1, y1, g1, k1, _⟩ := hf 1 3 1 rfl e1 (by omega)
  obtain ⟨v2, y2, g2, k2, _⟩ := hf 2 9 2 rfl e9 (by omega)
  obtain ⟨k, l0, _, w0⟩ := DataW.trod_int Try.underlying3 k0
  obtain ⟨n', l1, _, w1⟩ := DataW.trod_int Try.underlying3 k1
  obtain ⟨s, l2, _, w2⟩ := DataW.trod_string Try.underlying9 k2
  injection l0 with l0 _
  injection l1 with l1 _
  injection l2 with l2 _
  subst l0 l1 l2
  refine ⟨⟨k, n', s⟩, List.ext_getElem? fun i => ?_⟩
  match i with
  | 0 => exact g0
  | 1 => exact g1
  | 2 => exact g2
  | i + 3 => rw [List.getElem?_eq_none (by omega), List.getElem?_eq_none (by simp [Deed.cells])]

open Go.ChangeShapes Go.WideShapes Go.ChangeAt in
theorem plays_law : R.Law 3 Try.f3 R.any := by
  intro H enc W base args ds p hval hA hsz _ hlt
  rw [Try.params3] at hA hval
  obtain ⟨v0, vs0, d0, ds0, p0, q0, hargs, rfl, rfl, h0, r0⟩ := trodAll_cons hA
  obtain ⟨rfl, rfl, rfl⟩ := trodAll_nil r0
  obtain rfl : args = #[v0] := by cases args; simp_all
  obtain ⟨A, len, cap, rfl, hc1, hc2, hel, hd⟩ := R.open_cells Try.underlying22 cells30 (hval 0 22 v0 rfl rfl) h0 (fun x hx => hlt x (by simpa using hx)) (by omega)
  obtain ⟨l, hl, hp⟩ := R.exists_list (p := fun i (x : Deed) => ∃ ad, A = some ad ∧ ad.block < W.heap.size ∧ ∀ j u, x.cells[j]? = some u → W.cell? (ad.add (i * 3 + j)) = some u) len (fun i hi => by
    obtain ⟨ad, cs, n, y, rfl, hB, hcl, hat, ht, _⟩ := hel i hi
    obtain ⟨x, rfl⟩ := deed_cells ht
    exact ⟨x, ad, rfl, hB, fun j u hu => (hat j (by have := (List.getElem?_eq_some_iff.1 hu).1; omega)).trans hu⟩)
  exact plays_calls W A len cap l ⟨hl, hp⟩
end Go.Proofs.Ytealhicbcbkofaa.A
