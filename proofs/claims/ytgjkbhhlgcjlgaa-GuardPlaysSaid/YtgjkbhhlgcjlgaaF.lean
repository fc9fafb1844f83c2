/-
  GuardNone's contract; the arguments of the guard's laws.
-/
import Derived.Test.YtgjkbhhlgcjlgaaE
import Derived.Test.YtgjkbhhlgcjlgaaR
namespace Go.Proofs.Ytgjkbhhlgcjlgaa.A
open Go.ChangeShapes Go.WideShapes Go.ChangeAt Go.RowKit Go.Joins Go.Proofs.Ytgjkbhhlgcjlgaa.U
set_option linter.unusedVariables false
theorem cells32 : Try.prog.cellsOf 32 = 3 := by kernel_rfl
theorem cells30 : Try.prog.cellsOf 30 = 1 := by kernel_rfl
theorem none_law : R.Law 6 Try.f6 R.any := by
  intro H enc W base args ds p hval hA hsz _ hlt
  rw [Try.params6] at hA hval
  obtain ⟨v0, vs0, d0, ds0, p0, q0, hargs, rfl, rfl, h0, r0⟩ := trodAll_cons hA
  obtain ⟨rfl, rfl, rfl⟩ := trodAll_nil r0
  obtain rfl : args = #[v0] := by cases args; simp_all
  obtain ⟨c0, c1, c2, y0, y1, y2, m, rfl, rfl, rfl, h0, h1, h2⟩ := open_agg3 Try.underlying32 (by kernel_rfl) cells32 (hval 0 32 v0 rfl rfl) h0
  obtain ⟨s, e0, _, _⟩ := DataW.trod_string Try.underlying9 h0
  obtain ⟨n, e2, _, _⟩ := DataW.trod_int Try.underlying30 h2
  injection e0 with e0 _
  injection e2 with e2 _
  subst e0 e2
  exact none_calls W s c1 n

/-- A write that is asked for. -/
structure Ask where
  s : ByteArray
  r : Value
  t : Int
def Ask.cells (d : Ask) : List Value := [.string d.s, d.r, .int .u64 d.t]
theorem ask_at {w : World} {B : Nat} {A : Option Addr} {len : Nat} {l : List Ask} (h : R.Args w B A len 3 Ask.cells l) {k : Nat} (hk : k < len) :
    ∃ (ad : Addr) (s : ByteArray) (t : Int), A = some ad ∧ ad.block < B ∧ w.cell? (ad.add (k * 3)) = some (.string s) ∧ w.cell? ⟨(ad.add (k * 3)).block, (ad.add (k * 3)).off + 2, none⟩ = some (.int .u64 t) := by
  have hl := h.1
  obtain ⟨ad, e, hB, hc⟩ := h.2 k (l[k]'(by omega)) (List.getElem?_eq_getElem (by omega))
  exact ⟨ad, _, _, e, hB, hc 0 _ rfl, by rw [← addLater ad (k * 3) 2 (by omega)]; exact hc 2 _ rfl⟩
theorem ask_cells {H : Type} {enc : TypeId × Value → H} {W : World} {b0 n : Nat} {cs : List Value} {y : DataW H × List MemPlace} (ht : DataW.trod enc Try.prog W b0 (fun _ => true) true n 32 cs = some y) :
    ∃ x : Ask, cs = x.cells := by
  obtain ⟨hcl, m, hf⟩ := R.struct_fields Try.underlying32 ht
  rw [cells32] at hcl
  have e4 : Try.prog.cellsOf 4 = 1 := by kernel_rfl
  have e9 : Try.prog.cellsOf 9 = 1 := by kernel_rfl
  obtain ⟨v0, y0, g0, k0, _⟩ := hf 0 9 0 rfl e9 (by omega)
  obtain ⟨v1, y1, g1, k1, _⟩ := hf 1 4 1 rfl e4 (by omega)
  obtain ⟨v2, y2, g2, k2, _⟩ := hf 2 30 2 rfl cells30 (by omega)
  obtain ⟨s, l0, _, _⟩ := DataW.trod_string Try.underlying9 k0
  obtain ⟨n', l2, _, _⟩ := DataW.trod_int Try.underlying30 k2
  injection l0 with l0 _
  injection l2 with l2 _
  subst l0 l2
  refine ⟨⟨s, v1, n'⟩, List.ext_getElem? fun i => ?_⟩
  match i with
  | 0 => exact g0
  | 1 => exact g1
  | 2 => exact g2
  | i + 3 => rw [List.getElem?_eq_none (by omega), List.getElem?_eq_none (by simp [Ask.cells])]
theorem open_asks {H : Type} {enc : TypeId × Value → H} {W : World} {base : Nat} {v : Value} {d : DataW H} {p : List MemPlace}
    (hv : Value.okWide Try.prog W .any base 22 v) (h : DataW.Trod enc Try.prog W 0 (fun _ => true) true 22 v d p) (hlt : ∀ x ∈ p, x.block < W.heap.size) :
    ∃ A len cap l, v = .slice A len cap ∧ R.Args W W.heap.size A len 3 Ask.cells l := by
  obtain ⟨A, len, cap, rfl, hc1, hc2, hel, hd⟩ := R.open_cells Try.underlying22 cells32 hv h hlt (by omega)
  obtain ⟨l, hl, hp⟩ := R.exists_list (p := fun i (x : Ask) => ∃ ad, A = some ad ∧ ad.block < W.heap.size ∧ ∀ j u, x.cells[j]? = some u → W.cell? (ad.add (i * 3 + j)) = some u) len (fun i hi => by
    obtain ⟨ad, cs, n, y, rfl, hB, hcl, hat, ht, _⟩ := hel i hi
    obtain ⟨x, rfl⟩ := ask_cells ht
    exact ⟨x, ad, rfl, hB, fun j u hu => (hat j (by have := (List.getElem?_eq_some_iff.1 hu).1; omega)).trans hu⟩)
  exact ⟨A, len, cap, l, rfl, hl, hp⟩
theorem open_two {H : Type} {enc : TypeId × Value → H} {W : World} {base : Nat} {v : Value} {d : DataW H} {p : List MemPlace}
    (hv : Value.okWide Try.prog W .any base 39 v) (h : DataW.Trod enc Try.prog W 0 (fun _ => true) true 39 v d p) : ∃ a b : Int, v = .agg #[.int .u64 a, .int .u64 b] := by
  have e39 : Try.prog.cellsOf 39 = 2 := by kernel_rfl
  simp only [Value.okWide, Try.underlying39] at hv
  obtain ⟨cs, rfl, hsz, _⟩ := hv
  obtain ⟨c0, c1, rfl⟩ := array2 (hsz.trans e39)
  obtain ⟨fuel, hf⟩ := h
  obtain ⟨xs, m, _, _, _, hl, hel⟩ := DataW.trod_array Try.underlying39 hf
  have h0 := hel 0 (by omega)
  have h1 := hel 1 (by omega)
  rw [cells30, List.getElem?_eq_getElem (by omega)] at h0 h1
  simp [Value.cells] at h0 h1
  obtain ⟨a, e0, _, _⟩ := DataW.trod_int Try.underlying30 h0
  obtain ⟨b, e1, _, _⟩ := DataW.trod_int Try.underlying30 h1
  simp at e0 e1
  exact ⟨a, b, by rw [e0, e1]⟩
end Go.Proofs.Ytgjkbhhlgcjlgaa.A
