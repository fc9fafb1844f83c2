/-
  A state as an argument; AcceptorRecords' law.
-/
import Derived.Test.YtnbllckmeehhjaaV5
namespace Go.Proofs.Ytnbllckmeehhjaa.A
open Go.RowKit Go.Proofs.Ytnbllckmeehhjaa.U
set_option linter.unusedVariables false
set_option linter.unusedSimpArgs false
set_option maxRecDepth 100000

theorem src_args {w : World} {B : Nat} {A : Option Addr} {len : Nat} {L : List Ent} (h : R.Args w B A len 7 Ent.cl L) : U.Src w A 7 L.length (ents L) := by
  refine ⟨ents_len L, fun h0 => ?_⟩
  obtain ⟨ad, e, _, _⟩ := h.2 0 _ (List.getElem?_eq_getElem h0)
  refine ⟨ad, e, fun j u hu => ?_⟩
  have hj : j < L.length * 7 := by rw [← ents_len]; exact (List.getElem?_eq_some_iff.1 hu).1
  have hi : j / 7 < L.length := by omega
  have hx : L[j / 7]? = some (L[j / 7]'hi) := List.getElem?_eq_getElem hi
  have hr : j % 7 < 7 := Nat.mod_lt _ (by omega)
  have hg := ents_get hx (j % 7) hr
  rw [Nat.div_add_mod' j 7, hu] at hg
  obtain ⟨ad', e', _, hc⟩ := h.2 (j / 7) _ hx
  rw [e] at e'
  injection e' with e'
  subst e'
  have := hc (j % 7) u hg.symm
  rwa [Nat.div_add_mod' j 7] at this
theorem cells24 : Try.prog.cellsOf 24 = 4 := by kernel_rfl
theorem cells22 : Try.prog.cellsOf 22 = 1 := by kernel_rfl
theorem dur_cells {H : Type} {enc : TypeId × Value → H} {W : World} {b0 n : Nat} {cs : List Value} {y : DataW H × List MemPlace} (ht : DataW.trod enc Try.prog W b0 (fun _ => true) true n 24 cs = some y) (hlt : ∀ p ∈ y.2, p.block < W.heap.size) (hw : R.Light 24 y.1) :
    ∃ (d : DS) (A : Option Addr) (c : Nat), cs = [.int .i64 d.pr, .int .i64 d.ba, .string d.sn, .slice A d.es.length c] ∧ d.es.length ≤ c ∧ c ≤ maxLen ∧ d.es.length ≤ 4611686018427387904 ∧ U.Src W A 7 d.es.length (ents d.es) ∧ R.Args W W.heap.size A d.es.length 7 Ent.cl d.es := by
  obtain ⟨hcl, m, hf⟩ := R.parts Try.underlying24 ht hlt hw
  rw [cells24] at hcl
  obtain ⟨y0, k0, _⟩ := hf 0 3 0 rfl
  obtain ⟨y1, k1, _⟩ := hf 1 3 1 rfl
  obtain ⟨y2, k2, _, l2⟩ := hf 2 9 2 rfl
  obtain ⟨y3, k3, p3, l3⟩ := hf 3 22 3 rfl
  obtain ⟨v0, g0, k0⟩ := R.part1 cellsI (by omega) k0
  obtain ⟨v1, g1, k1⟩ := R.part1 cellsI (by omega) k1
  obtain ⟨v2, g2, k2⟩ := R.part1 cellsS (by omega) k2
  obtain ⟨v3, g3, k3⟩ := R.part1 cells22 (by omega) k3
  obtain ⟨n0, rfl, _⟩ := R.cell_int Try.underlying3 k0
  obtain ⟨n1, rfl, _⟩ := R.cell_int Try.underlying3 k1
  obtain ⟨s, rfl, _⟩ := R.cell_string Try.underlying9 k2 l2
  obtain ⟨A, len, cap, rfl, hc1, hc2, hc3, hel⟩ := R.open_row Try.underlying22 cellsE k3 p3 l3 (by omega)
  obtain ⟨l, hl, hp⟩ := R.exists_list (p := fun i (x : Ent) => ∃ ad, A = some ad ∧ ad.block < W.heap.size ∧ ∀ j u, x.cl[j]? = some u → W.cell? (ad.add (i * 7 + j)) = some u) len (fun i hi => by
    obtain ⟨ad, cs, n, y, rfl, hB, hcl, hat, ht, hy, hly⟩ := hel i hi
    obtain ⟨x, rfl, _, _⟩ := ent_cells ht hy hly
    exact ⟨x, ad, rfl, hB, fun j u hu => (hat j (by have := (List.getElem?_eq_some_iff.1 hu).1; simpa using this)).trans hu⟩)
  subst hl
  have hAr : R.Args W W.heap.size A l.length 7 Ent.cl l := ⟨rfl, hp⟩
  rw [bytesE] at hc3
  unfold reachBytes at hc3
  exact ⟨⟨n0, n1, s, l⟩, A, cap, R.list4 hcl g0 g1 g2 g3, hc1, hc2, by show l.length ≤ _; omega, src_args hAr, hAr⟩
open Go.ChangeShapes Go.WideShapes Go.ChangeAt in
theorem open_dur {H : Type} {enc : TypeId × Value → H} {W : World} {base : Nat} {v : Value} {d : DataW H} {p : List MemPlace}
    (hv : Value.okWide Try.prog W .any base 24 v) (h : DataW.Trod enc Try.prog W 0 (fun _ => true) true 24 v d p) (hlt : ∀ x ∈ p, x.block < W.heap.size) (hw : R.Light 24 d) :
    ∃ (D : DS) (A : Option Addr) (c : Nat), v = dval D A c ∧ D.es.length ≤ c ∧ c ≤ maxLen ∧ D.es.length ≤ 4611686018427387904 ∧ U.Src W A 7 D.es.length (ents D.es) ∧ R.Args W W.heap.size A D.es.length 7 Ent.cl D.es := by
  obtain ⟨cs, n, rfl, ht⟩ := R.open_whole Try.underlying24 hv h
  obtain ⟨D, A, c, hx, r⟩ := dur_cells ht hlt hw
  exact ⟨D, A, c, by unfold dval; congr 1; exact Array.ext' hx, r⟩
open Go.ChangeShapes Go.WideShapes Go.ChangeAt in
theorem arecords_law : R.Law 3 Try.f3 R.any := by
  intro H enc W base args ds p hval hA hsz _ hlt
  rw [Try.params3] at hA hval hsz
  obtain ⟨v0, vs0, d0, ds0, p0, q0, hargs, rfl, rfl, h0, r0⟩ := trodAll_cons hA
  obtain ⟨v1, vs1, d1, ds1, p1, q1, rfl, rfl, rfl, h1, r1⟩ := trodAll_cons r0
  obtain ⟨rfl, rfl, rfl⟩ := trodAll_nil r1
  obtain rfl : args = #[v0, v1] := by cases args; simp_all
  obtain ⟨D, A, c, rfl, e1, e2, e3, e4, e5⟩ := open_dur (hval 0 24 v0 rfl rfl) h0 (fun q hq => hlt q (List.mem_append_left _ hq)) (R.light_of (j := 0) hsz rfl rfl)
  obtain ⟨Al, len, cap, l, rfl, g1, g2, g3⟩ := open_adeeds (hval 1 25 v1 rfl rfl) h1 (fun q hq => hlt q (List.mem_append_right _ (List.mem_append_left _ hq))) (R.light_of (j := 1) hsz rfl rfl)
  exact (arecords_calls W D A c e4 e3 Al len cap l g3 g1 g2).mono fun e w' h => ⟨h.1, h.2.below (Nat.le_refl _) (fun _ h => h.elim)⟩
end Go.Proofs.Ytnbllckmeehhjaa.A
