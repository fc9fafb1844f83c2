/-
  AcceptorPlays' law: deeds and states with the bounds of their numbers.
-/
import Derived.Test.YtnbllckmeehhjaaVb
namespace Go.Proofs.Ytnbllckmeehhjaa.A
open Go.RowKit Go.Proofs.Ytnbllckmeehhjaa.U
set_option linter.unusedVariables false
set_option linter.unusedSimpArgs false
set_option maxRecDepth 100000

theorem adeed_cells2 {H : Type} {enc : TypeId × Value → H} {W : World} {b0 n : Nat} {cs : List Value} {y : DataW H × List MemPlace} (ht : DataW.trod enc Try.prog W b0 (fun _ => true) true n 39 cs = some y) (hlt : ∀ p ∈ y.2, p.block < W.heap.size) (hw : R.Light 39 y.1) :
    ∃ x : ADeed, cs = x.cl ∧ I64 x.b ∧ x.e.a ≤ 9223372036854775807 := by
  obtain ⟨hcl, m, hf⟩ := R.parts Try.underlying39 ht hlt hw
  rw [cells39] at hcl
  obtain ⟨y0, k0, _⟩ := hf 0 3 0 rfl
  obtain ⟨y1, k1, _⟩ := hf 1 3 1 rfl
  obtain ⟨y2, k2, p2, l2⟩ := hf 2 37 2 rfl
  obtain ⟨y3, k3, _, l3⟩ := hf 3 9 9 rfl
  obtain ⟨v0, g0, k0⟩ := R.part1 cellsI (by omega) k0
  obtain ⟨v1, g1, k1⟩ := R.part1 cellsI (by omega) k1
  obtain ⟨v3, g3, k3⟩ := R.part1 cellsS (by omega) k3
  rw [cellsE] at k2
  obtain ⟨n0, rfl, _⟩ := R.cell_int Try.underlying3 k0
  obtain ⟨n1, rfl, w1⟩ := R.cell_int Try.underlying3 k1
  obtain ⟨e, he, we, _⟩ := ent_cells k2 p2 l2
  obtain ⟨s, rfl, _⟩ := R.cell_string Try.underlying9 k3 l3
  refine ⟨⟨n0, n1, e, s⟩, ?_, w1, we.a.2⟩
  have e1 : cs = cs.take 2 ++ ((cs.drop 2).take 7 ++ (cs.drop 2).drop 7) := by rw [List.take_append_drop, List.take_append_drop]
  have e2 : cs.take 2 = [.int .i64 n0, .int .i64 n1] := by
    match cs, hcl, g0, g1 with
    | a :: b :: r, _, g0, g1 =>
      simp at g0 g1
      subst g0 g1
      rfl
  have e3 : (cs.drop 2).drop 7 = [.string s] := by
    rw [List.drop_drop]
    have hl : (cs.drop 9).length = 1 := by rw [List.length_drop]; omega
    have h0 : (cs.drop 9)[0]? = some (.string s) := by rw [List.getElem?_drop]; exact g3
    match cs.drop 9, hl, h0 with
    | [a], _, h0 => simp at h0; rw [h0]
  rw [he, e2, e3] at e1
  rw [e1]
  rfl
open Go.ChangeShapes Go.WideShapes Go.ChangeAt in
theorem open_adeeds2 {H : Type} {enc : TypeId × Value → H} {W : World} {base : Nat} {v : Value} {d : DataW H} {p : List MemPlace}
    (hv : Value.okWide Try.prog W .any base 25 v) (h : DataW.Trod enc Try.prog W 0 (fun _ => true) true 25 v d p) (hlt : ∀ x ∈ p, x.block < W.heap.size) (hw : R.Light 25 d) :
    ∃ A len cap l, v = .slice A len cap ∧ len ≤ cap ∧ cap ≤ maxLen ∧ R.Args W W.heap.size A len 10 ADeed.cl l ∧ ∀ x ∈ l, I64 x.b ∧ x.e.a ≤ 9223372036854775807 := by
  obtain ⟨A, len, cap, rfl, hc1, hc2, _, hel⟩ := R.open_arg Try.underlying25 cells39 hv h hlt hw (by omega)
  obtain ⟨l, hl, hp⟩ := R.exists_list (p := fun i (x : ADeed) => (I64 x.b ∧ x.e.a ≤ 9223372036854775807) ∧ ∃ ad, A = some ad ∧ ad.block < W.heap.size ∧ ∀ j u, x.cl[j]? = some u → W.cell? (ad.add (i * 10 + j)) = some u) len (fun i hi => by
    obtain ⟨ad, cs, n, y, rfl, hB, hcl, hat, ht, hy, hly⟩ := hel i hi
    obtain ⟨x, rfl, hx1, hx2⟩ := adeed_cells2 ht hy hly
    exact ⟨x, ⟨hx1, hx2⟩, ad, rfl, hB, fun j u hu => (hat j (by have := (List.getElem?_eq_some_iff.1 hu).1; simpa using this)).trans hu⟩)
  refine ⟨A, len, cap, l, rfl, hc1, hc2, ⟨hl, fun i x h => (hp i x h).2⟩, fun x hx => ?_⟩
  obtain ⟨i, hi, e⟩ := List.mem_iff_getElem.1 hx
  exact (hp i x (by rw [List.getElem?_eq_getElem hi, e])).1
theorem dur_cells2 {H : Type} {enc : TypeId × Value → H} {W : World} {b0 n : Nat} {cs : List Value} {y : DataW H × List MemPlace} (ht : DataW.trod enc Try.prog W b0 (fun _ => true) true n 24 cs = some y) (hlt : ∀ p ∈ y.2, p.block < W.heap.size) (hw : R.Light 24 y.1) :
    ∃ (d : DS) (A : Option Addr) (c : Nat), cs = [.int .i64 d.pr, .int .i64 d.ba, .string d.sn, .slice A d.es.length c] ∧ d.es.length ≤ c ∧ c ≤ maxLen ∧ d.es.length ≤ 4611686018427387904 ∧ U.Src W A 7 d.es.length (ents d.es) ∧ R.Args W W.heap.size A d.es.length 7 Ent.cl d.es ∧ Lit_ d.es := by
  obtain ⟨hcl, m, hf⟩ := R.parts Try.underlying24 ht hlt hw
  rw [cells24] at hcl
  obtain ⟨y0, k0, _⟩ := hf 0 3 0 rfl
  obtain ⟨y1, k1, _⟩ := hf 1 3 1 rfl
  obtain ⟨y2, k2, _, l2⟩ := hf 2 9 2 rfl
  obtain ⟨y3, k3, p3, l3⟩ := hf 3 22 3 rfl
  obtain ⟨v0, g0, k0⟩ := R.part1 cellsI (by omega) k0
  obtain ⟨v1, g1, k1⟩ := R.part1 cellsI (by omega) k1
  obtain ⟨v2, g2, k2⟩ := R.part1 cellsS (by omega) k2
  obtain ⟨v3, g3, k3⟩ := R.part1 cells22 (by omega) k3
  obtain ⟨n0, rfl, _⟩ := R.cell_int Try.underlying3 k0
  obtain ⟨n1, rfl, _⟩ := R.cell_int Try.underlying3 k1
  obtain ⟨s, rfl, _⟩ := R.cell_string Try.underlying9 k2 l2
  obtain ⟨A, len, cap, rfl, hc1, hc2, hc3, hel⟩ := R.open_row Try.underlying22 cellsE k3 p3 l3 (by omega)
  obtain ⟨l, hl, hp⟩ := R.exists_list (p := fun i (x : Ent) => x.a ≤ 9223372036854775807 ∧ ∃ ad, A = some ad ∧ ad.block < W.heap.size ∧ ∀ j u, x.cl[j]? = some u → W.cell? (ad.add (i * 7 + j)) = some u) len (fun i hi => by
    obtain ⟨ad, cs, n, y, rfl, hB, hcl, hat, ht, hy, hly⟩ := hel i hi
    obtain ⟨x, rfl, wx, _⟩ := ent_cells ht hy hly
    exact ⟨x, wx.a.2, ad, rfl, hB, fun j u hu => (hat j (by have := (List.getElem?_eq_some_iff.1 hu).1; simpa using this)).trans hu⟩)
  subst hl
  have hAr : R.Args W W.heap.size A l.length 7 Ent.cl l := ⟨rfl, fun i x h => (hp i x h).2⟩
  rw [bytesE] at hc3
  unfold reachBytes at hc3
  exact ⟨⟨n0, n1, s, l⟩, A, cap, R.list4 hcl g0 g1 g2 g3, hc1, hc2, by show l.length ≤ _; omega, src_args hAr, hAr, fun x hx => by
    obtain ⟨i, hi, e⟩ := List.mem_iff_getElem.1 hx
    exact (hp i x (by rw [List.getElem?_eq_getElem hi, e])).1⟩
open Go.ChangeShapes Go.WideShapes Go.ChangeAt in
theorem open_dur2 {H : Type} {enc : TypeId × Value → H} {W : World} {base : Nat} {v : Value} {d : DataW H} {p : List MemPlace}
    (hv : Value.okWide Try.prog W .any base 24 v) (h : DataW.Trod enc Try.prog W 0 (fun _ => true) true 24 v d p) (hlt : ∀ x ∈ p, x.block < W.heap.size) (hw : R.Light 24 d) :
    ∃ (D : DS) (A : Option Addr) (c : Nat), v = dval D A c ∧ D.es.length ≤ c ∧ c ≤ maxLen ∧ D.es.length ≤ 4611686018427387904 ∧ U.Src W A 7 D.es.length (ents D.es) ∧ R.Args W W.heap.size A D.es.length 7 Ent.cl D.es ∧ Lit_ D.es := by
  obtain ⟨cs, n, rfl, ht⟩ := R.open_whole Try.underlying24 hv h
  obtain ⟨D, A, c, hx, r⟩ := dur_cells2 ht hlt hw
  exact ⟨D, A, c, by unfold dval; congr 1; exact Array.ext' hx, r⟩
open Go.ChangeShapes Go.WideShapes Go.ChangeAt in
theorem aplays_law : R.Law 6 Try.f6 R.any := by
  intro H enc W base args ds p hval hA hsz _ hlt
  rw [Try.params6] at hA hval hsz
  obtain ⟨v0, vs0, d0, ds0, p0, q0, hargs, rfl, rfl, h0, r0⟩ := trodAll_cons hA
  obtain ⟨v1, vs1, d1, ds1, p1, q1, rfl, rfl, rfl, h1, r1⟩ := trodAll_cons r0
  obtain ⟨rfl, rfl, rfl⟩ := trodAll_nil r1
  obtain rfl : args = #[v0, v1] := by cases args; simp_all
  obtain ⟨D, A, c, rfl, e1, e2, e3, e4, e5, e6⟩ := open_dur2 (hval 0 24 v0 rfl rfl) h0 (fun q hq => hlt q (List.mem_append_left _ hq)) (R.light_of (j := 0) hsz rfl rfl)
  obtain ⟨Al, len, cap, l, rfl, g1, g2, g3, g4⟩ := open_adeeds2 (hval 1 25 v1 rfl rfl) h1 (fun q hq => hlt q (List.mem_append_right _ (List.mem_append_left _ hq))) (R.light_of (j := 1) hsz rfl rfl)
  exact (aplays_calls W D A c e4 e3 e6 Al len cap l g3 g4 g1 g2).mono fun e w' h => ⟨h.1, h.2.below (Nat.le_refl _) (fun _ h => h.elim)⟩
end Go.Proofs.Ytnbllckmeehhjaa.A
