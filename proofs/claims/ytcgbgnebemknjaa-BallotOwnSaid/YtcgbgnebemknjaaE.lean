/-
  BallotOwn's contract: two arrays of two numbers, opened.
-/
import Derived.Test.YtcgbgnebemknjaaD
import Derived.Test.YtcgbgnebemknjaaR
namespace Go.Proofs.Ytcgbgnebemknjaa.A
open Go.ChangeShapes Go.WideShapes Go.ChangeAt Go.RowKit Go.Proofs.Ytcgbgnebemknjaa.U
set_option linter.unusedVariables false
theorem open_pair {H : Type} {enc : TypeId × Value → H} {W : World} {base b0 : Nat} {v : Value} {d : DataW H} {p : List MemPlace}
    (hv : Value.okWide Try.prog W .any base 26 v) (h : DataW.Trod enc Try.prog W b0 (fun _ => true) true 26 v d p) : ∃ a b : Int, v = .agg #[.int .i64 a, .int .i64 b] := by
  simp only [Value.okWide, Try.underlying26] at hv
  obtain ⟨cs, rfl, hc, _⟩ := hv
  have e2 : Try.prog.cellsOf 26 = 2 := by kernel_rfl
  have e1 : Try.prog.cellsOf 3 = 1 := by kernel_rfl
  rw [e2] at hc
  obtain ⟨fuel, hf⟩ := h
  obtain ⟨xs, m, _, _, _, hl, hx⟩ := DataW.trod_array Try.underlying26 hf
  match cs, hc with
  | ⟨[c0, c1]⟩, _ =>
    have h0 := hx 0 (by omega)
    have h1 := hx 1 (by omega)
    rw [e1] at h0 h1
    simp only [Value.cells, Nat.zero_mul, Nat.one_mul, List.drop_zero, List.drop_succ_cons, List.take_succ_cons, List.take_zero] at h0 h1
    rw [List.getElem?_eq_getElem (by omega)] at h0 h1
    obtain ⟨a, ha, _, _⟩ := DataW.trod_int Try.underlying3 h0
    obtain ⟨b, hb, _, _⟩ := DataW.trod_int Try.underlying3 h1
    injection ha with ha _
    injection hb with hb _
    exact ⟨a, b, by rw [ha, hb]⟩
theorem own_law : R.Law 5 Try.f5 R.any := by
  intro H enc W base args ds p hval hA hsz _ hlt
  rw [Try.params5] at hA hval
  obtain ⟨v0, vs0, d0, ds0, p0, q0, hargs, rfl, rfl, h0, r0⟩ := trodAll_cons hA
  obtain ⟨v1, vs1, d1, ds1, p1, q1, rfl, rfl, rfl, h1, r1⟩ := trodAll_cons r0
  obtain ⟨rfl, rfl, rfl⟩ := trodAll_nil r1
  obtain rfl : args = #[v0, v1] := by cases args; simp_all
  obtain ⟨a, b, rfl⟩ := open_pair (hval 0 26 v0 rfl rfl) h0
  obtain ⟨c, d, rfl⟩ := open_pair (hval 1 26 v1 rfl rfl) h1
  exact Own_calls a b c d W
end Go.Proofs.Ytcgbgnebemknjaa.A
