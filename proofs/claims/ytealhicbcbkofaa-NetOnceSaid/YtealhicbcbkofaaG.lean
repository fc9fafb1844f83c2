/-
  NetNone's contract: a struct of three fields, opened.
-/
import Derived.Test.YtealhicbcbkofaaF
import Derived.Test.YtealhicbcbkofaaR
namespace Go.Proofs.Ytealhicbcbkofaa.A
open Go.ChangeShapes Go.WideShapes Go.ChangeAt Go.RowKit Go.Joins Go.Proofs.Ytealhicbcbkofaa.U
set_option linter.unusedVariables false
theorem cells30 : Try.prog.cellsOf 30 = 3 := by kernel_rfl
theorem open_deed {H : Type} {enc : TypeId × Value → H} {W : World} {base b0 : Nat} {v : Value} {d : DataW H} {p : List MemPlace}
    (hv : Value.okWide Try.prog W .any base 30 v) (h : DataW.Trod enc Try.prog W b0 (fun _ => true) true 30 v d p) :
    ∃ (k n : Int) (s : ByteArray), v = .agg #[.int .i64 k, .int .i64 n, .string s] ∧ (Lit.int .i64 k).wf = true ∧ (Lit.int .i64 n).wf = true ∧ s.size ≤ maxLen := by
  obtain ⟨c0, c1, c2, y0, y1, y2, m, rfl, rfl, rfl, h0, h1, h2⟩ := open_agg3 Try.underlying30 (by kernel_rfl) cells30 hv h
  obtain ⟨k, e0, _, w0⟩ := DataW.trod_int Try.underlying3 h0
  obtain ⟨n, e1, _, w1⟩ := DataW.trod_int Try.underlying3 h1
  obtain ⟨s, e2, _, w2⟩ := DataW.trod_string Try.underlying9 h2
  injection e0 with e0 _
  injection e1 with e1 _
  injection e2 with e2 _
  exact ⟨k, n, s, by rw [e0, e1, e2], w0, w1, w2⟩
theorem none_law : R.Law 6 Try.f6 R.any := by
  intro H enc W base args ds p hval hA hsz _ hlt
  rw [Try.params6] at hA hval
  obtain ⟨v0, vs0, d0, ds0, p0, q0, hargs, rfl, rfl, h0, r0⟩ := trodAll_cons hA
  obtain ⟨rfl, rfl, rfl⟩ := trodAll_nil r0
  obtain rfl : args = #[v0] := by cases args; simp_all
  obtain ⟨k, n, s, rfl, _, _, _⟩ := open_deed (hval 0 30 v0 rfl rfl) h0
  exact none_calls W k n s
end Go.Proofs.Ytealhicbcbkofaa.A
