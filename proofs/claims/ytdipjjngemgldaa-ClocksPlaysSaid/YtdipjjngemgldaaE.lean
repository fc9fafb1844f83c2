/-
  ClocksNone.
-/
import Derived.Test.YtdipjjngemgldaaD
namespace Go.Proofs.Ytdipjjngemgldaa.A
open Go.RowKit Go.Proofs.Ytdipjjngemgldaa.U
set_option linter.unusedVariables false
set_option linter.unusedSimpArgs false
set_option maxRecDepth 100000

theorem go_none (w : World) (d : Int) (v : Value) : Calls Try.prog 13 #[.pointer none, .int .i64 d, v] w (fun e w' => e = .returned (.int .i64 1) ∧ w' = w) := by
  go_enter Try.func13, Try.ntmps13
  go_wp2_with fail
  go_ret
  exact ⟨rfl, rfl⟩
theorem has_none (w : World) (d : Int) : Calls Try.prog 19 #[.pointer none, .int .i64 d] w (fun e w' => e = .returned (.bool false) ∧ w' = w) := by
  go_enter Try.func19, Try.ntmps19
  go_wp2_with fail
  go_ret
  exact ⟨rfl, rfl⟩
theorem set_none (w : World) (d x : Int) : Calls Try.prog 11 #[.pointer none, .int .i64 d, .int .i64 x] w (fun e w' => e = .returned (.int .i64 1) ∧ w' = w) := by
  go_enter Try.func11, Try.ntmps11
  go_wp2_with fail
  refine (has_none _ _).mono ?_
  rintro e w' ⟨rfl, rfl⟩
  go_wp2_with fail
  go_ret
  exact ⟨rfl, rfl⟩
theorem at_none (w : World) (d : Int) : Calls Try.prog 15 #[.pointer none, .int .i64 d] w (fun e w' => e = .returned (.int .i64 0) ∧ w' = w) := by
  go_enter Try.func15, Try.ntmps15
  go_wp2_with fail
  refine (has_none _ _).mono ?_
  rintro e w' ⟨rfl, rfl⟩
  go_wp2_with fail
  go_ret
  exact ⟨rfl, rfl⟩
theorem real_none (w : World) : Calls Try.prog 17 #[.pointer none] w (fun e w' => e = .returned (.int .i64 0) ∧ w' = w) := by
  go_enter Try.func17, Try.ntmps17
  go_wp2_with fail
  go_ret
  exact ⟨rfl, rfl⟩
theorem none_calls (w : World) (s : Bool) (a b c : Int) (v : Value) : Calls Try.prog 6 #[.agg #[.bool s, .int .i64 a, .int .i64 b, .int .i64 c, v]] w (fun e w' => e = .returned (.bool true) ∧ Keep Nothing w w') := by
  have hu := Try.underlying35
  go_enter Try.func6, Try.ntmps6
  go_wp2_with fail
  refine (go_none _ _ _).mono ?_
  rintro e w' ⟨rfl, rfl⟩
  go_wp2_with fail
  refine (set_none _ _ _).mono ?_
  rintro e w' ⟨rfl, rfl⟩
  go_wp2_with fail
  refine (at_none _ _).mono ?_
  rintro e w' ⟨rfl, rfl⟩
  go_wp2_with fail
  refine (real_none _).mono ?_
  rintro e w' ⟨rfl, rfl⟩
  go_wp2_with fail
  refine (awake_calls _).mono ?_
  rintro e w' ⟨rfl, hk⟩
  have K := Lib.hid hk
  clear hk
  go_wp2_with fail
  go_ret
  refine ⟨rfl, Keep.then ?_ K.out⟩
  repeat (first | exact Keep.same _ _ | apply Keep.alloc | apply Keep.drewN | apply Keep.drew)
/-- A deed on clocks: Set (n, at), or Go (real, l). -/
structure Deed where
  s : Bool
  r : Int
  n : Int
  t : Int
  v : Value
  hr : I64 r
  hn : I64 n
  ht : I64 t
def Deed.cells (x : Deed) : List Value := [.bool x.s, .int .i64 x.r, .int .i64 x.n, .int .i64 x.t, x.v]
theorem cells35 : Try.prog.cellsOf 35 = 5 := by kernel_rfl
theorem cells33 : Try.prog.cellsOf 33 = 1 := by kernel_rfl
theorem deed_cells {H : Type} {enc : TypeId × Value → H} {W : World} {b0 n : Nat} {cs : List Value} {y : DataW H × List MemPlace} (ht : DataW.trod enc Try.prog W b0 (fun _ => true) true n 35 cs = some y) :
    ∃ x : Deed, cs = x.cells ∧ ∃ m z, DataW.trod enc Try.prog W b0 (fun _ => true) true m 33 [x.v] = some z ∧ ∀ p ∈ z.2, p ∈ y.2 := by
  obtain ⟨hcl, m, hf⟩ := R.struct_fields Try.underlying35 ht
  rw [cells35] at hcl
  have e4 : Try.prog.cellsOf 4 = 1 := by kernel_rfl
  obtain ⟨v0, y0, g0, k0, _⟩ := hf 0 4 0 rfl e4 (by omega)
  obtain ⟨v1, y1, g1, k1, _⟩ := hf 1 3 1 rfl cells3 (by omega)
  obtain ⟨v2, y2, g2, k2, _⟩ := hf 2 3 2 rfl cells3 (by omega)
  obtain ⟨v3, y3, g3, k3, _⟩ := hf 3 3 3 rfl cells3 (by omega)
  obtain ⟨v4, y4, g4, k4, hp4⟩ := hf 4 33 4 rfl cells33 (by omega)
  obtain ⟨s, l0, _⟩ := DataW.trod_bool Try.underlying4 k0
  obtain ⟨n1, l1, _, w1⟩ := DataW.trod_int Try.underlying3 k1
  obtain ⟨n2, l2, _, w2⟩ := DataW.trod_int Try.underlying3 k2
  obtain ⟨n3, l3, _, w3⟩ := DataW.trod_int Try.underlying3 k3
  injection l0 with l0 _
  injection l1 with l1 _
  injection l2 with l2 _
  injection l3 with l3 _
  subst l0 l1 l2 l3
  refine ⟨⟨s, n1, n2, n3, v4, wf_i64 w1, wf_i64 w2, wf_i64 w3⟩, List.ext_getElem? fun i => ?_, m, y4, k4, hp4⟩
  match i with
  | 0 => exact g0
  | 1 => exact g1
  | 2 => exact g2
  | 3 => exact g3
  | 4 => exact g4
  | i + 5 => rw [List.getElem?_eq_none (by omega), List.getElem?_eq_none (by simp [Deed.cells])]
open Go.ChangeShapes Go.WideShapes Go.ChangeAt in
theorem none_law : R.Law 6 Try.f6 R.any := by
  intro H enc W base args ds p hval hA hsz _ hlt
  rw [Try.params6] at hA hval
  obtain ⟨v0, vs0, d0, ds0, p0, q0, hargs, rfl, rfl, h0, r0⟩ := trodAll_cons hA
  obtain ⟨rfl, rfl, rfl⟩ := trodAll_nil r0
  obtain rfl : args = #[v0] := by cases args; simp_all
  obtain ⟨cs, n, rfl, ht⟩ := R.open_whole Try.underlying35 (hval 0 35 v0 rfl rfl) h0
  obtain ⟨x, hx, _⟩ := deed_cells ht
  obtain rfl : cs = #[.bool x.s, .int .i64 x.r, .int .i64 x.n, .int .i64 x.t, x.v] := Array.ext' hx
  exact (none_calls W x.s x.r x.n x.t x.v).mono fun e w' h => ⟨h.1, h.2.below (Nat.le_refl _) (fun _ h => h.elim)⟩
end Go.Proofs.Ytdipjjngemgldaa.A
