/-
  Deeds as arguments; AcceptorNone.
-/
import Derived.Test.YtnbllckmeehhjaaP
namespace Go.Proofs.Ytnbllckmeehhjaa.A
open Go.RowKit Go.Proofs.Ytnbllckmeehhjaa.U
set_option linter.unusedVariables false
set_option linter.unusedSimpArgs false
set_option maxRecDepth 100000

structure ADeed where
  k : Int
  b : Int
  e : Ent
  s : ByteArray
abbrev ADeed.cl (x : ADeed) : List Value := [.int .i64 x.k, .int .i64 x.b, .int .i64 x.e.a, .int .i64 x.e.b, .int .i64 x.e.c.k, .int .i64 x.e.c.s, .int .i64 x.e.c.q, .string x.e.c.nm, .int .i64 x.e.c.n, .string x.s]
abbrev ADeed.cs (x : ADeed) : Array Value := #[.int .i64 x.k, .int .i64 x.b, .int .i64 x.e.a, .int .i64 x.e.b, .int .i64 x.e.c.k, .int .i64 x.e.c.s, .int .i64 x.e.c.q, .string x.e.c.nm, .int .i64 x.e.c.n, .string x.s]
theorem cells39 : Try.prog.cellsOf 39 = 10 := by kernel_rfl
theorem adeed_cells {H : Type} {enc : TypeId × Value → H} {W : World} {b0 n : Nat} {cs : List Value} {y : DataW H × List MemPlace} (ht : DataW.trod enc Try.prog W b0 (fun _ => true) true n 39 cs = some y) (hlt : ∀ p ∈ y.2, p.block < W.heap.size) (hw : R.Light 39 y.1) :
    ∃ x : ADeed, cs = x.cl := by
  obtain ⟨hcl, m, hf⟩ := R.parts Try.underlying39 ht hlt hw
  rw [cells39] at hcl
  obtain ⟨y0, k0, _⟩ := hf 0 3 0 rfl
  obtain ⟨y1, k1, _⟩ := hf 1 3 1 rfl
  obtain ⟨y2, k2, p2, l2⟩ := hf 2 37 2 rfl
  obtain ⟨y3, k3, _, l3⟩ := hf 3 9 9 rfl
  obtain ⟨v0, g0, k0⟩ := R.part1 cellsI (by omega) k0
  obtain ⟨v1, g1, k1⟩ := R.part1 cellsI (by omega) k1
  obtain ⟨v3, g3, k3⟩ := R.part1 cellsS (by omega) k3
  rw [cellsE] at k2
  obtain ⟨n0, rfl, _⟩ := R.cell_int Try.underlying3 k0
  obtain ⟨n1, rfl, _⟩ := R.cell_int Try.underlying3 k1
  obtain ⟨e, he, _, _⟩ := ent_cells k2 p2 l2
  obtain ⟨s, rfl, _⟩ := R.cell_string Try.underlying9 k3 l3
  refine ⟨⟨n0, n1, e, s⟩, ?_⟩
  have e1 : cs = cs.take 2 ++ ((cs.drop 2).take 7 ++ (cs.drop 2).drop 7) := by rw [List.take_append_drop, List.take_append_drop]
  have e2 : cs.take 2 = [.int .i64 n0, .int .i64 n1] := by
    match cs, hcl, g0, g1 with
    | a :: b :: r, _, g0, g1 =>
      simp at g0 g1
      subst g0 g1
      rfl
  have e3 : (cs.drop 2).drop 7 = [.string s] := by
    rw [List.drop_drop]
    have hl : (cs.drop 9).length = 1 := by rw [List.length_drop]; omega
    have h0 : (cs.drop 9)[0]? = some (.string s) := by rw [List.getElem?_drop]; exact g3
    match cs.drop 9, hl, h0 with
    | [a], _, h0 => simp at h0; rw [h0]
  rw [he, e2, e3] at e1
  rw [e1]
  rfl
set_option maxHeartbeats 6400000 in
theorem anone_calls (w : World) (x : ADeed) : Calls Try.prog 7 #[.agg x.cs] w (fun e w' => e = .returned (.bool true) ∧ Keep Nothing w w') := by
  have hu := Try.underlying39
  have hu2 := Try.underlying37
  have hu3 := Try.underlying33
  have X := Lib.hid (Blk.fresh w 39 x.cs)
  have K0 := Lib.hid ((Keep.same Nothing w).alloc (.cells x.cs 39))
  have x0 := X.out.cell 0
  have x1 := X.out.cell 1
  have x2 := X.out.cell 2
  have x3 := X.out.cell 3
  have x4 := X.out.cell 4
  have x5 := X.out.cell 5
  have x6 := X.out.cell 6
  have x7 := X.out.cell 7
  have x8 := X.out.cell 8
  have x9 := X.out.cell 9
  unfold ADeed.cs at *
  go_enter Try.func7, Try.ntmps7
  go_wp2_with fail
  refine (prepare_none _ _).mono ?_
  rintro e w1 ⟨rfl, hk1⟩
  have K1 := Lib.hid (hk1.alloc (.cells zo4 33))
  have X1 := X.out.keep K1.out (fun h => h)
  have y1 := X1.cell 1
  have y2 := X1.cell 2
  have y3 := X1.cell 3
  have y4 := X1.cell 4
  have y5 := X1.cell 5
  have y6 := X1.cell 6
  have y7 := X1.cell 7
  have y8 := X1.cell 8
  clear x0 x1 x2 x3 x4 x5 x6 x7 x8 x9 hk1 X1
  go_wp2_with fail
  refine (accept_none _ _ x.e).mono ?_
  rintro e w2 ⟨rfl, hk2⟩
  have K2 := Lib.hid (K1.out.then (hk2.alloc (.cells zo4 33)))
  have X2 := X.out.keep K2.out (fun h => h)
  have z1 := X2.cell 1
  have z9 := X2.cell 9
  clear y1 y2 y3 y4 y5 y6 y7 y8 hk2 X2
  go_wp2_with fail
  refine (cut_none _ _ _).mono ?_
  rintro e w3 ⟨rfl, hk3⟩
  have K3 := Lib.hid (K2.out.then hk3)
  have y1 := (X.out.keep K3.out (fun h => h)).cell 1
  clear z1 z9 hk3
  go_wp2_with fail
  refine (at_none _ _).mono ?_
  rintro e w4 ⟨rfl, hk4⟩
  have K4 := Lib.hid (K3.out.then (hk4.alloc (.cells zes 37)))
  have z1 := (X.out.keep K4.out (fun h => h)).cell 1
  clear y1 hk4
  go_wp2_with fail
  refine (promised_none _).mono ?_
  rintro e w5 ⟨rfl, rfl⟩
  go_wp2_with fail
  refine (from_none' _ _).mono ?_
  rintro e w6 ⟨rfl, hk6⟩
  have K6 := Lib.hid (K4.out.then hk6)
  clear z1 hk6
  go_wp2_with fail
  refine (durable_none _).mono ?_
  rintro e w7 ⟨rfl, hk7⟩
  have K7 := Lib.hid (K6.out.then hk7)
  clear hk7
  go_wp2_with fail
  refine (same13 _ zD none none 0 0 (Src_none _) (Src_none _) (by simp)).mono ?_
  rintro e w8 ⟨rfl, hk8⟩
  have K8 := Lib.hid (K7.out.then hk8)
  clear hk8
  go_wp2_with fail
  refine (awake9 _).mono ?_
  rintro e w9 ⟨rfl, hk9⟩
  have K9 := Lib.hid (K8.out.then hk9)
  clear hk9
  go_wp2_with fail
  go_ret
  exact ⟨rfl, K0.out.then K9.out⟩
open Go.ChangeShapes Go.WideShapes Go.ChangeAt in
theorem anone_law : R.Law 7 Try.f7 R.any := by
  intro H enc W base args ds p hval hA hsz _ hlt
  rw [Try.params7] at hA hval hsz
  obtain ⟨v0, vs0, d0, ds0, p0, q0, hargs, rfl, rfl, h0, r0⟩ := trodAll_cons hA
  obtain ⟨rfl, rfl, rfl⟩ := trodAll_nil r0
  obtain rfl : args = #[v0] := by cases args; simp_all
  obtain ⟨cs, n, rfl, ht⟩ := R.open_whole Try.underlying39 (hval 0 39 v0 rfl rfl) h0
  obtain ⟨x, hx⟩ := adeed_cells ht (fun q hq => hlt q (List.mem_append_left _ hq)) (R.light_of (j := 0) hsz rfl rfl)
  obtain rfl : cs = x.cs := Array.ext' hx
  exact (anone_calls W x).mono fun e w' h => ⟨h.1, h.2.below (Nat.le_refl _) (fun _ h => h.elim)⟩
end Go.Proofs.Ytnbllckmeehhjaa.A
