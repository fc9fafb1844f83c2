/-
  ClientNone: for every deed, a client that is none answers as told.
-/
import Derived.Test.YthlfcinjmljbjaaI3
import Derived.Test.YthlfcinjmljbjaaW
import Derived.Test.YthlfcinjmljbjaaR
import Derived.Deep.MidRow
namespace Go.Proofs.Ythlfcinjmljbjaa.A
open Go.RowKit Go.Proofs.Ythlfcinjmljbjaa.U
set_option linter.unusedVariables false
set_option linter.unusedSimpArgs false
set_option maxRecDepth 100000
set_option maxHeartbeats 1600000

theorem cells3' : Try.prog.cellsOf 3 = 1 := by kernel_rfl
theorem cells9' : Try.prog.cellsOf 9 = 1 := by kernel_rfl
theorem cells31 : Try.prog.cellsOf 31 = 5 := by kernel_rfl
theorem cells40 : Try.prog.cellsOf 40 = 20 := by kernel_rfl
theorem cells52 : Try.prog.cellsOf 52 = 27 := by kernel_rfl
theorem sub_at {α : Type} {cs : List α} {o n j : Nat} (hj : j < n) : ((cs.drop o).take n)[j]? = cs[o + j]? := by
  rw [List.getElem?_take, if_pos hj, List.getElem?_drop]
theorem cmd_cells {H : Type} {enc : TypeId × Value → H} {W : World} {b0 n : Nat} {cs : List Value} {y : DataW H × List MemPlace} (ht : DataW.trod enc Try.prog W b0 (fun _ => true) true n 31 cs = some y) (hlt : ∀ p ∈ y.2, p.block < W.heap.size) (hw : R.Light 31 y.1) :
    ∃ c : Cmd, cs = c.cs.toList ∧ I64 c.k ∧ I64 c.s ∧ I64 c.q ∧ I64 c.n ∧ c.nm.size ≤ 140737488351232 := by
  obtain ⟨hcl, m, hf⟩ := R.parts Try.underlying31 ht hlt hw
  rw [cells31] at hcl
  obtain ⟨y0, k0, _⟩ := hf 0 3 0 rfl
  obtain ⟨y1, k1, _⟩ := hf 1 3 1 rfl
  obtain ⟨y2, k2, _⟩ := hf 2 3 2 rfl
  obtain ⟨y3, k3, _, l3⟩ := hf 3 9 3 rfl
  obtain ⟨y4, k4, _⟩ := hf 4 3 4 rfl
  obtain ⟨v0, g0, k0⟩ := R.part1 cells3' (by omega) k0
  obtain ⟨v1, g1, k1⟩ := R.part1 cells3' (by omega) k1
  obtain ⟨v2, g2, k2⟩ := R.part1 cells3' (by omega) k2
  obtain ⟨v3, g3, k3⟩ := R.part1 cells9' (by omega) k3
  obtain ⟨v4, g4, k4⟩ := R.part1 cells3' (by omega) k4
  obtain ⟨n0, rfl, w0⟩ := R.cell_int Try.underlying3 k0
  obtain ⟨n1, rfl, w1⟩ := R.cell_int Try.underlying3 k1
  obtain ⟨n2, rfl, w2⟩ := R.cell_int Try.underlying3 k2
  obtain ⟨s, rfl, hs⟩ := R.cell_string Try.underlying9 k3 l3
  obtain ⟨n4, rfl, w4⟩ := R.cell_int Try.underlying3 k4
  exact ⟨⟨n0, n1, n2, s, n4⟩, R.list5 hcl g0 g1 g2 g3 g4, w0, w1, w2, w4, hs⟩
/-- A deed, its message as it is. -/
theorem deed_cells {H : Type} {enc : TypeId × Value → H} {W : World} {b0 n : Nat} {cs : List Value} {y : DataW H × List MemPlace} (ht : DataW.trod enc Try.prog W b0 (fun _ => true) true n 52 cs = some y) (hlt : ∀ p ∈ y.2, p.block < W.heap.size) (hw : R.Light 52 y.1) :
    ∃ (k now : Int) (c : Cmd) (M : List Value), cs = [.int .i64 k, .int .i64 now] ++ (c.cs.toList ++ M) ∧ M.length = 20 ∧ M = (cs.drop 7).take 20 ∧ I64 k ∧ I64 now ∧ I64 c.k ∧ I64 c.s ∧ I64 c.q ∧ I64 c.n ∧ c.nm.size ≤ 140737488351232 := by
  obtain ⟨hcl, m, hf⟩ := R.parts Try.underlying52 ht hlt hw
  rw [cells52] at hcl
  obtain ⟨y0, k0, _⟩ := hf 0 3 0 rfl
  obtain ⟨y1, k1, _⟩ := hf 1 3 1 rfl
  obtain ⟨y2, k2, p2, l2⟩ := hf 2 31 2 rfl
  obtain ⟨v0, g0, k0⟩ := R.part1 cells3' (by omega) k0
  obtain ⟨v1, g1, k1⟩ := R.part1 cells3' (by omega) k1
  rw [cells31] at k2
  obtain ⟨n0, rfl, w0⟩ := R.cell_int Try.underlying3 k0
  obtain ⟨n1, rfl, w1⟩ := R.cell_int Try.underlying3 k1
  obtain ⟨c, hc, c64⟩ := cmd_cells k2 p2 l2
  refine ⟨n0, n1, c, (cs.drop 7).take 20, ?_, by rw [List.length_take, List.length_drop]; omega, rfl, w0, w1, c64⟩
  have e1 : cs = cs.take 2 ++ ((cs.drop 2).take 5 ++ (cs.drop 2).drop 5) := by rw [List.take_append_drop, List.take_append_drop]
  have e2 : cs.take 2 = [.int .i64 n0, .int .i64 n1] := by
    match cs, hcl, g0, g1 with
    | a :: b :: r, _, g0, g1 =>
      simp at g0 g1
      subst g0 g1
      rfl
  have e3 : (cs.drop 2).drop 5 = (cs.drop 7).take 20 := by
    rw [List.drop_drop, List.take_of_length_le (by rw [List.length_drop]; omega)]
  rw [hc, e2, e3] at e1
  exact e1
theorem list20 {M : List Value} (h : M.length = 20) : ∃ a0 a1 a2 a3 a4 a5 a6 a7 a8 a9 a10 a11 a12 a13 a14 a15 a16 a17 a18 a19, M = [a0, a1, a2, a3, a4, a5, a6, a7, a8, a9, a10, a11, a12, a13, a14, a15, a16, a17, a18, a19] := by
  match M, h with
  | [a0, a1, a2, a3, a4, a5, a6, a7, a8, a9, a10, a11, a12, a13, a14, a15, a16, a17, a18, a19], _ => exact ⟨a0, a1, a2, a3, a4, a5, a6, a7, a8, a9, a10, a11, a12, a13, a14, a15, a16, a17, a18, a19, rfl⟩
theorem none_calls (w : World) (k now : Int) (c : Cmd) (a0 a1 a2 a3 a4 a5 a6 a7 a8 a9 a10 a11 a12 a13 a14 a15 a16 a17 a18 a19 : Value) :
    Calls Try.prog 6 #[.agg #[.int .i64 k, .int .i64 now, .int .i64 c.k, .int .i64 c.s, .int .i64 c.q, .string c.nm, .int .i64 c.n, a0, a1, a2, a3, a4, a5, a6, a7, a8, a9, a10, a11, a12, a13, a14, a15, a16, a17, a18, a19]] w (fun e w' => e = .returned (.bool true) ∧ Keep Nothing w w') := by
  have hu := Try.underlying52
  have hu2 := Try.underlying31
  have hu3 := Try.underlying46
  obtain ⟨X, hX⟩ : ∃ X : Array Value, X = #[.int .i64 k, .int .i64 now, .int .i64 c.k, .int .i64 c.s, .int .i64 c.q, .string c.nm, .int .i64 c.n, a0, a1, a2, a3, a4, a5, a6, a7, a8, a9, a10, a11, a12, a13, a14, a15, a16, a17, a18, a19] := ⟨_, rfl⟩
  have B0 := Lib.hid (Blk.fresh w 52 X)
  have K0 := Lib.hid ((Keep.same Nothing w).alloc (.cells X 52))
  have MID := Lib.hid (show ∀ w', Blk w' w.heap.size 52 X → w'.rangeAt w.heap.size 7 [a0, a1, a2, a3, a4, a5, a6, a7, a8, a9, a10, a11, a12, a13, a14, a15, a16, a17, a18, a19] from fun w' h j v hv => by
    rw [h.cell, hX, ← hv]
    have hj : j < 20 := (List.getElem?_eq_some_iff.1 hv).1
    rw [Nat.add_comm, List.getElem?_toArray]
    rfl)
  have CELLS := Lib.hid (show ∀ w', Blk w' w.heap.size 52 X → w'.cell? ⟨w.heap.size, 1, none⟩ = some (.int .i64 now) ∧ w'.cell? ⟨w.heap.size, 2, none⟩ = some (.int .i64 c.k) ∧ w'.cell? ⟨w.heap.size, 3, none⟩ = some (.int .i64 c.s) ∧ w'.cell? ⟨w.heap.size, 4, none⟩ = some (.int .i64 c.q) ∧ w'.cell? ⟨w.heap.size, 5, none⟩ = some (.string c.nm) ∧ w'.cell? ⟨w.heap.size, 6, none⟩ = some (.int .i64 c.n) from fun w' h => by
    refine ⟨?_, ?_, ?_, ?_, ?_, ?_⟩ <;> (rw [h.cell, hX]; rfl))
  have C9 := Lib.hid (fun w => call9n w c now)
  have C10 := Lib.hid (fun w => handle10n w a0 a1 a2 a3 a4 a5 a6 a7 a8 a9 a10 a11 a12 a13 a14 a15 a16 a17 a18 a19 now)
  unfold Cmd.val Cmd.cs at C9
  rw [← hX]
  clear hX
  obtain ⟨x1, x2, x3, x4, x5, x6⟩ := CELLS.out _ B0.out
  go_enter Try.func6, Try.ntmps6
  go_wp2_with fail
  refine (C9.out _).mono ?_
  rintro e w1 ⟨rfl, hk1⟩
  have K1 := Lib.hid (K0.out.then hk1)
  have B1 := Lib.hid (B0.out.keep hk1 (fun h => h))
  clear x1 x2 x3 x4 x5 x6 hk1
  obtain ⟨x1, x2, x3, x4, x5, x6⟩ := CELLS.out _ B1.out
  go_wp2_with (refine wpList_load_mid (by rfl) 40 (.tmp 21) (by rfl) w.heap.size 7 (by rfl) [a0, a1, a2, a3, a4, a5, a6, a7, a8, a9, a10, a11, a12, a13, a14, a15, a16, a17, a18, a19] _ (MID.out _ B1.out) Try.underlying40 rfl hi40 ?_)
  refine (C10.out _).mono ?_
  rintro e w2 ⟨rfl, hk2⟩
  have K2 := Lib.hid (K1.out.then hk2)
  have B2 := Lib.hid (B1.out.keep hk2 (fun h => h))
  clear x1 x2 x3 x4 x5 x6 hk2
  obtain ⟨x1, x2, x3, x4, x5, x6⟩ := CELLS.out _ B2.out
  go_wp2_with fail
  refine (holds13n _ _ _).mono ?_
  rintro e w3 ⟨rfl, hk3⟩
  have hk3' := hk3.alloc (.cells #[.string .empty, .bool false, .int .u64 0] 46)
  have K3 := Lib.hid (K2.out.then hk3')
  have B3 := Lib.hid (B2.out.keep hk3' (fun h => h))
  clear x1 x2 x3 x4 x5 x6 hk3 hk3'
  obtain ⟨x1, x2, x3, x4, x5, x6⟩ := CELLS.out _ B3.out
  go_wp2_with fail
  refine (tick16n _ now).mono ?_
  rintro e w4 ⟨rfl, hk4⟩
  have K4 := Lib.hid (K3.out.then hk4)
  have B4 := Lib.hid (B3.out.keep hk4 (fun h => h))
  clear x1 x2 x3 x4 x5 x6 hk4
  obtain ⟨x1, x2, x3, x4, x5, x6⟩ := CELLS.out _ B4.out
  go_wp2_with fail
  refine (session17n _).mono ?_
  rintro e w5 ⟨rfl, rfl⟩
  go_wp2_with fail
  refine (busy15n _).mono ?_
  rintro e w5 ⟨rfl, rfl⟩
  go_wp2_with fail
  refine (valid12n _ now).mono ?_
  rintro e w5 ⟨rfl, rfl⟩
  go_wp2_with fail
  refine (held18n _).mono ?_
  rintro e w5 ⟨rfl, hk5⟩
  have K5 := Lib.hid (K4.out.then hk5)
  clear x1 x2 x3 x4 x5 x6 hk5
  go_wp2_with fail
  refine (new8none _).mono ?_
  rintro e w6 ⟨rfl, rfl⟩
  go_wp2_with fail
  refine (awake7 _).mono ?_
  rintro e w7 ⟨rfl, hk7⟩
  have K7 := Lib.hid (K5.out.then hk7)
  clear hk7
  go_wp2_with fail
  go_ret
  exact ⟨rfl, K7.out⟩
open Go.ChangeShapes Go.WideShapes Go.ChangeAt in
theorem none_law : R.Law 6 Try.f6 R.any := by
  intro H enc W base args ds p hval hA hsz _ hlt
  rw [Try.params6] at hA hval hsz
  obtain ⟨v0, vs0, d0, ds0, p0, q0, hargs, rfl, rfl, h0, r0⟩ := trodAll_cons hA
  obtain ⟨rfl, rfl, rfl⟩ := trodAll_nil r0
  obtain rfl : args = #[v0] := by cases args; simp_all
  obtain ⟨cs, n, rfl, ht⟩ := R.open_whole Try.underlying52 (hval 0 52 v0 rfl rfl) h0
  obtain ⟨k, now, c, M, hx, hM, _⟩ := deed_cells ht (fun q hq => hlt q (List.mem_append_left _ hq)) (R.light_of (j := 0) hsz rfl rfl)
  obtain ⟨a0, a1, a2, a3, a4, a5, a6, a7, a8, a9, a10, a11, a12, a13, a14, a15, a16, a17, a18, a19, rfl⟩ := list20 hM
  obtain rfl : cs = #[.int .i64 k, .int .i64 now, .int .i64 c.k, .int .i64 c.s, .int .i64 c.q, .string c.nm, .int .i64 c.n, a0, a1, a2, a3, a4, a5, a6, a7, a8, a9, a10, a11, a12, a13, a14, a15, a16, a17, a18, a19] := Array.ext' hx
  exact (none_calls W k now c a0 a1 a2 a3 a4 a5 a6 a7 a8 a9 a10 a11 a12 a13 a14 a15 a16 a17 a18 a19).mono fun e w' h => ⟨h.1, h.2.below (Nat.le_refl _) (fun _ h => h.elim)⟩
end Go.Proofs.Ythlfcinjmljbjaa.A
