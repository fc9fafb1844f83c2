/-
  LearnerFirst, LearnerNone.
-/
import Derived.Test.YtcbjmmjjohigmaaN
namespace Go.Proofs.Ytcbjmmjjohigmaa.A
open Go.RowKit Go.Proofs.Ytcbjmmjjohigmaa.U
set_option linter.unusedVariables false
set_option linter.unusedSimpArgs false
set_option maxRecDepth 100000

theorem first_plain (a : Ent) (h : ¬ a.a < 1) : lnL [] 0 a = [a] := by
  have h1 : skip [] 0 a = false := by
    unfold skip
    rw [decide_eq_false (by omega)]
    rfl
  exact (skip_no h1).1
theorem first_again (a b : Ent) (t : Int) (hb : b.a = a.a) : lnL [a] t b = [a] ∧ findV [a] a.a = some a := by
  have h1 : findV [a] a.a = some a := findV_some (k := 0) rfl (by unfold isSlot; simp) (fun j y hj => by omega)
  exact ⟨(skip_yes (by unfold skip; rw [hb, h1]; simp)).1, h1⟩
set_option maxHeartbeats 6400000 in
theorem first_calls (w : World) (a b : Ent) (ha : EIn64 a) : Calls Try.prog 4 #[a.val, b.val] w (fun e w' => e = .returned (.bool true) ∧ Keep Nothing w w') := by
  have hu := Try.underlying28
  have hu2 := Try.underlying30
  have hbl : ∀ w', Below w.heap.size w w' → Keep Nothing w w' := fun w' h => Keep.of_below h _
  have SN := Lib.hid none_stable
  have SB := Lib.hid blkP_stable
  have LS := Lib.hid lnP_stable
  have RS := Lib.hid rowP_stable
  by_cases h1 : a.a < 1
  · have g1 : decide (a.a < 1) = true := decide_eq_true h1
    go_enter Try.func4, Try.ntmps4
    go_wp2_with fail
    refine (awake_calls _).mono ?_
    rintro e w2 ⟨rfl, hk⟩
    have K := Lib.hid hk
    clear hk
    go_wp2_with fail
    go_ret
    exact ⟨rfl, (((Keep.same Nothing w).alloc _).alloc _).then K.out⟩
  · have g1 : decide (a.a < 1) = false := decide_eq_false h1
    have A1 := Lib.hid (first_plain a h1)
    have A2 := Lib.hid (first_again a ⟨a.a, b.b, b.c⟩ (lnR [] 0 a).1 rfl)
    have GE := Lib.hid (show 0 ≤ (lnR [] 0 a).1 ∧ (lnR [] 0 a).1 ≤ 9223372036854775807 by
      have hs : skip [] 0 a = false := by
        unfold skip
        rw [decide_eq_false (by omega)]
        rfl
      rw [(skip_no hs).2]
      have := fol_ge ([] ++ [a]) 0
      omega)
    have Z := Lib.hid (show ((w.alloc (.cells a.cs 30)).alloc (.cells (Ent.mk a.a b.b b.c).cs 30)).heap.size = w.heap.size + 1 + 1 by simp)
    have H1 := Lib.hid (Holds.second (show Holds w.heap.size w ((w.alloc (.cells a.cs 30)).alloc (.cells (Ent.mk a.a b.b b.c).cs 30)) (star (blkP (w.heap.size + 1) 30 (Ent.mk a.a b.b b.c).cs) (star (blkP w.heap.size 30 a.cs) none_)) by
      have := Holds.newBlk ((Holds.start w).newBlk none_stable 30 a.cs) ((blkP_stable _ _ _).star none_stable) 30 (Ent.mk a.a b.b b.c).cs
      rwa [show (w.alloc (.cells a.cs 30)).heap.size = w.heap.size + 1 by simp] at this))
    have Q2 := Lib.hid (fun w => eqlC w a.c a.c)
    rw [eqC_same] at Q2
    go_enter Try.func4, Try.ntmps4
    go_wp2_with fail
    refine (new_calls _ 0).mono ?_
    rintro e w1 ⟨rfl, hw1⟩
    have H2 := Lib.hid (show Holds w.heap.size w w1 (star (lnP 51 (w.heap.size + 1 + 1) 0 []) (star (blkP w.heap.size 30 a.cs) (star (blkP (w.heap.size + 1) 30 (Ent.mk a.a b.b b.c).cs) none_))) by
      have := Holds.newLn H1.out ((SB.out _ _ _).star ((SB.out _ _ _).star SN.out)) 51 0
      rw [Z.out] at this
      rw [hw1]
      exact this)
    clear hw1
    have c := blk_at H2.out.drop
    have c0 := c.cell 0
    have c1 := c.cell 1
    have c2 := c.cell 2
    have c3 := c.cell 3
    have c4 := c.cell 4
    have c5 := c.cell 5
    have c6 := c.cell 6
    have X1 := x_learn H2.out ((SB.out _ _ _).star ((SB.out _ _ _).star SN.out)) a (by decide) (by decide) (by decide)
    rw [A1.out] at X1
    have X1' := Lib.hid X1
    clear X1 c
    go_wp2_with fail
    clear c0 c1 c2 c3 c4 c5 c6
    refine X1'.out.mono ?_
    rintro e w2 ⟨A2', k2, rfl, h2⟩
    have H3 := Lib.hid h2.drop
    clear h2
    generalize (lnR [] 0 a).1 = t at *
    generalize (lnR [] 0 a).2 = M at *
    have hge := GE.out
    have c := blk_at H3.out.drop.drop
    have c0 := c.cell 0
    have c1 := c.cell 1
    have c2 := c.cell 2
    have c3 := c.cell 3
    have c4 := c.cell 4
    have c5 := c.cell 5
    have c6 := c.cell 6
    have X1 := x_learn H3.out ((SB.out _ _ _).star ((SB.out _ _ _).star SN.out)) (Ent.mk a.a b.b b.c) (by omega) hge.2 (by simp)
    rw [A2.out.1] at X1
    have X2' := Lib.hid X1
    clear X1 c
    go_wp2_with fail
    clear c0 c1 c2 c3 c4 c5 c6
    refine X2'.out.mono ?_
    rintro e w3 ⟨A3', k3, rfl, h3⟩
    have H4 := Lib.hid h3.drop
    clear h3
    have c := blk_at (Holds.second H4.out)
    have c0 := c.cell 0
    have X1 := x_known H4.out a.a
    rw [A2.out.2] at X1
    have X3' : Hid (Calls Try.prog 11 #[.pointer (some ⟨w.heap.size + 1 + 1, 0, none⟩), .int .i64 a.a] w3 (fun e w' => e = .returned (.tuple #[a.c.val, .bool true]) ∧ Keep Nothing w3 w')) := Lib.hid X1
    clear X1 c
    go_wp2_with fail
    clear c0
    refine X3'.out.mono ?_
    rintro e w4 ⟨rfl, hk⟩
    have H5 := Lib.hid (Holds.newBlk (H4.out.kept ((LS.out _ _ _ _).star ((SB.out _ _ _).star ((SB.out _ _ _).star SN.out))) hk) ((LS.out _ _ _ _).star ((SB.out _ _ _).star ((SB.out _ _ _).star SN.out))) 28 a.c.cs)
    clear hk
    have c := blk_at (Holds.second H5.out.drop)
    have d := blk_at H5.out
    have c2 := c.cell 2
    have c3 := c.cell 3
    have c4 := c.cell 4
    have c5 := c.cell 5
    have c6 := c.cell 6
    have d0 := d.cell 0
    have d1 := d.cell 1
    have d2 := d.cell 2
    have d3 := d.cell 3
    have d4 := d.cell 4
    have q2 := Q2.out
    clear c d
    go_wp2_with fail
    refine (awake_calls _).mono ?_
    rintro e w5 ⟨rfl, hk⟩
    have H6 := Lib.hid (H5.out.kept ((SB.out _ _ _).star ((LS.out _ _ _ _).star ((SB.out _ _ _).star ((SB.out _ _ _).star SN.out)))) hk)
    clear hk
    go_wp2_with fail
    go_ret
    exact ⟨rfl, hbl _ H6.out.below⟩
open Go.ChangeShapes Go.WideShapes Go.ChangeAt in
theorem first_law : R.Law 4 Try.f4 R.any := by
  intro H enc W base args ds p hval hA hsz _ hlt
  rw [Try.params4] at hA hval hsz
  obtain ⟨v0, vs0, d0, ds0, p0, q0, hargs, rfl, rfl, h0, r0⟩ := trodAll_cons hA
  obtain ⟨v1, vs1, d1, ds1, p1, q1, rfl, rfl, rfl, h1, r1⟩ := trodAll_cons r0
  obtain ⟨rfl, rfl, rfl⟩ := trodAll_nil r1
  obtain rfl : args = #[v0, v1] := by cases args; simp_all
  obtain ⟨cs, n, rfl, ht⟩ := R.open_whole Try.underlying30 (hval 0 30 v0 rfl rfl) h0
  obtain ⟨cs', n', rfl, ht'⟩ := R.open_whole Try.underlying30 (hval 1 30 v1 rfl rfl) h1
  obtain ⟨a, ha, a64, _⟩ := ent_cells ht (fun x hx => hlt x (List.mem_append_left _ hx)) (R.light_of hsz (j := 0) rfl rfl)
  obtain ⟨b, hb, b64, _⟩ := ent_cells ht' (fun x hx => hlt x (List.mem_append_right _ (List.mem_append_left _ hx))) (R.light_of hsz (j := 1) rfl rfl)
  obtain rfl : cs = a.cs := Array.ext' ha
  obtain rfl : cs' = b.cs := Array.ext' hb
  exact (first_calls W a b a64).mono fun e w' h => ⟨h.1, h.2.below (Nat.le_refl _) (fun _ h => h.elim)⟩
/-! ### Deeds -/
structure Deed where
  k : Int
  n : Int
  m : Int
  e : Ent
def Deed.cells (x : Deed) : List Value := [.int .i64 x.k, .int .i64 x.n, .int .i64 x.m] ++ x.e.cl
structure Deed64 (x : Deed) : Prop where
  n : I64 x.n
  m : I64 x.m
  e : EIn64 x.e
theorem cells41 : Try.prog.cellsOf 41 = 10 := by kernel_rfl
theorem deed_cells {H : Type} {enc : TypeId × Value → H} {W : World} {b0 n : Nat} {cs : List Value} {y : DataW H × List MemPlace} (ht : DataW.trod enc Try.prog W b0 (fun _ => true) true n 41 cs = some y) (hlt : ∀ p ∈ y.2, p.block < W.heap.size) (hw : R.Light 41 y.1) :
    ∃ x : Deed, cs = x.cells ∧ Deed64 x := by
  obtain ⟨hcl, m, hf⟩ := R.parts Try.underlying41 ht hlt hw
  rw [cells41] at hcl
  obtain ⟨y0, k0, _⟩ := hf 0 3 0 rfl
  obtain ⟨y1, k1, _⟩ := hf 1 3 1 rfl
  obtain ⟨y2, k2, _⟩ := hf 2 3 2 rfl
  obtain ⟨y3, k3, p3, l3⟩ := hf 3 30 3 rfl
  obtain ⟨v0, g0, k0⟩ := R.part1 cellsI (by omega) k0
  obtain ⟨v1, g1, k1⟩ := R.part1 cellsI (by omega) k1
  obtain ⟨v2, g2, k2⟩ := R.part1 cellsI (by omega) k2
  rw [cellsE] at k3
  obtain ⟨n0, rfl, w0⟩ := R.cell_int Try.underlying3 k0
  obtain ⟨n1, rfl, w1⟩ := R.cell_int Try.underlying3 k1
  obtain ⟨n2, rfl, w2⟩ := R.cell_int Try.underlying3 k2
  obtain ⟨e, he, e64, _⟩ := ent_cells k3 p3 l3
  refine ⟨⟨n0, n1, n2, e⟩, ?_, ⟨w1, w2, e64⟩⟩
  have hs : cs = cs.take 3 ++ (cs.drop 3).take 7 := by
    rw [List.take_of_length_le (l := cs.drop 3) (by rw [List.length_drop]; omega), List.take_append_drop]
  rw [he] at hs
  rw [hs]
  have h3 : cs.take 3 = [.int .i64 n0, .int .i64 n1, .int .i64 n2] := R.list3 (by rw [List.length_take]; omega) (by rw [List.getElem?_take]; simpa using g0) (by rw [List.getElem?_take]; simpa using g1) (by rw [List.getElem?_take]; simpa using g2)
  rw [h3]
  rfl
set_option maxHeartbeats 6400000 in
theorem none_calls (w : World) (x : Deed) : Calls Try.prog 6 #[.agg #[.int .i64 x.k, .int .i64 x.n, .int .i64 x.m, .int .i64 x.e.a, .int .i64 x.e.b, .int .i64 x.e.c.k, .int .i64 x.e.c.s, .int .i64 x.e.c.q, .string x.e.c.nm, .int .i64 x.e.c.n]] w (fun e w' => e = .returned (.bool true) ∧ Keep Nothing w w') := by
  have hu := Try.underlying41
  have hu2 := Try.underlying30
  have hbl : ∀ w', Below w.heap.size w w' → Keep Nothing w w' := fun w' h => Keep.of_below h _
  have S := Lib.hid (fun g => (blkP_stable g 41 #[.int .i64 x.k, .int .i64 x.n, .int .i64 x.m, .int .i64 x.e.a, .int .i64 x.e.b, .int .i64 x.e.c.k, .int .i64 x.e.c.s, .int .i64 x.e.c.q, .string x.e.c.nm, .int .i64 x.e.c.n]).star none_stable)
  have H0 := Lib.hid ((Holds.start w).newBlk none_stable 41 #[.int .i64 x.k, .int .i64 x.n, .int .i64 x.m, .int .i64 x.e.a, .int .i64 x.e.b, .int .i64 x.e.c.k, .int .i64 x.e.c.s, .int .i64 x.e.c.q, .string x.e.c.nm, .int .i64 x.e.c.n])
  go_enter Try.func6, Try.ntmps6
  go_wp2_with fail
  refine (forget_none _ _).mono ?_
  rintro e w' ⟨rfl, rfl⟩
  go_wp2_with fail
  refine (known_none _ _).mono ?_
  rintro e w2 ⟨rfl, hk⟩
  have H2 := Lib.hid ((H0.out.kept (S.out _) hk).alloc (S.out _) (.cells zcs 28))
  clear hk
  have c := blk_at H2.out
  have c1 := c.cell 1
  have c2 := c.cell 2
  have c3 := c.cell 3
  have c4 := c.cell 4
  have c5 := c.cell 5
  have c6 := c.cell 6
  have c7 := c.cell 7
  have c8 := c.cell 8
  have c9 := c.cell 9
  clear c
  go_wp2_with fail
  refine (learn_none _ x.e).mono ?_
  rintro e w3 ⟨rfl, hk⟩
  have H3 := Lib.hid (H2.out.kept (S.out _) hk)
  clear hk c1 c2 c3 c4 c5 c6 c7 c8 c9
  have c := blk_at H3.out
  have c1 := c.cell 1
  have c2 := c.cell 2
  clear c
  go_wp2_with fail
  refine (applied_none _).mono ?_
  rintro e w' ⟨rfl, rfl⟩
  go_wp2_with fail
  refine (jump_none _ _).mono ?_
  rintro e w' ⟨rfl, rfl⟩
  go_wp2_with fail
  refine (since_none _ _ _).mono ?_
  rintro e w' ⟨rfl, rfl⟩
  go_wp2_with fail
  refine (awake_calls _).mono ?_
  rintro e w5 ⟨rfl, hk⟩
  have H6 := Lib.hid (H3.out.kept (S.out _) hk)
  clear hk
  go_wp2_with fail
  go_ret
  exact ⟨rfl, hbl _ H6.out.below⟩
open Go.ChangeShapes Go.WideShapes Go.ChangeAt in
theorem none_law : R.Law 6 Try.f6 R.any := by
  intro H enc W base args ds p hval hA hsz _ hlt
  rw [Try.params6] at hA hval hsz
  obtain ⟨v0, vs0, d0, ds0, p0, q0, hargs, rfl, rfl, h0, r0⟩ := trodAll_cons hA
  obtain ⟨rfl, rfl, rfl⟩ := trodAll_nil r0
  obtain rfl : args = #[v0] := by cases args; simp_all
  obtain ⟨cs, n, rfl, ht⟩ := R.open_whole Try.underlying41 (hval 0 41 v0 rfl rfl) h0
  obtain ⟨x, hx, _⟩ := deed_cells ht (fun x hx => hlt x (List.mem_append_left _ hx)) (R.light_of hsz (j := 0) rfl rfl)
  obtain rfl : cs = #[.int .i64 x.k, .int .i64 x.n, .int .i64 x.m, .int .i64 x.e.a, .int .i64 x.e.b, .int .i64 x.e.c.k, .int .i64 x.e.c.s, .int .i64 x.e.c.q, .string x.e.c.nm, .int .i64 x.e.c.n] := Array.ext' hx
  exact (none_calls W x).mono fun e w' h => ⟨h.1, h.2.below (Nat.le_refl _) (fun _ h => h.elim)⟩
end Go.Proofs.Ytcbjmmjjohigmaa.A
