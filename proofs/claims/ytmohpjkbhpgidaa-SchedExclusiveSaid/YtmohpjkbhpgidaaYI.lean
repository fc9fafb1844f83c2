/-
  The scheduler: a step of any object. Printed by gen_yi.py.
-/
import Derived.Test.YtmohpjkbhpgidaaYH
namespace Go.Proofs.Ytmohpjkbhpgidaa.A
open Go.RowKit Go.Proofs.Ytmohpjkbhpgidaa.U
set_option linter.unusedVariables false
set_option linter.unusedSimpArgs false
set_option maxRecDepth 100000
set_option maxHeartbeats 1600000

def wake1 (X : List (Nat × Tk)) (u : Int) : List (Nat × Tk) := match X[u.toNat]? with | some x => X.set u.toNat (x.1, { x.2 with blk := false }) | none => X
def wakeAll : List (Nat × Tk) → List Int → List (Nat × Tk)
  | X, [] => X
  | X, u :: l => wakeAll (wake1 X u) l
theorem wake1_len (X : List (Nat × Tk)) (u : Int) : (wake1 X u).length = X.length := by
  unfold wake1
  split
  · rw [List.length_set]
  · rfl
theorem wakeAll_len : ∀ (l : List Int) (X : List (Nat × Tk)), (wakeAll X l).length = X.length
  | [], X => rfl
  | u :: l, X => by
    show (wakeAll (wake1 X u) l).length = _
    rw [wakeAll_len l, wake1_len]
theorem wakeAll_push : ∀ (l : List Int) (X : List (Nat × Tk)) (u : Int), wakeAll X (l ++ [u]) = wake1 (wakeAll X l) u
  | [], X, u => rfl
  | v :: l, X, u => wakeAll_push l (wake1 X v) u
/-- The tasks out of the scheduler's block. -/
theorem core_out {B : Nat} {w0 w : World} {Q : SP} {b bm i : Nat} {X : List (Nat × Tk)} {x : Nat × Tk} (h : Holds B w0 w (star (coreP b X bm) Q)) (hQ : Stable Q) (hx : X[i]? = some x) :
    ∃ CR : SP, Stable CR ∧ Holds B w0 w (star (taskP x.1 x.2) (star CR Q)) ∧ ∀ (w' : World) (T : Tk) (Q' : SP), Holds B w0 w' (star (taskP x.1 T) (star CR Q')) → Holds B w0 w' (star (coreP b (X.set i (x.1, T)) bm) Q') := by
  obtain ⟨A, A1, A2, c, c1, c2, R, hR, h3, back⟩ := core_task h hQ hx
  refine ⟨star (blkP b 139 #[.slice A X.length c, .map (some bm)]) (star (rowP 140 1 (.slice A X.length c) X.length (ptrs X)) R), (blkP_stable _ _ _).star ((rowP_stable _ _ _ _ _).star hR), (task_close h3).perm (by ac_rfl), fun w' T Q' h => back w' T Q' (h.perm (by ac_rfl))⟩
theorem do_enter (s : OS) (args : Array Value) (w : World) : (callFunc (fnOf s.kd) args).run Try.prog w = .ok (.enter (fnOf s.kd) args) w := by
  cases s
  · show (callFunc 134 args).run Try.prog w = .ok (.enter 134 args) w; kernel_rfl
  · show (callFunc 135 args).run Try.prog w = .ok (.enter 135 args) w; kernel_rfl
  · show (callFunc 136 args).run Try.prog w = .ok (.enter 136 args) w; kernel_rfl
  · show (callFunc 137 args).run Try.prog w = .ok (.enter 137 args) w; kernel_rfl
section
variable {B : Nat} {w0 w : World} {Q : SP} {b bm : Nat} {X : List (Nat × Tk)} {O : List Ob}
/-- What a step of an object makes: O1 are the objects behind find, o the one meant. -/
def StepM (B : Nat) (w0 : World) (b : Nat) (X : List (Nat × Tk)) (bm : Nat) (O : List Ob) (kd : Int) (i : Nat) (t : Nat × Tk) (x : Op3) (Q : SP) (e : Ending) (w' : World) : Prop :=
  ∃ (O1 : List Ob) (j : Nat) (o : Ob), O1[j]? = some o ∧ o.key = (kd, x.obj) ∧ (∀ (j' : Nat) (o' : Ob), j' < j → O1[j']? = some o' → o'.key ≠ (kd, x.obj)) ∧ (O1 = O ∨ (O1 = O ++ [o] ∧ o.st = fresh kd ∧ ∀ o ∈ O, o.key ≠ (kd, x.obj))) ∧
    e = .returned (.tuple #[.agg (evCs i t.2.at_ (doS o.st x i t.2.next).er), .int .i64 0]) ∧
    Holds B w0 w' (star (schP b (wakeAll (X.set i (t.1, { (doS o.st x i t.2.next).tk with blk := (doS o.st x i t.2.next).wait && (doS o.st x i t.2.next).er == 0 })) (doS o.st x i t.2.next).wk) bm (O1.set j { o with st := (doS o.st x i t.2.next).st })) Q)
theorem step_obj (h : Holds B w0 w (star (schP b X bm O) Q)) (hQ : Stable Q) (hl : X.length ≤ 1000000) (i : Nat) (t : Nat × Tk) (ht : X[i]? = some t) (hr : t.2.ready = true) (x : Op3) (hx : t.2.ops[t.2.at_]? = some x) (hk9 : x.k ≠ 9) (kd : Int) (hk : kindO x.k x.n = some kd) (hat : t.2.ops.length ≤ 1000000) (hru : t.2.runs.length ≤ 1000000)
    (hd0 : -9223372036854775808 ≤ x.n) (hd1 : x.n ≤ 9223372036854775807) (k0 : Nat) (hk0 : k0 ≤ 500000) (hOK : ∀ o ∈ O, o.st.ok k0 X.length) :
    Calls Try.prog 62 #[.pointer (some ⟨b, 0, none⟩), .int .i64 i] w (StepM B w0 b X bm O kd i t x Q) := by
  have hu := Try.underlying139
  have hu2 := Try.underlying143
  have hu3 := Try.underlying103
  have hu4 := Try.underlying97
  have il := (List.getElem?_eq_some_iff.1 ht).1
  have HQ := Lib.hid hQ
  have S0 := Lib.hid (show Stable (star (schP b X bm O) Q) from schP_stable.star hQ)
  have h1 := h.newBlk S0.out 103 #[.int .i64 0, .int .i64 0, .int .i64 0]
  have SR := Lib.hid (show Stable (star (mapP bm (obM O)) (star (obsP O) (star (blkP w.heap.size 103 #[.int .i64 0, .int .i64 0, .int .i64 0]) Q))) from (mapP_stable _ _).star ((obsP_stable _).star ((blkP_stable _ _ _).star hQ)))
  have h2 : Holds B w0 (w.alloc (.cells #[.int .i64 0, .int .i64 0, .int .i64 0] 103)) (star (coreP b X bm) (star (mapP bm (obM O)) (star (obsP O) (star (blkP w.heap.size 103 #[.int .i64 0, .int .i64 0, .int .i64 0]) Q)))) := h1.perm (by unfold schP; ac_rfl)
  obtain ⟨A0, c0, TT⟩ := core_tasks h2 hl
  obtain ⟨ad, t', rfl, ht', hca, B1, B2, b1, b2, hbx⟩ := TT.at_ il
  obtain rfl : t' = t := by rw [ht] at ht'; injection ht' with e; exact e.symm
  have y0 := TT.blk.cell 0
  have RD := Lib.hid (ready90 _ t'.1 t'.2 B1 B2 b1 b2 hbx)
  rw [hr] at RD
  have H2 := Lib.hid h2
  have TK := Lib.hid TT
  have HT := Lib.hid ht
  have HR := Lib.hid hr
  have HX := Lib.hid hx
  have d9 : (x.k == 9) = false := by simp [hk9]
  have HKK := Lib.hid hk
  have HOK := Lib.hid hOK
  have HIL := Lib.hid il
  have HHAT := Lib.hid hat
  have HLX := Lib.hid hl
  have HRU := Lib.hid hru
  have HD0 := Lib.hid hd0
  have HD1 := Lib.hid hd1
  have HK0 := Lib.hid hk0
  clear h h1 h2 hQ ht ht' hr hx hk hk9 hbx TT hat hOK hru hd0 hd1 hk0
  go_enter Try.func62, Try.ntmps62
  go_wp2_with fail
  refine RD.out.mono ?_
  rintro e w1 ⟨rfl, hk1⟩
  have K1 := Lib.hid hk1
  have H3 := Lib.hid (H2.out.kept ((coreP_stable _ _ _).star SR.out) hk1)
  have y1 := hk1.cell y0 (fun h => h)
  have ca1 := hk1.cell hca (fun h => h)
  clear hk1 y0 hca
  obtain ⟨A9, A1, A2, c9, c1, c2, R, hR, h3, back⟩ := core_task H3.out SR.out HT.out
  have BK := Lib.hid back
  have RDY := HR.out
  unfold Tk.ready at RDY
  simp only [Bool.and_eq_true, Bool.not_eq_true', decide_eq_true_eq] at RDY
  have g3 : Holds B w0 w1 (star (orow t'.2 A1 c1) (star (blkP t'.1 143 (t'.2.cs A1 A2 c1 c2)) (star (nrow t'.2 A2 c2) (star (blkP b 139 #[.slice A9 X.length c9, .map (some bm)]) (star (rowP 140 1 (.slice A9 X.length c9) X.length (ptrs X)) (star R (star (mapP bm (obM O)) (star (obsP O) (star (blkP w.heap.size 103 #[.int .i64 0, .int .i64 0, .int .i64 0]) Q))))))))) := h3.perm (by ac_rfl)
  obtain ⟨ad2, x', rfl, hx', o0, o1, o2⟩ := op_at g3.row.src RDY.2
  obtain rfl : x' = x := by rw [HX.out] at hx'; injection hx' with e; exact e.symm
  have BT := blk_at' h3
  have t0 := BT.cell 0
  have t1 := BT.cell 1
  have SSTT := Lib.hid (show Stable (star (orow t'.2 (some ad2) c1) (star (nrow t'.2 A2 c2) (star (blkP b 139 #[.slice A9 X.length c9, .map (some bm)]) (star (rowP 140 1 (.slice A9 X.length c9) X.length (ptrs X)) (star R (star (mapP bm (obM O)) (star (obsP O) (star (blkP w.heap.size 103 #[.int .i64 0, .int .i64 0, .int .i64 0]) Q)))))))) from (rowP_stable _ _ _ _ _).star ((rowP_stable _ _ _ _ _).star ((blkP_stable _ _ _).star ((rowP_stable _ _ _ _ _).star (hR.star SR.out)))))
  go_wp2_with fail
  have h4 := h3.newBlk ((blkP_stable _ _ _).star SSTT.out) 97 x'.cs
  have h5 := h4.newBlk ((blkP_stable _ _ _).star ((blkP_stable _ _ _).star SSTT.out)) 103 (evCs i t'.2.at_ 0)
  rw [size_alloc] at h5
  have h6 : Holds B w0 ((w1.alloc (.cells x'.cs 97)).alloc (.cells (evCs i t'.2.at_ 0) 103)) (star (blkP t'.1 143 (t'.2.cs (some ad2) A2 c1 c2)) (star (blkP (w1.heap.size + 1) 103 (evCs i t'.2.at_ 0)) (star (blkP w1.heap.size 97 x'.cs) (star (orow t'.2 (some ad2) c1) (star (nrow t'.2 A2 c2) (star (blkP b 139 #[.slice A9 X.length c9, .map (some bm)]) (star (rowP 140 1 (.slice A9 X.length c9) X.length (ptrs X)) (star R (star (mapP bm (obM O)) (star (obsP O) (star (blkP w.heap.size 103 #[.int .i64 0, .int .i64 0, .int .i64 0]) Q))))))))))) := h5.perm (by ac_rfl)
  have S6 := Lib.hid (show Stable (star (blkP (w1.heap.size + 1) 103 (evCs i t'.2.at_ 0)) (star (blkP w1.heap.size 97 x'.cs) (star (orow t'.2 (some ad2) c1) (star (nrow t'.2 A2 c2) (star (blkP b 139 #[.slice A9 X.length c9, .map (some bm)]) (star (rowP 140 1 (.slice A9 X.length c9) X.length (ptrs X)) (star R (star (mapP bm (obM O)) (star (obsP O) (star (blkP w.heap.size 103 #[.int .i64 0, .int .i64 0, .int .i64 0]) Q)))))))))) from (blkP_stable _ _ _).star ((blkP_stable _ _ _).star SSTT.out))
  have B5 := (BT.alloc (.cells x'.cs 97))
  have v1 := B5.cell 1
  have B6 := blk_at' h6
  have s1 := B6.cell 1
  have f1 := B6.free 1
  have h7 := h6.setBlk S6.out 1 (.int .i64 ((t'.2.at_ : Int) + 1))
  have hw1 : IntKind.i64.wrap ((t'.2.at_ : Int) + 1) = (t'.2.at_ : Int) + 1 := by rw [IntKind.wrap_i64]; have := HHAT.out; omega
  have z2 : Holds B w0 (((w1.alloc (.cells x'.cs 97)).alloc (.cells (evCs i t'.2.at_ 0) 103)).setCell ⟨t'.1, 1, none⟩ (.int .i64 ((t'.2.at_ : Int) + 1))) (star (blkP t'.1 143 (t'.2.next.cs (some ad2) A2 c1 c2)) (star (orow t'.2.next (some ad2) c1) (star (nrow t'.2.next A2 c2) (star (blkP b 139 #[.slice A9 X.length c9, .map (some bm)]) (star (rowP 140 1 (.slice A9 X.length c9) X.length (ptrs X)) (star R (star (mapP bm (obM O)) (star (obsP O) (star (blkP (w1.heap.size + 1) 103 (evCs i t'.2.at_ 0)) (star (blkP w1.heap.size 97 x'.cs) (star (blkP w.heap.size 103 #[.int .i64 0, .int .i64 0, .int .i64 0]) Q))))))))))) := h7.perm (by
    show star (blkP t'.1 143 (t'.2.next.cs (some ad2) A2 c1 c2)) _ = star _ (star (orow t'.2 (some ad2) c1) (star (nrow t'.2 A2 c2) _))
    ac_rfl)
  have z3 := BK.out _ t'.2.next (star (mapP bm (obM O)) (star (obsP O) (star (blkP (w1.heap.size + 1) 103 (evCs i t'.2.at_ 0)) (star (blkP w1.heap.size 97 x'.cs) (star (blkP w.heap.size 103 #[.int .i64 0, .int .i64 0, .int .i64 0]) Q))))) (task_close z2)
  have z4 : Holds B w0 (((w1.alloc (.cells x'.cs 97)).alloc (.cells (evCs i t'.2.at_ 0) 103)).setCell ⟨t'.1, 1, none⟩ (.int .i64 ((t'.2.at_ : Int) + 1))) (star (schP b (X.set i (t'.1, t'.2.next)) bm O) (star (blkP (w1.heap.size + 1) 103 (evCs i t'.2.at_ 0)) (star (blkP w1.heap.size 97 x'.cs) (star (blkP w.heap.size 103 #[.int .i64 0, .int .i64 0, .int .i64 0]) Q)))) := z3.perm (by unfold schP; ac_rfl)
  have ST := Lib.hid (show Stable (star (blkP (w1.heap.size + 1) 103 (evCs i t'.2.at_ 0)) (star (blkP w1.heap.size 97 x'.cs) (star (blkP w.heap.size 103 #[.int .i64 0, .int .i64 0, .int .i64 0]) Q))) from (blkP_stable _ _ _).star ((blkP_stable _ _ _).star ((blkP_stable _ _ _).star HQ.out)))
  have z5 : Holds B w0 (((w1.alloc (.cells x'.cs 97)).alloc (.cells (evCs i t'.2.at_ 0) 103)).setCell ⟨t'.1, 1, none⟩ (.int .i64 ((t'.2.at_ : Int) + 1))) (star (blkP w1.heap.size 97 x'.cs) (star (schP b (X.set i (t'.1, t'.2.next)) bm O) (star (blkP (w1.heap.size + 1) 103 (evCs i t'.2.at_ 0)) (star (blkP w.heap.size 103 #[.int .i64 0, .int .i64 0, .int .i64 0]) Q)))) := z4.perm (by ac_rfl)
  have XO := blk_at' z5
  have k0' := XO.cell 0
  have k1 := XO.cell 1
  have k2 := XO.cell 2
  have FIND := Lib.hid (fun (X' : World) (hX : Keep Nothing (((w1.alloc (.cells x'.cs 97)).alloc (.cells (evCs i t'.2.at_ 0) 103)).setCell ⟨t'.1, 1, none⟩ (.int .i64 ((t'.2.at_ : Int) + 1))) X') => x_find (z4.kept (schP_stable.star ST.out) hX) ST.out x' kd HKK.out)
  have RB := Lib.hid (show t'.2.next.at_ ≤ t'.2.next.ops.length from RDY.2)
  have rb := RDY.2
  have tz0 := (BT.alloc (.cells #[.int .i64 0, .int .i64 0, .int .i64 0] 97)).cell 0
  have tz1 := (BT.alloc (.cells #[.int .i64 0, .int .i64 0, .int .i64 0] 97)).cell 1
  obtain ⟨oz0, oz1, oz2⟩ := OpAt.keep (x := x') ⟨o0, o1, o2⟩ ((Keep.same Nothing w1).alloc (.cells #[.int .i64 0, .int .i64 0, .int .i64 0] 97)) (fun h => h)
  clear h3 h4 h5 h6 h7 g3 BT B5 B6 XO hx' back hR RDY y1 ca1 z2 z3 z4 z5
  go_region
  all_goals
    go_wp2_with fail
    refine (FIND.out _ (by repeat (first | with_reducible (exact Keep.same _ _) | with_reducible (apply Keep.drew) | with_reducible (apply Keep.alloc)))).mono ?_
    rintro e w7 ⟨O1, j, o, rfl, ho, hon, hfst, hrel, h7⟩
    obtain ⟨R2, hR2, g1, back2⟩ := sch_ob h7 ST.out ho
    have BK2 := Lib.hid back2
    have HO := Lib.hid ho
    have HON := Lib.hid hon
    have HFS := Lib.hid hfst
    have HRL := Lib.hid hrel
    have hoK : o.st.ok k0 X.length := by
      rcases hrel with rfl | ⟨_, h3, _⟩
      · exact HOK.out o (List.mem_of_getElem? ho)
      · rw [h3]; exact fresh_ok _ _ _
    have hkd : o.st.kd = kd := (Prod.mk.inj hon).1
    have SD := Lib.hid (show Stable (star R2 (star (coreP b (X.set i (t'.1, t'.2.next)) bm) (star (mapP bm (obM O1)) (star (blkP (w1.heap.size + 1) 103 (evCs i t'.2.at_ 0)) (star (blkP w1.heap.size 97 x'.cs) (star (blkP w.heap.size 103 #[.int .i64 0, .int .i64 0, .int .i64 0]) Q)))))) from hR2.star ((coreP_stable _ _ _).star ((mapP_stable _ _).star ST.out)))
    have g2 : Holds B w0 w7 (star (blkP w1.heap.size 97 x'.cs) (star o.P (star R2 (star (coreP b (X.set i (t'.1, t'.2.next)) bm) (star (mapP bm (obM O1)) (star (blkP (w1.heap.size + 1) 103 (evCs i t'.2.at_ 0)) (star (blkP w.heap.size 103 #[.int .i64 0, .int .i64 0, .int .i64 0]) Q))))))) := g1.perm (by ac_rfl)
    have XO7 := blk_at' g2
    have m0 := XO7.cell 0
    have m1 := XO7.cell 1
    have m2 := XO7.cell 2
    have g4 : Holds B w0 w7 (star (coreP b (X.set i (t'.1, t'.2.next)) bm) (star o.P (star R2 (star (mapP bm (obM O1)) (star (blkP (w1.heap.size + 1) 103 (evCs i t'.2.at_ 0)) (star (blkP w1.heap.size 97 x'.cs) (star (blkP w.heap.size 103 #[.int .i64 0, .int .i64 0, .int .i64 0]) Q))))))) := g1.perm (by ac_rfl)
    obtain ⟨CR, hCR, g5, back4⟩ := core_out g4 (o.P_stable.star (hR2.star ((mapP_stable _ _).star ST.out))) (show (X.set i (t'.1, t'.2.next))[i]? = some (t'.1, t'.2.next) by rw [List.getElem?_set]; simp [HIL.out])
    have g6 : Holds B w0 w7 (star (OS.P o.g o.st) (star (taskP t'.1 t'.2.next) (star CR (star R2 (star (mapP bm (obM O1)) (star (blkP (w1.heap.size + 1) 103 (evCs i t'.2.at_ 0)) (star (blkP w1.heap.size 97 x'.cs) (star (blkP w.heap.size 103 #[.int .i64 0, .int .i64 0, .int .i64 0]) Q)))))))) := g5.perm (by
      show star _ (star _ (star (OS.P o.g o.st) _)) = _
      ac_rfl)
    have BK4 := Lib.hid back4
    have do0 := x_do (id := i) (x := x') g6 (hCR.star (hR2.star ((mapP_stable _ _).star ST.out))) hoK HK0.out ⟨HHAT.out, RB.out, HRU.out⟩ (by rw [hkd]; exact HKK.out) HD0.out HD1.out
    obtain ⟨hok1, hw0, hl0⟩ := doS_ok (x := x') (T := t'.2.next) hoK (show 0 ≤ (i : Int) ∧ (i : Int) < X.length by have := HIL.out; omega)
    have hs0 := doS_kd o.st x' i t'.2.next
    have hmth := fun v w => do_method o.st v w
    have hcf := fun a w => do_enter o.st a w
    rw [hkd] at hmth do0 hcf
    have HVV := Lib.hid (show o.v = .iface (tyOf kd) (.agg #[.pointer (some ⟨o.g, 0, none⟩)]) by unfold Ob.v; rw [hkd])
    rw [HVV.out]
    obtain ⟨wt, wk, er, st', tk', hd⟩ : ∃ wt wk er st' tk', doS o.st x' i t'.2.next = ⟨wt, wk, er, st', tk'⟩ := ⟨_, _, _, _, _, rfl⟩
    rw [hd] at do0 hw0 hs0 hl0
    dsimp only at do0 hw0 hs0 hl0
    have HWL := Lib.hid (show wk.length ≤ 1000000 by have := HK0.out; omega)
    have DO := Lib.hid do0
    have HW := Lib.hid hw0
    have HSM := Lib.hid hs0
    have HD := Lib.hid hd
    generalize tyOf kd = ty at *
    generalize fnOf kd = fn at *
    clear do0 hw0 hs0 hd hl0 hok1 hoK hkd
    clear ho hon hfst hrel h7 g1 g2 g4 g5 g6 XO7 back2 back4 k0' k1 k2
    go_wp2_with fail
    refine DO.out.mono ?_
    rintro e w8 ⟨A8, c8, rfl, h8a⟩
    obtain ⟨o', ho'⟩ : ∃ o' : Ob, o' = { o with st := st' } := ⟨_, rfl⟩
    have HOO := Lib.hid ho'
    have h8b := BK4.out w8 tk' (star (rowP 3 1 (.slice A8 wk.length c8) wk.length (ints wk)) (star (OS.P o.g st') (star R2 (star (mapP bm (obM O1)) (star (blkP (w1.heap.size + 1) 103 (evCs i t'.2.at_ 0)) (star (blkP w1.heap.size 97 x'.cs) (star (blkP w.heap.size 103 #[.int .i64 0, .int .i64 0, .int .i64 0]) Q))))))) (h8a.perm (by ac_rfl))
    rw [List.set_set] at h8b
    have h8 : Holds B w0 w8 (star (rowP 3 1 (.slice A8 wk.length c8) wk.length (ints wk)) (star o'.P (star R2 (star (coreP b (X.set i (t'.1, tk')) bm) (star (mapP bm (obM O1)) (star (blkP (w1.heap.size + 1) 103 (evCs i t'.2.at_ 0)) (star (blkP w1.heap.size 97 x'.cs) (star (blkP w.heap.size 103 #[.int .i64 0, .int .i64 0, .int .i64 0]) Q)))))))) := h8b.perm (by
      rw [ho']
      show _ = star _ (star (OS.P o.g st') _)
      ac_rfl)
    have SD := Lib.hid (show Stable (star R2 (star (coreP b (X.set i (t'.1, tk')) bm) (star (mapP bm (obM O1)) (star (blkP (w1.heap.size + 1) 103 (evCs i t'.2.at_ 0)) (star (blkP w1.heap.size 97 x'.cs) (star (blkP w.heap.size 103 #[.int .i64 0, .int .i64 0, .int .i64 0]) Q)))))) from hR2.star ((coreP_stable _ _ _).star ((mapP_stable _ _).star ST.out)))
    clear h8a h8b ho'
    have S8 := Lib.hid (show Stable (star (rowP 3 1 (.slice A8 wk.length c8) wk.length (ints wk)) (star o'.P (star R2 (star (coreP b (X.set i (t'.1, tk')) bm) (star (mapP bm (obM O1)) (star (blkP (w1.heap.size + 1) 103 (evCs i t'.2.at_ 0)) (star (blkP w1.heap.size 97 x'.cs) (star (blkP w.heap.size 103 #[.int .i64 0, .int .i64 0, .int .i64 0]) Q)))))))) from (rowP_stable _ _ _ _ _).star (o'.P_stable.star SD.out))
    have h9 := h8.newBlk S8.out 150 #[.bool wt, .slice A8 wk.length c8, .int .i64 er]
    have B9 := blk_at' h9
    have y0 := B9.cell 0
    have y1 := B9.cell 1
    have y2 := B9.cell 2
    have h10 : Holds B w0 (w8.alloc (.cells #[.bool wt, .slice A8 wk.length c8, .int .i64 er] 150)) (star (blkP (w1.heap.size + 1) 103 (evCs i t'.2.at_ 0)) (star (blkP w8.heap.size 150 #[.bool wt, .slice A8 wk.length c8, .int .i64 er]) (star (rowP 3 1 (.slice A8 wk.length c8) wk.length (ints wk)) (star o'.P (star R2 (star (coreP b (X.set i (t'.1, tk')) bm) (star (mapP bm (obM O1)) (star (blkP w1.heap.size 97 x'.cs) (star (blkP w.heap.size 103 #[.int .i64 0, .int .i64 0, .int .i64 0]) Q))))))))) := h9.perm (by ac_rfl)
    have S10 := Lib.hid (show Stable (star (blkP w8.heap.size 150 #[.bool wt, .slice A8 wk.length c8, .int .i64 er]) (star (rowP 3 1 (.slice A8 wk.length c8) wk.length (ints wk)) (star o'.P (star R2 (star (coreP b (X.set i (t'.1, tk')) bm) (star (mapP bm (obM O1)) (star (blkP w1.heap.size 97 x'.cs) (star (blkP w.heap.size 103 #[.int .i64 0, .int .i64 0, .int .i64 0]) Q)))))))) from (blkP_stable _ _ _).star ((rowP_stable _ _ _ _ _).star (o'.P_stable.star (hR2.star ((coreP_stable _ _ _).star ((mapP_stable _ _).star ((blkP_stable _ _ _).star ((blkP_stable _ _ _).star HQ.out))))))))
    have B10 := blk_at' h10
    have e2 := B10.cell 2
    have n2 := B10.free 2
    have h11 := h10.setBlk S10.out 2 (.int .i64 er)
    have h11a : Holds B w0 ((w8.alloc (.cells #[.bool wt, .slice A8 wk.length c8, .int .i64 er] 150)).setCell ⟨w1.heap.size + 1, 2, none⟩ (.int .i64 er)) (star (blkP w8.heap.size 150 #[.bool wt, .slice A8 wk.length c8, .int .i64 er]) (star (blkP (w1.heap.size + 1) 103 (evCs i t'.2.at_ er)) (star (rowP 3 1 (.slice A8 wk.length c8) wk.length (ints wk)) (star o'.P (star R2 (star (coreP b (X.set i (t'.1, tk')) bm) (star (mapP bm (obM O1)) (star (blkP w1.heap.size 97 x'.cs) (star (blkP w.heap.size 103 #[.int .i64 0, .int .i64 0, .int .i64 0]) Q))))))))) := h11.perm (by
      show star (blkP (w1.heap.size + 1) 103 (evCs i t'.2.at_ er)) _ = _
      ac_rfl)
    have B11 := blk_at' h11a
    have u0 := B11.cell 0
    have u1 := B11.cell 1
    have u2 := B11.cell 2
    have h12 : Holds B w0 ((w8.alloc (.cells #[.bool wt, .slice A8 wk.length c8, .int .i64 er] 150)).setCell ⟨w1.heap.size + 1, 2, none⟩ (.int .i64 er)) (star (coreP b (X.set i (t'.1, tk')) bm) (star (blkP (w1.heap.size + 1) 103 (evCs i t'.2.at_ er)) (star (blkP w8.heap.size 150 #[.bool wt, .slice A8 wk.length c8, .int .i64 er]) (star (rowP 3 1 (.slice A8 wk.length c8) wk.length (ints wk)) (star o'.P (star R2 (star (mapP bm (obM O1)) (star (blkP w1.heap.size 97 x'.cs) (star (blkP w.heap.size 103 #[.int .i64 0, .int .i64 0, .int .i64 0]) Q))))))))) := h11a.perm (by ac_rfl)
    have S12 := Lib.hid (show Stable (star (blkP (w1.heap.size + 1) 103 (evCs i t'.2.at_ er)) (star (blkP w8.heap.size 150 #[.bool wt, .slice A8 wk.length c8, .int .i64 er]) (star (rowP 3 1 (.slice A8 wk.length c8) wk.length (ints wk)) (star o'.P (star R2 (star (mapP bm (obM O1)) (star (blkP w1.heap.size 97 x'.cs) (star (blkP w.heap.size 103 #[.int .i64 0, .int .i64 0, .int .i64 0]) Q)))))))) from (blkP_stable _ _ _).star ((blkP_stable _ _ _).star ((rowP_stable _ _ _ _ _).star (o'.P_stable.star (hR2.star ((mapP_stable _ _).star ((blkP_stable _ _ _).star ((blkP_stable _ _ _).star HQ.out))))))))
    obtain ⟨A3, A4, A5, c3, c4, c5, R3, hR3, h13, back3⟩ := core_task h12 S12.out (show (X.set i (t'.1, tk'))[i]? = some (t'.1, tk') by rw [List.getElem?_set]; simp [HIL.out])
    have B13 := blk_at' h13
    have w2 := B13.cell 2
    have x2 := B13.free 2
    obtain ⟨vb, hvb⟩ : ∃ vb, (wt && er == 0) = vb := ⟨_, rfl⟩
    have h14 := h13.setBlk ((rowP_stable _ _ _ _ _).star ((rowP_stable _ _ _ _ _).star ((blkP_stable _ _ _).star ((rowP_stable _ _ _ _ _).star (hR3.star S12.out))))) 2 (.bool vb)
    have h15 := back3 (((w8.alloc (.cells #[.bool wt, .slice A8 wk.length c8, .int .i64 er] 150)).setCell ⟨w1.heap.size + 1, 2, none⟩ (.int .i64 er)).setCell ⟨t'.1, 2, none⟩ (.bool vb)) { tk' with blk := vb } _ (task_close (T := { tk' with blk := vb }) h14)
    rw [List.set_set] at h15
    have h16 : Holds B w0 (((w8.alloc (.cells #[.bool wt, .slice A8 wk.length c8, .int .i64 er] 150)).setCell ⟨w1.heap.size + 1, 2, none⟩ (.int .i64 er)).setCell ⟨t'.1, 2, none⟩ (.bool vb)) (star (blkP w8.heap.size 150 #[.bool wt, .slice A8 wk.length c8, .int .i64 er]) (star (coreP b (X.set i (t'.1, { tk' with blk := vb })) bm) (star (blkP (w1.heap.size + 1) 103 (evCs i t'.2.at_ er)) (star (rowP 3 1 (.slice A8 wk.length c8) wk.length (ints wk)) (star o'.P (star R2 (star (mapP bm (obM O1)) (star (blkP w1.heap.size 97 x'.cs) (star (blkP w.heap.size 103 #[.int .i64 0, .int .i64 0, .int .i64 0]) Q))))))))) := h15.perm (by ac_rfl)
    have B16 := blk_at' h16
    have m16 := B16.cell 1
    obtain ⟨X2, hX2⟩ : ∃ X2, X.set i (t'.1, { tk' with blk := vb }) = X2 := ⟨_, rfl⟩
    obtain ⟨TL, hTL⟩ : ∃ TL : SP, star o'.P (star R2 (star (mapP bm (obM O1)) (star (blkP w1.heap.size 97 x'.cs) (star (blkP w8.heap.size 150 #[.bool wt, .slice A8 wk.length c8, .int .i64 er]) Q)))) = TL := ⟨_, rfl⟩
    have STL := Lib.hid (show Stable TL by rw [← hTL]; exact o'.P_stable.star (hR2.star ((mapP_stable _ _).star ((blkP_stable _ _ _).star ((blkP_stable _ _ _).star HQ.out)))))
    have H17 := Lib.hid (show Holds B w0 (((w8.alloc (.cells #[.bool wt, .slice A8 wk.length c8, .int .i64 er] 150)).setCell ⟨w1.heap.size + 1, 2, none⟩ (.int .i64 er)).setCell ⟨t'.1, 2, none⟩ (.bool vb)) (star (coreP b X2 bm) (star (blkP (w1.heap.size + 1) 103 (evCs i t'.2.at_ er)) (star (rowP 3 1 (.slice A8 wk.length c8) wk.length (ints wk)) (star (blkP w.heap.size 103 #[.int .i64 0, .int .i64 0, .int .i64 0]) TL)))) by
      rw [← hX2, ← hTL]
      exact h16.perm (by ac_rfl))
    have HX2 := Lib.hid hX2
    have HTL := Lib.hid hTL
    have HX2L := Lib.hid (show X2.length = X.length by rw [← hX2, List.length_set])
    have HR2 := Lib.hid hR2
    have HVB := Lib.hid hvb
    have hcase : (wt = false ∧ vb = false) ∨ (wt = true ∧ er = 0 ∧ vb = true) ∨ (wt = true ∧ er ≠ 0 ∧ vb = false) := by
      rw [← hvb]
      cases wt with
      | false => exact .inl ⟨rfl, rfl⟩
      | true =>
        by_cases he : er = 0
        · exact .inr (.inl ⟨rfl, he, by simp [he]⟩)
        · exact .inr (.inr ⟨rfl, he, by simp [he]⟩)
    clear h8 h9 h10 h11 h11a h12 h13 h14 h15 h16 B9 B10 B11 B13 B16 back3 hR3 hR2 hvb hX2 hTL
    rcases hcase with ⟨rfl, rfl⟩ | ⟨rfl, he, rfl⟩ | ⟨rfl, he, rfl⟩
    all_goals
      first | (have de : (er == 0) = true := by simp [he]) | (have de : (er == 0) = false := by simp [he]) | skip
      try clear he
      go_wp2_with fail
      clear y0 y1 y2 e2 n2 u0 u1 u2 w2 x2 m16 m0 m1 m2 tz0 tz1 oz0 oz1 oz2 o0 o1 o2 t0 t1 v1 s1 f1
      go_loopw [102] (fun v wr => ∃ j' : Nat, j' ≤ wk.length ∧ v = .int .i64 j' ∧ Holds B w0 wr (star (coreP b (wakeAll X2 (wk.take j')) bm) (star (blkP (w1.heap.size + 1) 103 (evCs i t'.2.at_ er)) (star (rowP 3 1 (.slice A8 wk.length c8) wk.length (ints wk)) (star (blkP w.heap.size 103 #[.int .i64 0, .int .i64 0, .int .i64 0]) TL))))) (fun v _ => wk.length - (intOf v).toNat)
      case atStart => exact ⟨0, by omega, by simp, by rw [List.take_zero]; exact H17.out.kept ((coreP_stable _ _ _).star ((blkP_stable _ _ _).star ((rowP_stable _ _ _ _ _).star ((blkP_stable _ _ _).star STL.out)))) (by repeat (first | with_reducible (exact Keep.same _ _) | with_reducible (apply Keep.drew) | with_reducible (apply Keep.alloc)))⟩
      case round =>
        obtain ⟨j', hj', rfl, hh⟩ := hrel
        have SW := Lib.hid (show Stable (star (blkP (w1.heap.size + 1) 103 (evCs i t'.2.at_ er)) (star (rowP 3 1 (.slice A8 wk.length c8) wk.length (ints wk)) (star (blkP w.heap.size 103 #[.int .i64 0, .int .i64 0, .int .i64 0]) TL))) from (blkP_stable _ _ _).star ((rowP_stable _ _ _ _ _).star ((blkP_stable _ _ _).star STL.out)))
        have HJ := Lib.hid hh
        have HJL := Lib.hid (show (wakeAll X2 (wk.take j')).length = X.length by rw [wakeAll_len, HX2L.out])
        by_cases hlt : j' < wk.length
        · have HLT := Lib.hid hlt
          have hrow : Holds B w0 wr (star (rowP 3 1 (.slice A8 wk.length c8) wk.length (ints wk)) (star (coreP b (wakeAll X2 (wk.take j')) bm) (star (blkP (w1.heap.size + 1) 103 (evCs i t'.2.at_ er)) (star (blkP w.heap.size 103 #[.int .i64 0, .int .i64 0, .int .i64 0]) TL)))) := hh.perm (by ac_rfl)
          obtain ⟨ad6, u, rfl, hu6, hc6⟩ := i_at hrow.row.src hlt
          have hub := HW.out u (List.mem_of_getElem? hu6)
          obtain ⟨n, rfl⟩ : ∃ n : Nat, u = (n : Int) := ⟨u.toNat, by omega⟩
          obtain ⟨A7, c7, TT7⟩ := core_tasks hh (by rw [HJL.out]; exact hl)
          obtain ⟨ad7, t7, rfl, ht7, hc7, _⟩ := TT7.at_ (show n < (wakeAll X2 (wk.take j')).length by rw [HJL.out]; omega)
          have z0 := TT7.blk.cell 0
          obtain ⟨A3, A4, A5, c3, c4, c5, R3, hR3, h17, back7⟩ := core_task hh SW.out ht7
          have B17 := blk_at' h17
          have z2 := B17.cell 2
          have zf := B17.free 2
          have h18 := h17.setBlk ((rowP_stable _ _ _ _ _).star ((rowP_stable _ _ _ _ _).star ((blkP_stable _ _ _).star ((rowP_stable _ _ _ _ _).star (hR3.star SW.out))))) 2 (.bool false)
          have h19 := Lib.hid (back7 _ { t7.2 with blk := false } _ (task_close (T := { t7.2 with blk := false }) h18))
          have HWK1 := Lib.hid (show wakeAll X2 (wk.take (j' + 1)) = (wakeAll X2 (wk.take j')).set n (t7.1, { t7.2 with blk := false }) by
            rw [List.take_add_one, hu6]
            show wakeAll X2 (wk.take j' ++ [(n : Int)]) = _
            rw [wakeAll_push]
            unfold wake1
            rw [show ((n : Int)).toNat = n by simp, ht7])
          have hnl : n < (wakeAll X2 (wk.take j')).length := by rw [HJL.out]; omega
          have hxl := HJL.out
          have hwl := HWL.out
          clear hh hrow hu6 hub TT7 ht7 B17 h17 h18 back7 hR3
          go_wp2_with fail
          go_roundw
          case rel => exact ⟨j' + 1, by have := HLT.out; omega, by go_num, by rw [HWK1.out]; exact h19.out⟩
          case measure => have := HLT.out; simp [intOf]; omega
        · obtain rfl : j' = wk.length := by omega
          have hE : Holds B w0 wr (star (blkP (w1.heap.size + 1) 103 (evCs i t'.2.at_ er)) (star (coreP b (wakeAll X2 (wk.take wk.length)) bm) (star (rowP 3 1 (.slice A8 wk.length c8) wk.length (ints wk)) (star (blkP w.heap.size 103 #[.int .i64 0, .int .i64 0, .int .i64 0]) TL)))) := hh.perm (by ac_rfl)
          have BE := blk_at' hE
          have e0 := BE.cell 0
          have e1 := BE.cell 1
          have e2 := BE.cell 2
          have hRS : Holds B w0 wr (star (blkP w.heap.size 103 #[.int .i64 0, .int .i64 0, .int .i64 0]) (star (coreP b (wakeAll X2 (wk.take wk.length)) bm) (star (blkP (w1.heap.size + 1) 103 (evCs i t'.2.at_ er)) (star (rowP 3 1 (.slice A8 wk.length c8) wk.length (ints wk)) TL)))) := hh.perm (by ac_rfl)
          have SR9 : Stable (star (coreP b (wakeAll X2 (wk.take wk.length)) bm) (star (blkP (w1.heap.size + 1) 103 (evCs i t'.2.at_ er)) (star (rowP 3 1 (.slice A8 wk.length c8) wk.length (ints wk)) TL))) := (coreP_stable _ _ _).star ((blkP_stable _ _ _).star ((rowP_stable _ _ _ _ _).star STL.out))
          obtain ⟨a0, n0, a1, n1, a2, n2, q0, q1, q2, p0, p1⟩ := store3 (blk_at' hRS) (.int .i64 (i : Int)) (.int .i64 (t'.2.at_ : Int)) (.int .i64 er)
          have H20 := Lib.hid (held3 hRS SR9 (.int .i64 (i : Int)) (.int .i64 (t'.2.at_ : Int)) (.int .i64 er))
          clear hh hE hRS SR9 BE
          go_wp2_with fail
          refine bodyPost_ret (v := .tuple #[.agg (evCs i t'.2.at_ er), .int .i64 0]) (by simp [results, Try.results62, go_sem, hu3, q0, q1, q2]) rfl ?_
          refine ⟨O1, j, o, HO.out, HON.out, HFS.out, HRL.out, by rw [HD.out], ?_⟩
          rw [HD.out]
          show Holds B w0 _ (star (schP b (wakeAll (X.set i (t'.1, { tk' with blk := _ })) wk) bm (O1.set j { o with st := st' })) Q)
          rw [← HOO.out]
          rw [HVB.out, HX2.out]
          have k1 := H20.out.drop
          have k2 : Holds B w0 _ (star (blkP (w1.heap.size + 1) 103 (evCs i t'.2.at_ er)) (star (rowP 3 1 (.slice A8 wk.length c8) wk.length (ints wk)) (star (coreP b (wakeAll X2 (wk.take wk.length)) bm) TL))) := k1.perm (by ac_rfl)
          have k3 := k2.drop.drop
          rw [List.take_length, ← HTL.out] at k3
          first
            | exact BK2.out _ o' (wakeAll X2 wk) Q (by rw [HOO.out]) (by rw [HOO.out]) (by rw [HOO.out]; exact HSM.out) (Holds.drop (Holds.drop (show Holds B w0 _ (star (blkP w1.heap.size 97 x'.cs) (star (blkP w8.heap.size 150 #[.bool true, .slice A8 wk.length c8, .int .i64 er]) (star o'.P (star R2 (star (coreP b (wakeAll X2 wk) bm) (star (mapP bm (obM O1)) Q)))))) from k3.perm (by ac_rfl))))
            | exact BK2.out _ o' (wakeAll X2 wk) Q (by rw [HOO.out]) (by rw [HOO.out]) (by rw [HOO.out]; exact HSM.out) (Holds.drop (Holds.drop (show Holds B w0 _ (star (blkP w1.heap.size 97 x'.cs) (star (blkP w8.heap.size 150 #[.bool false, .slice A8 wk.length c8, .int .i64 er]) (star o'.P (star R2 (star (coreP b (wakeAll X2 wk) bm) (star (mapP bm (obM O1)) Q)))))) from k3.perm (by ac_rfl))))
theorem step_bad (h : Holds B w0 w (star (schP b X bm O) Q)) (hQ : Stable Q) (hl : X.length ≤ 1000000) (i : Nat) (t : Nat × Tk) (ht : X[i]? = some t) (hr : t.2.ready = true) (x : Op3) (hx : t.2.ops[t.2.at_]? = some x) (hk9 : x.k ≠ 9) (hk : kindO x.k x.n = none) (hat : t.2.ops.length ≤ 1000000) :
    Calls Try.prog 62 #[.pointer (some ⟨b, 0, none⟩), .int .i64 i] w (StepOk B w0 i t.2.at_ 1 (star (schP b (X.set i (t.1, t.2.next)) bm O) Q)) := by
  have hu := Try.underlying139
  have hu2 := Try.underlying143
  have hu3 := Try.underlying103
  have hu4 := Try.underlying97
  have il := (List.getElem?_eq_some_iff.1 ht).1
  have HQ := Lib.hid hQ
  have S0 := Lib.hid (show Stable (star (schP b X bm O) Q) from schP_stable.star hQ)
  have h1 := h.newBlk S0.out 103 #[.int .i64 0, .int .i64 0, .int .i64 0]
  have SR := Lib.hid (show Stable (star (mapP bm (obM O)) (star (obsP O) (star (blkP w.heap.size 103 #[.int .i64 0, .int .i64 0, .int .i64 0]) Q))) from (mapP_stable _ _).star ((obsP_stable _).star ((blkP_stable _ _ _).star hQ)))
  have h2 : Holds B w0 (w.alloc (.cells #[.int .i64 0, .int .i64 0, .int .i64 0] 103)) (star (coreP b X bm) (star (mapP bm (obM O)) (star (obsP O) (star (blkP w.heap.size 103 #[.int .i64 0, .int .i64 0, .int .i64 0]) Q)))) := h1.perm (by unfold schP; ac_rfl)
  obtain ⟨A0, c0, TT⟩ := core_tasks h2 hl
  obtain ⟨ad, t', rfl, ht', hca, B1, B2, b1, b2, hbx⟩ := TT.at_ il
  obtain rfl : t' = t := by rw [ht] at ht'; injection ht' with e; exact e.symm
  have y0 := TT.blk.cell 0
  have RD := Lib.hid (ready90 _ t'.1 t'.2 B1 B2 b1 b2 hbx)
  rw [hr] at RD
  have H2 := Lib.hid h2
  have TK := Lib.hid TT
  have HT := Lib.hid ht
  have HR := Lib.hid hr
  have HX := Lib.hid hx
  have d9 : (x.k == 9) = false := by simp [hk9]
  have HKK := Lib.hid hk
  have HIL := Lib.hid il
  have HHAT := Lib.hid hat
  have HLX := Lib.hid hl
  clear h h1 h2 hQ ht ht' hr hx hk hk9 hbx TT hat
  go_enter Try.func62, Try.ntmps62
  go_wp2_with fail
  refine RD.out.mono ?_
  rintro e w1 ⟨rfl, hk1⟩
  have K1 := Lib.hid hk1
  have H3 := Lib.hid (H2.out.kept ((coreP_stable _ _ _).star SR.out) hk1)
  have y1 := hk1.cell y0 (fun h => h)
  have ca1 := hk1.cell hca (fun h => h)
  clear hk1 y0 hca
  obtain ⟨A9, A1, A2, c9, c1, c2, R, hR, h3, back⟩ := core_task H3.out SR.out HT.out
  have BK := Lib.hid back
  have RDY := HR.out
  unfold Tk.ready at RDY
  simp only [Bool.and_eq_true, Bool.not_eq_true', decide_eq_true_eq] at RDY
  have g3 : Holds B w0 w1 (star (orow t'.2 A1 c1) (star (blkP t'.1 143 (t'.2.cs A1 A2 c1 c2)) (star (nrow t'.2 A2 c2) (star (blkP b 139 #[.slice A9 X.length c9, .map (some bm)]) (star (rowP 140 1 (.slice A9 X.length c9) X.length (ptrs X)) (star R (star (mapP bm (obM O)) (star (obsP O) (star (blkP w.heap.size 103 #[.int .i64 0, .int .i64 0, .int .i64 0]) Q))))))))) := h3.perm (by ac_rfl)
  obtain ⟨ad2, x', rfl, hx', o0, o1, o2⟩ := op_at g3.row.src RDY.2
  obtain rfl : x' = x := by rw [HX.out] at hx'; injection hx' with e; exact e.symm
  have BT := blk_at' h3
  have t0 := BT.cell 0
  have t1 := BT.cell 1
  have SSTT := Lib.hid (show Stable (star (orow t'.2 (some ad2) c1) (star (nrow t'.2 A2 c2) (star (blkP b 139 #[.slice A9 X.length c9, .map (some bm)]) (star (rowP 140 1 (.slice A9 X.length c9) X.length (ptrs X)) (star R (star (mapP bm (obM O)) (star (obsP O) (star (blkP w.heap.size 103 #[.int .i64 0, .int .i64 0, .int .i64 0]) Q)))))))) from (rowP_stable _ _ _ _ _).star ((rowP_stable _ _ _ _ _).star ((blkP_stable _ _ _).star ((rowP_stable _ _ _ _ _).star (hR.star SR.out)))))
  go_wp2_with fail
  have h4 := h3.newBlk ((blkP_stable _ _ _).star SSTT.out) 97 x'.cs
  have h5 := h4.newBlk ((blkP_stable _ _ _).star ((blkP_stable _ _ _).star SSTT.out)) 103 (evCs i t'.2.at_ 0)
  rw [size_alloc] at h5
  have h6 : Holds B w0 ((w1.alloc (.cells x'.cs 97)).alloc (.cells (evCs i t'.2.at_ 0) 103)) (star (blkP t'.1 143 (t'.2.cs (some ad2) A2 c1 c2)) (star (blkP (w1.heap.size + 1) 103 (evCs i t'.2.at_ 0)) (star (blkP w1.heap.size 97 x'.cs) (star (orow t'.2 (some ad2) c1) (star (nrow t'.2 A2 c2) (star (blkP b 139 #[.slice A9 X.length c9, .map (some bm)]) (star (rowP 140 1 (.slice A9 X.length c9) X.length (ptrs X)) (star R (star (mapP bm (obM O)) (star (obsP O) (star (blkP w.heap.size 103 #[.int .i64 0, .int .i64 0, .int .i64 0]) Q))))))))))) := h5.perm (by ac_rfl)
  have S6 := Lib.hid (show Stable (star (blkP (w1.heap.size + 1) 103 (evCs i t'.2.at_ 0)) (star (blkP w1.heap.size 97 x'.cs) (star (orow t'.2 (some ad2) c1) (star (nrow t'.2 A2 c2) (star (blkP b 139 #[.slice A9 X.length c9, .map (some bm)]) (star (rowP 140 1 (.slice A9 X.length c9) X.length (ptrs X)) (star R (star (mapP bm (obM O)) (star (obsP O) (star (blkP w.heap.size 103 #[.int .i64 0, .int .i64 0, .int .i64 0]) Q)))))))))) from (blkP_stable _ _ _).star ((blkP_stable _ _ _).star SSTT.out))
  have B5 := (BT.alloc (.cells x'.cs 97))
  have v1 := B5.cell 1
  have B6 := blk_at' h6
  have s1 := B6.cell 1
  have f1 := B6.free 1
  have h7 := h6.setBlk S6.out 1 (.int .i64 ((t'.2.at_ : Int) + 1))
  have hw1 : IntKind.i64.wrap ((t'.2.at_ : Int) + 1) = (t'.2.at_ : Int) + 1 := by rw [IntKind.wrap_i64]; have := HHAT.out; omega
  have z2 : Holds B w0 (((w1.alloc (.cells x'.cs 97)).alloc (.cells (evCs i t'.2.at_ 0) 103)).setCell ⟨t'.1, 1, none⟩ (.int .i64 ((t'.2.at_ : Int) + 1))) (star (blkP t'.1 143 (t'.2.next.cs (some ad2) A2 c1 c2)) (star (orow t'.2.next (some ad2) c1) (star (nrow t'.2.next A2 c2) (star (blkP b 139 #[.slice A9 X.length c9, .map (some bm)]) (star (rowP 140 1 (.slice A9 X.length c9) X.length (ptrs X)) (star R (star (mapP bm (obM O)) (star (obsP O) (star (blkP (w1.heap.size + 1) 103 (evCs i t'.2.at_ 0)) (star (blkP w1.heap.size 97 x'.cs) (star (blkP w.heap.size 103 #[.int .i64 0, .int .i64 0, .int .i64 0]) Q))))))))))) := h7.perm (by
    show star (blkP t'.1 143 (t'.2.next.cs (some ad2) A2 c1 c2)) _ = star _ (star (orow t'.2 (some ad2) c1) (star (nrow t'.2 A2 c2) _))
    ac_rfl)
  have z3 := BK.out _ t'.2.next (star (mapP bm (obM O)) (star (obsP O) (star (blkP (w1.heap.size + 1) 103 (evCs i t'.2.at_ 0)) (star (blkP w1.heap.size 97 x'.cs) (star (blkP w.heap.size 103 #[.int .i64 0, .int .i64 0, .int .i64 0]) Q))))) (task_close z2)
  have z4 : Holds B w0 (((w1.alloc (.cells x'.cs 97)).alloc (.cells (evCs i t'.2.at_ 0) 103)).setCell ⟨t'.1, 1, none⟩ (.int .i64 ((t'.2.at_ : Int) + 1))) (star (schP b (X.set i (t'.1, t'.2.next)) bm O) (star (blkP (w1.heap.size + 1) 103 (evCs i t'.2.at_ 0)) (star (blkP w1.heap.size 97 x'.cs) (star (blkP w.heap.size 103 #[.int .i64 0, .int .i64 0, .int .i64 0]) Q)))) := z3.perm (by unfold schP; ac_rfl)
  have ST := Lib.hid (show Stable (star (blkP (w1.heap.size + 1) 103 (evCs i t'.2.at_ 0)) (star (blkP w1.heap.size 97 x'.cs) (star (blkP w.heap.size 103 #[.int .i64 0, .int .i64 0, .int .i64 0]) Q))) from (blkP_stable _ _ _).star ((blkP_stable _ _ _).star ((blkP_stable _ _ _).star HQ.out)))
  have z5 : Holds B w0 (((w1.alloc (.cells x'.cs 97)).alloc (.cells (evCs i t'.2.at_ 0) 103)).setCell ⟨t'.1, 1, none⟩ (.int .i64 ((t'.2.at_ : Int) + 1))) (star (blkP w1.heap.size 97 x'.cs) (star (schP b (X.set i (t'.1, t'.2.next)) bm O) (star (blkP (w1.heap.size + 1) 103 (evCs i t'.2.at_ 0)) (star (blkP w.heap.size 103 #[.int .i64 0, .int .i64 0, .int .i64 0]) Q)))) := z4.perm (by ac_rfl)
  have XO := blk_at' z5
  have k0 := XO.cell 0
  have k1 := XO.cell 1
  have k2 := XO.cell 2
  have FIND := Lib.hid (fun (X' : World) => find_nil X' b x' HKK.out)
  have Z4 := Lib.hid z4
  have rb := RDY.2
  have tz0 := (BT.alloc (.cells #[.int .i64 0, .int .i64 0, .int .i64 0] 97)).cell 0
  have tz1 := (BT.alloc (.cells #[.int .i64 0, .int .i64 0, .int .i64 0] 97)).cell 1
  obtain ⟨oz0, oz1, oz2⟩ := OpAt.keep (x := x') ⟨o0, o1, o2⟩ ((Keep.same Nothing w1).alloc (.cells #[.int .i64 0, .int .i64 0, .int .i64 0] 97)) (fun h => h)
  clear h3 h4 h5 h6 h7 g3 BT B5 B6 XO hx' back hR RDY y1 ca1 z2 z3 z4 z5
  go_region
  all_goals
    go_wp2_with fail
    refine (FIND.out _).mono ?_
    rintro e w7 ⟨rfl, hk7⟩
    have h7 := Z4.out.kept (schP_stable.star ST.out) (Keep.then (by repeat (first | with_reducible (exact Keep.same _ _) | with_reducible (apply Keep.drew) | with_reducible (apply Keep.alloc))) hk7)
    have h8 : Holds B w0 w7 (star (blkP (w1.heap.size + 1) 103 (evCs i t'.2.at_ 0)) (star (blkP w1.heap.size 97 x'.cs) (star (schP b (X.set i (t'.1, t'.2.next)) bm O) (star (blkP w.heap.size 103 #[.int .i64 0, .int .i64 0, .int .i64 0]) Q)))) := h7.perm (by ac_rfl)
    have S8 : Stable (star (blkP w1.heap.size 97 x'.cs) (star (schP b (X.set i (t'.1, t'.2.next)) bm O) (star (blkP w.heap.size 103 #[.int .i64 0, .int .i64 0, .int .i64 0]) Q))) := (blkP_stable _ _ _).star (schP_stable.star ((blkP_stable _ _ _).star HQ.out))
    have B8 := blk_at' h8
    have e2 := B8.cell 2
    have n2 := B8.free 2
    have h9 := h8.setBlk S8 2 (.int .i64 1)
    have h10 : Holds B w0 (w7.setCell ⟨w1.heap.size + 1, 2, none⟩ (.int .i64 1)) (star (blkP w.heap.size 103 #[.int .i64 0, .int .i64 0, .int .i64 0]) (star (blkP (w1.heap.size + 1) 103 (evCs i t'.2.at_ 1)) (star (blkP w1.heap.size 97 x'.cs) (star (schP b (X.set i (t'.1, t'.2.next)) bm O) Q)))) := h9.perm (by
      show star (blkP (w1.heap.size + 1) 103 (evCs i t'.2.at_ 1)) _ = _
      ac_rfl)
    have S10 : Stable (star (blkP (w1.heap.size + 1) 103 (evCs i t'.2.at_ 1)) (star (blkP w1.heap.size 97 x'.cs) (star (schP b (X.set i (t'.1, t'.2.next)) bm O) Q))) := (blkP_stable _ _ _).star ((blkP_stable _ _ _).star (schP_stable.star HQ.out))
    have h11 : Holds B w0 (w7.setCell ⟨w1.heap.size + 1, 2, none⟩ (.int .i64 1)) (star (blkP (w1.heap.size + 1) 103 (evCs i t'.2.at_ 1)) (star (blkP w.heap.size 103 #[.int .i64 0, .int .i64 0, .int .i64 0]) (star (blkP w1.heap.size 97 x'.cs) (star (schP b (X.set i (t'.1, t'.2.next)) bm O) Q)))) := h10.perm (by ac_rfl)
    have B11 := blk_at' h11
    have u0 := B11.cell 0
    have u1 := B11.cell 1
    have u2 := B11.cell 2
    obtain ⟨a0, n0, a1, n1, a2, n2', q0, q1, q2, p0, p1⟩ := store3 (blk_at' h10) (.int .i64 (i : Int)) (.int .i64 (t'.2.at_ : Int)) (.int .i64 1)
    have H9 := Lib.hid (held3 h10 S10 (.int .i64 (i : Int)) (.int .i64 (t'.2.at_ : Int)) (.int .i64 1))
    clear h7 h8 S8 B8 h9 h10 S10 h11 B11 hk7
    go_wp2_with fail
    refine bodyPost_ret (v := .tuple #[.agg (evCs i t'.2.at_ 1), .int .i64 0]) (by simp [results, Try.results62, go_sem, hu3, q0, q1, q2]) rfl ?_
    exact ⟨rfl, H9.out.drop.drop.drop⟩
end
end Go.Proofs.Ytmohpjkbhpgidaa.A
