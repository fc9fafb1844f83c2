/-
  The scheduler: Step (of mutexes and yields). Printed by gen_yh.py.
-/
import Derived.Test.YtmohpjkbhpgidaaYG
namespace Go.Proofs.Ytmohpjkbhpgidaa.A
open Go.RowKit Go.Proofs.Ytmohpjkbhpgidaa.U
set_option linter.unusedVariables false
set_option linter.unusedSimpArgs false
set_option maxRecDepth 100000
set_option maxHeartbeats 1600000

theorem ptrs_set {X : List (Nat × Tk)} {i : Nat} {x : Nat × Tk} (h : X[i]? = some x) (T : Tk) : ptrs (X.set i (x.1, T)) = ptrs X := by
  unfold ptrs
  apply List.ext_getElem?
  intro j
  rw [List.getElem?_map, List.getElem?_map, List.getElem?_set]
  by_cases hj : i = j
  · subst hj
    have hl := (List.getElem?_eq_some_iff.1 h).1
    rw [if_pos rfl, if_pos hl, h]; rfl
  · rw [if_neg hj]
/-- A task taken out of the scheduler, and put back otherwise. -/
theorem core_task {B : Nat} {w0 w : World} {Q : SP} {b bm i : Nat} {X : List (Nat × Tk)} {x : Nat × Tk} (h : Holds B w0 w (star (coreP b X bm) Q)) (hQ : Stable Q) (hx : X[i]? = some x) :
    ∃ (A A1 A2 : Option Addr) (c c1 c2 : Nat) (R : SP), Stable R ∧
      Holds B w0 w (star (blkP x.1 143 (x.2.cs A1 A2 c1 c2)) (star (orow x.2 A1 c1) (star (nrow x.2 A2 c2) (star (blkP b 139 #[.slice A X.length c, .map (some bm)]) (star (rowP 140 1 (.slice A X.length c) X.length (ptrs X)) (star R Q)))))) ∧
      ∀ (w' : World) (T : Tk) (Q' : SP), Holds B w0 w' (star (taskP x.1 T) (star (blkP b 139 #[.slice A X.length c, .map (some bm)]) (star (rowP 140 1 (.slice A X.length c) X.length (ptrs X)) (star R Q')))) → Holds B w0 w' (star (coreP b (X.set i (x.1, T)) bm) Q') := by
  obtain ⟨A, c, h1⟩ := core_open h
  obtain ⟨R, hR, e1, e2⟩ := allP_take X i x hx
  rw [e1] at h1
  have h2 : Holds B w0 w (star (taskP x.1 x.2) (star (blkP b 139 #[.slice A X.length c, .map (some bm)]) (star (rowP 140 1 (.slice A X.length c) X.length (ptrs X)) (star R Q)))) := h1.perm (by ac_rfl)
  obtain ⟨A1, A2, c1, c2, h3⟩ := task_open h2
  refine ⟨A, A1, A2, c, c1, c2, R, hR, h3, fun w' T Q' h4 => ?_⟩
  refine core_close (A := A) (c := c) ?_
  rw [List.length_set, ptrs_set hx, e2]
  exact h4.perm (by ac_rfl)
def Tk.next (T : Tk) : Tk := { T with at_ := T.at_ + 1 }
abbrev evCs (id : Int) (at_ : Nat) (e : Int) : Array Value := #[.int .i64 id, .int .i64 at_, .int .i64 e]
section
variable {B : Nat} {w0 w : World} {Q : SP} {b bm : Nat} {X : List (Nat × Tk)} {O : List Ob}
/-- A step of a task that is none, or not ready. -/
def StepNo (B : Nat) (w0 : World) (P : SP) (e : Ending) (w' : World) : Prop := e = .returned (.tuple #[.agg #[.int .i64 0, .int .i64 0, .int .i64 0], .int .i64 1]) ∧ Holds B w0 w' P
def StepOk (B : Nat) (w0 : World) (id : Int) (at_ : Nat) (er : Int) (P : SP) (e : Ending) (w' : World) : Prop := e = .returned (.tuple #[.agg (evCs id at_ er), .int .i64 0]) ∧ Holds B w0 w' P
theorem step_yield (h : Holds B w0 w (star (schP b X bm O) Q)) (hQ : Stable Q) (hl : X.length ≤ 1000000) (i : Nat) (t : Nat × Tk) (ht : X[i]? = some t) (hr : t.2.ready = true) (x : Op3) (hx : t.2.ops[t.2.at_]? = some x) (hk : x.k = 9) (hat : t.2.ops.length ≤ 1000000) :
    Calls Try.prog 62 #[.pointer (some ⟨b, 0, none⟩), .int .i64 i] w (StepOk B w0 i t.2.at_ 0 (star (schP b (X.set i (t.1, t.2.next)) bm O) Q)) := by
  have hu := Try.underlying139
  have hu2 := Try.underlying143
  have hu3 := Try.underlying103
  have hu4 := Try.underlying97
  have il := (List.getElem?_eq_some_iff.1 ht).1
  have HQ := Lib.hid hQ
  have S0 := Lib.hid (show Stable (star (schP b X bm O) Q) from schP_stable.star hQ)
  have h1 := h.newBlk S0.out 103 #[.int .i64 0, .int .i64 0, .int .i64 0]
  have SR := Lib.hid (show Stable (star (mapP bm (obM O)) (star (obsP O) (star (blkP w.heap.size 103 #[.int .i64 0, .int .i64 0, .int .i64 0]) Q))) from (mapP_stable _ _).star ((obsP_stable _).star ((blkP_stable _ _ _).star hQ)))
  have h2 : Holds B w0 (w.alloc (.cells #[.int .i64 0, .int .i64 0, .int .i64 0] 103)) (star (coreP b X bm) (star (mapP bm (obM O)) (star (obsP O) (star (blkP w.heap.size 103 #[.int .i64 0, .int .i64 0, .int .i64 0]) Q)))) := h1.perm (by unfold schP; ac_rfl)
  obtain ⟨A0, c0, TT⟩ := core_tasks h2 hl
  obtain ⟨ad, t', rfl, ht', hca, B1, B2, b1, b2, hbx⟩ := TT.at_ il
  obtain rfl : t' = t := by rw [ht] at ht'; injection ht' with e; exact e.symm
  have y0 := TT.blk.cell 0
  have RD := Lib.hid (ready90 _ t'.1 t'.2 B1 B2 b1 b2 hbx)
  rw [hr] at RD
  have H2 := Lib.hid h2
  have TK := Lib.hid TT
  have HT := Lib.hid ht
  have HR := Lib.hid hr
  have HX := Lib.hid hx
  have d9 : (x.k == 9) = true := by simp [hk]
  have HHAT := Lib.hid hat
  have HLX := Lib.hid hl
  clear h h1 h2 hQ ht ht' hr hx hk hbx TT hat
  go_enter Try.func62, Try.ntmps62
  go_wp2_with fail
  refine RD.out.mono ?_
  rintro e w1 ⟨rfl, hk1⟩
  have K1 := Lib.hid hk1
  have H3 := Lib.hid (H2.out.kept ((coreP_stable _ _ _).star SR.out) hk1)
  have y1 := hk1.cell y0 (fun h => h)
  have ca1 := hk1.cell hca (fun h => h)
  clear hk1 y0 hca
  obtain ⟨A9, A1, A2, c9, c1, c2, R, hR, h3, back⟩ := core_task H3.out SR.out HT.out
  have BK := Lib.hid back
  have RDY := HR.out
  unfold Tk.ready at RDY
  simp only [Bool.and_eq_true, Bool.not_eq_true', decide_eq_true_eq] at RDY
  have g3 : Holds B w0 w1 (star (orow t'.2 A1 c1) (star (blkP t'.1 143 (t'.2.cs A1 A2 c1 c2)) (star (nrow t'.2 A2 c2) (star (blkP b 139 #[.slice A9 X.length c9, .map (some bm)]) (star (rowP 140 1 (.slice A9 X.length c9) X.length (ptrs X)) (star R (star (mapP bm (obM O)) (star (obsP O) (star (blkP w.heap.size 103 #[.int .i64 0, .int .i64 0, .int .i64 0]) Q))))))))) := h3.perm (by ac_rfl)
  obtain ⟨ad2, x', rfl, hx', o0, o1, o2⟩ := op_at g3.row.src RDY.2
  obtain rfl : x' = x := by rw [HX.out] at hx'; injection hx' with e; exact e.symm
  have BT := blk_at' h3
  have t0 := BT.cell 0
  have t1 := BT.cell 1
  have SREST := Lib.hid (show Stable (star (orow t'.2 (some ad2) c1) (star (nrow t'.2 A2 c2) (star (blkP b 139 #[.slice A9 X.length c9, .map (some bm)]) (star (rowP 140 1 (.slice A9 X.length c9) X.length (ptrs X)) (star R (star (mapP bm (obM O)) (star (obsP O) (star (blkP w.heap.size 103 #[.int .i64 0, .int .i64 0, .int .i64 0]) Q)))))))) from (rowP_stable _ _ _ _ _).star ((rowP_stable _ _ _ _ _).star ((blkP_stable _ _ _).star ((rowP_stable _ _ _ _ _).star (hR.star SR.out)))))
  go_wp2_with fail
  have h4 := h3.newBlk ((blkP_stable _ _ _).star SREST.out) 97 x'.cs
  have h5 := h4.newBlk ((blkP_stable _ _ _).star ((blkP_stable _ _ _).star SREST.out)) 103 (evCs i t'.2.at_ 0)
  rw [size_alloc] at h5
  have h6 : Holds B w0 ((w1.alloc (.cells x'.cs 97)).alloc (.cells (evCs i t'.2.at_ 0) 103)) (star (blkP t'.1 143 (t'.2.cs (some ad2) A2 c1 c2)) (star (blkP (w1.heap.size + 1) 103 (evCs i t'.2.at_ 0)) (star (blkP w1.heap.size 97 x'.cs) (star (orow t'.2 (some ad2) c1) (star (nrow t'.2 A2 c2) (star (blkP b 139 #[.slice A9 X.length c9, .map (some bm)]) (star (rowP 140 1 (.slice A9 X.length c9) X.length (ptrs X)) (star R (star (mapP bm (obM O)) (star (obsP O) (star (blkP w.heap.size 103 #[.int .i64 0, .int .i64 0, .int .i64 0]) Q))))))))))) := h5.perm (by ac_rfl)
  have S6 := Lib.hid (show Stable (star (blkP (w1.heap.size + 1) 103 (evCs i t'.2.at_ 0)) (star (blkP w1.heap.size 97 x'.cs) (star (orow t'.2 (some ad2) c1) (star (nrow t'.2 A2 c2) (star (blkP b 139 #[.slice A9 X.length c9, .map (some bm)]) (star (rowP 140 1 (.slice A9 X.length c9) X.length (ptrs X)) (star R (star (mapP bm (obM O)) (star (obsP O) (star (blkP w.heap.size 103 #[.int .i64 0, .int .i64 0, .int .i64 0]) Q)))))))))) from (blkP_stable _ _ _).star ((blkP_stable _ _ _).star SREST.out))
  have B5 := (BT.alloc (.cells x'.cs 97))
  have v1 := B5.cell 1
  have B6 := blk_at' h6
  have s1 := B6.cell 1
  have f1 := B6.free 1
  have h7 := h6.setBlk S6.out 1 (.int .i64 ((t'.2.at_ : Int) + 1))
  have hw1 : IntKind.i64.wrap ((t'.2.at_ : Int) + 1) = (t'.2.at_ : Int) + 1 := by rw [IntKind.wrap_i64]; have := HHAT.out; omega
  have h8 : Holds B w0 (((w1.alloc (.cells x'.cs 97)).alloc (.cells (evCs i t'.2.at_ 0) 103)).setCell ⟨t'.1, 1, none⟩ (.int .i64 ((t'.2.at_ : Int) + 1))) (star (blkP w.heap.size 103 #[.int .i64 0, .int .i64 0, .int .i64 0]) (star (blkP t'.1 143 (t'.2.next.cs (some ad2) A2 c1 c2)) (star (blkP (w1.heap.size + 1) 103 (evCs i t'.2.at_ 0)) (star (blkP w1.heap.size 97 x'.cs) (star (orow t'.2 (some ad2) c1) (star (nrow t'.2 A2 c2) (star (blkP b 139 #[.slice A9 X.length c9, .map (some bm)]) (star (rowP 140 1 (.slice A9 X.length c9) X.length (ptrs X)) (star R (star (mapP bm (obM O)) (star (obsP O) Q))))))))))) := h7.perm (by
    show star (blkP t'.1 143 (t'.2.next.cs (some ad2) A2 c1 c2)) _ = _
    ac_rfl)
  have S8 : Stable (star (blkP t'.1 143 (t'.2.next.cs (some ad2) A2 c1 c2)) (star (blkP (w1.heap.size + 1) 103 (evCs i t'.2.at_ 0)) (star (blkP w1.heap.size 97 x'.cs) (star (orow t'.2 (some ad2) c1) (star (nrow t'.2 A2 c2) (star (blkP b 139 #[.slice A9 X.length c9, .map (some bm)]) (star (rowP 140 1 (.slice A9 X.length c9) X.length (ptrs X)) (star R (star (mapP bm (obM O)) (star (obsP O) Q)))))))))) := (blkP_stable _ _ _).star ((blkP_stable _ _ _).star ((blkP_stable _ _ _).star ((rowP_stable _ _ _ _ _).star ((rowP_stable _ _ _ _ _).star ((blkP_stable _ _ _).star ((rowP_stable _ _ _ _ _).star (hR.star ((mapP_stable _ _).star ((obsP_stable _).star HQ.out)))))))))
  have XO := blk_at' (show Holds B w0 _ (star (blkP w1.heap.size 97 x'.cs) _) from (h8.perm (show _ = star (blkP w1.heap.size 97 x'.cs) (star (blkP w.heap.size 103 #[.int .i64 0, .int .i64 0, .int .i64 0]) (star (blkP t'.1 143 (t'.2.next.cs (some ad2) A2 c1 c2)) (star (blkP (w1.heap.size + 1) 103 (evCs i t'.2.at_ 0)) (star (orow t'.2 (some ad2) c1) (star (nrow t'.2 A2 c2) (star (blkP b 139 #[.slice A9 X.length c9, .map (some bm)]) (star (rowP 140 1 (.slice A9 X.length c9) X.length (ptrs X)) (star R (star (mapP bm (obM O)) (star (obsP O) Q)))))))))) by ac_rfl)))
  have XE := blk_at' (show Holds B w0 _ (star (blkP (w1.heap.size + 1) 103 (evCs i t'.2.at_ 0)) _) from (h8.perm (show _ = star (blkP (w1.heap.size + 1) 103 (evCs i t'.2.at_ 0)) (star (blkP w.heap.size 103 #[.int .i64 0, .int .i64 0, .int .i64 0]) (star (blkP t'.1 143 (t'.2.next.cs (some ad2) A2 c1 c2)) (star (blkP w1.heap.size 97 x'.cs) (star (orow t'.2 (some ad2) c1) (star (nrow t'.2 A2 c2) (star (blkP b 139 #[.slice A9 X.length c9, .map (some bm)]) (star (rowP 140 1 (.slice A9 X.length c9) X.length (ptrs X)) (star R (star (mapP bm (obM O)) (star (obsP O) Q)))))))))) by ac_rfl)))
  have k0 := XO.cell 0
  have e0 := XE.cell 0
  have e1 := XE.cell 1
  have e2 := XE.cell 2
  obtain ⟨a0, n0, a1, n1, a2, n2, q0, q1, q2, p0, p1⟩ := store3 (blk_at' h8) (.int .i64 (i : Int)) (.int .i64 (t'.2.at_ : Int)) (.int .i64 0)
  have H9 := Lib.hid (held3 h8 S8 (.int .i64 (i : Int)) (.int .i64 (t'.2.at_ : Int)) (.int .i64 0))
  have HR9 := Lib.hid hR
  have RB := Lib.hid RDY.2
  have rb := RDY.2
  have tz0 := (BT.alloc (.cells #[.int .i64 0, .int .i64 0, .int .i64 0] 97)).cell 0
  have tz1 := (BT.alloc (.cells #[.int .i64 0, .int .i64 0, .int .i64 0] 97)).cell 1
  obtain ⟨oz0, oz1, oz2⟩ := OpAt.keep (x := x') ⟨o0, o1, o2⟩ ((Keep.same Nothing w1).alloc (.cells #[.int .i64 0, .int .i64 0, .int .i64 0] 97)) (fun h => h)
  clear h3 h4 h5 h6 h7 h8 S8 g3 BT B5 B6 XO XE hx' back hR RDY y1 ca1
  go_region
  all_goals
    go_wp2_with fail
    refine bodyPost_ret (v := .tuple #[.agg (evCs i t'.2.at_ 0), .int .i64 0]) (by simp [results, Try.results62, go_sem, hu3, q0, q1, q2]) rfl ?_
    refine ⟨rfl, ?_⟩
    have z1 := H9.out.drop
    have z2 : Holds B w0 _ (star (blkP (w1.heap.size + 1) 103 (evCs i t'.2.at_ 0)) (star (blkP w1.heap.size 97 x'.cs) (star (blkP t'.1 143 (t'.2.next.cs (some ad2) A2 c1 c2)) (star (orow t'.2.next (some ad2) c1) (star (nrow t'.2.next A2 c2) (star (blkP b 139 #[.slice A9 X.length c9, .map (some bm)]) (star (rowP 140 1 (.slice A9 X.length c9) X.length (ptrs X)) (star R (star (mapP bm (obM O)) (star (obsP O) Q)))))))))) := z1.perm (by
      show _ = star _ (star _ (star _ (star (orow t'.2 (some ad2) c1) (star (nrow t'.2 A2 c2) _))))
      ac_rfl)
    have z3 := BK.out _ t'.2.next (star (mapP bm (obM O)) (star (obsP O) Q)) (task_close z2.drop.drop)
    have z4 : Holds B w0 _ (star (schP b (X.set i (t'.1, t'.2.next)) bm O) Q) := z3.perm (by unfold schP; ac_rfl)
    exact z4.kept (schP_stable.star HQ.out) (by repeat (first | with_reducible (exact Keep.same _ _) | with_reducible (apply Keep.drew) | with_reducible (apply Keep.alloc)))
end
theorem step_none (w : World) (id : Int) : Calls Try.prog 62 #[.pointer none, .int .i64 id] w (fun e w' => e = .returned (.tuple #[.agg #[.int .i64 0, .int .i64 0, .int .i64 0], .int .i64 1]) ∧ Keep Nothing w w') := by
  have hu3 := Try.underlying103
  have Z := Blk.fresh w 103 #[.int .i64 0, .int .i64 0, .int .i64 0]
  obtain ⟨a0, n0, a1, n1, a2, n2, q0, q1, q2, p0, p1⟩ := store3 Z (.int .i64 0) (.int .i64 0) (.int .i64 0)
  clear Z
  go_enter Try.func62, Try.ntmps62
  go_wp2_with fail
  refine bodyPost_ret (v := .tuple #[.agg #[.int .i64 0, .int .i64 0, .int .i64 0], .int .i64 1]) (by simp [results, Try.results62, go_sem, hu3, q0, q1, q2]) rfl ?_
  exact ⟨rfl, by repeat (first | with_reducible (exact Keep.same _ _) | with_reducible (apply Keep.drew) | with_reducible (apply Keep.alloc) | refine Keep.set ?_ (.inr (Nat.le_refl _)) _)⟩
theorem ready61n (w : World) : Calls Try.prog 61 #[.pointer none] w (fun e w' => e = .returned (.slice none 0 0) ∧ Keep Nothing w w') := by
  have H := Lib.hid (show Calls Try.prog 89 #[.pointer none, .func (.func 90) #[] #[]] w (fun e w' => e = .returned (.slice none 0 0) ∧ Keep Nothing w w') by
    go_enter Try.func89, Try.ntmps89
    go_wp2_with fail
    go_ret
    exact ⟨rfl, Keep.same _ _⟩)
  go_enter Try.func61, Try.ntmps61
  go_wp2_with fail
  refine H.out.mono ?_
  rintro e w1 ⟨rfl, hk⟩
  have K := Lib.hid hk
  clear hk
  go_wp2_with fail
  go_ret
  exact ⟨rfl, K.out⟩
theorem blocked67n (w : World) : Calls Try.prog 67 #[.pointer none] w (fun e w' => e = .returned (.slice none 0 0) ∧ Keep Nothing w w') := by
  have H := Lib.hid (show Calls Try.prog 89 #[.pointer none, .func (.func 98) #[] #[]] w (fun e w' => e = .returned (.slice none 0 0) ∧ Keep Nothing w w') by
    go_enter Try.func89, Try.ntmps89
    go_wp2_with fail
    go_ret
    exact ⟨rfl, Keep.same _ _⟩)
  go_enter Try.func67, Try.ntmps67
  go_wp2_with fail
  refine H.out.mono ?_
  rintro e w1 ⟨rfl, hk⟩
  have K := Lib.hid hk
  clear hk
  go_wp2_with fail
  go_ret
  exact ⟨rfl, K.out⟩
theorem ended63n (w : World) : Calls Try.prog 63 #[.pointer none] w (fun e w' => e = .returned (.bool true) ∧ Keep Nothing w w') := by
  have H := Lib.hid (show Calls Try.prog 89 #[.pointer none, .func (.func 92) #[] #[]] w (fun e w' => e = .returned (.slice none 0 0) ∧ Keep Nothing w w') by
    go_enter Try.func89, Try.ntmps89
    go_wp2_with fail
    go_ret
    exact ⟨rfl, Keep.same _ _⟩)
  go_enter Try.func63, Try.ntmps63
  go_wp2_with fail
  refine H.out.mono ?_
  rintro e w1 ⟨rfl, hk⟩
  have K := Lib.hid hk
  clear hk
  go_wp2_with fail
  go_ret
  exact ⟨rfl, K.out⟩
def readyL (X : List (Nat × Tk)) : List Int := pickL Tk.ready X X.length
def openL (X : List (Nat × Tk)) : List Int := pickL Tk.open_ X X.length
theorem ready61 (w : World) (b : Nat) (X : List (Nat × Tk)) (A : Option Addr) (c : Nat) (m : Value) (h : Tasks w b X A c m) : Calls Try.prog 61 #[.pointer (some ⟨b, 0, none⟩)] w (PickPost (readyL X) w) := by
  have H := Lib.hid (pick_ready w b X A c m h)
  clear h
  go_enter Try.func61, Try.ntmps61
  go_wp2_with fail
  refine H.out.mono ?_
  rintro e w1 ⟨A1, c1, rfl, hr, hk, hf⟩
  have R := Lib.hid hr
  have K := Lib.hid hk
  have F := Lib.hid hf
  clear hr hk hf
  go_wp2_with fail
  go_ret
  exact ⟨A1, c1, rfl, R.out, K.out, F.out⟩
theorem ended63 (w : World) (b : Nat) (X : List (Nat × Tk)) (A : Option Addr) (c : Nat) (m : Value) (h : Tasks w b X A c m) : Calls Try.prog 63 #[.pointer (some ⟨b, 0, none⟩)] w (fun e w' => e = .returned (.bool (openL X).isEmpty) ∧ Keep Nothing w w') := by
  have H := Lib.hid (pick_open w b X A c m h)
  clear h
  go_enter Try.func63, Try.ntmps63
  go_wp2_with fail
  refine H.out.mono ?_
  rintro e w1 ⟨A1, c1, rfl, hr, hk, hf⟩
  have K := Lib.hid hk
  have E := Lib.hid (show (((pickL Tk.open_ X X.length).length : Int) == 0) = (openL X).isEmpty by
    unfold openL
    cases pickL Tk.open_ X X.length with
    | nil => rfl
    | cons a l => simp; omega)
  clear hr hk hf
  go_wp2_with fail
  go_ret
  exact ⟨by first | (rw [← E.out]; rfl) | (rw [← E.out]), K.out⟩
def blkL (X : List (Nat × Tk)) : List Int := pickL Tk.blk X X.length
theorem blocked67 (w : World) (b : Nat) (X : List (Nat × Tk)) (A : Option Addr) (c : Nat) (m : Value) (h : Tasks w b X A c m) : Calls Try.prog 67 #[.pointer (some ⟨b, 0, none⟩)] w (PickPost (blkL X) w) := by
  have H := Lib.hid (pick_blk w b X A c m h)
  clear h
  go_enter Try.func67, Try.ntmps67
  go_wp2_with fail
  refine H.out.mono ?_
  rintro e w1 ⟨A1, c1, rfl, hr, hk, hf⟩
  have R := Lib.hid hr
  have K := Lib.hid hk
  have F := Lib.hid hf
  clear hr hk hf
  go_wp2_with fail
  go_ret
  exact ⟨A1, c1, rfl, R.out, K.out, F.out⟩
end Go.Proofs.Ytmohpjkbhpgidaa.A
