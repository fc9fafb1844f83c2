/-
  The acceptor: refuses, recs.add, promise, Promised.
-/
import Derived.Test.YtnbllckmeehhjaaG
namespace Go.Proofs.Ytnbllckmeehhjaa.A
open Go.RowKit Go.Proofs.Ytnbllckmeehhjaa.U
set_option linter.unusedVariables false
set_option linter.unusedSimpArgs false
set_option maxRecDepth 100000

def zeroR : Rc := ⟨0, 0, zeroE⟩
theorem EC : Elem Try.prog 30 62 9 80 zeroR.val := ⟨Try.underlying30, by kernel_rfl, by rfl, by decide⟩
/-- Records that come one by one. -/
def rcP (b : Nat) (l : List Rc) : SP := fun w F => ∃ v, Blk w b 65 #[v] ∧ Row w 62 9 v l.length (recs l) ∧ ∀ k, F k ↔ k = b ∨ v.ownBlock = some k
theorem rcP_stable (b : Nat) (l : List Rc) : Stable (rcP b l) where
  keep := fun ⟨v, hb, hr, hF⟩ hk hn => ⟨v, hb.keep hk (hn b ((hF b).2 (.inl rfl))), hr.keep hk (fun g hg => hn g ((hF g).2 (.inr hg))), hF⟩
  lt := fun ⟨v, hb, hr, hF⟩ hk => by
    rcases (hF _).1 hk with h | h
    · rw [h]; exact hb.lt
    · exact hr.lt _ h
theorem rc_push {w w1 w' : World} {b : Nat} {F : Nat → Prop} {l : List Rc} {v v' : Value} {x : Rc} (hF : ∀ k, F k ↔ k = b ∨ v.ownBlock = some k) (hk0 : Keep Nothing w w1) (hb : Blk w1 b 65 #[v]) (hr : Row w1 62 9 v l.length (recs l))
    (hr' : Row w' 62 9 v' (l.length + 1) (recs l ++ x.cl)) (hg : w1.grownBy w' v.ownBlock) (hloc : v'.ownBlock = v.ownBlock ∨ v'.ownBlock = some w1.heap.size) :
    w'.frozen? ⟨b, 0, none⟩ = false ∧ w'.cell? ⟨b, 0, none⟩ = some v ∧ Step w F (rcP b (l ++ [x])) (w'.setCell ⟨b, 0, none⟩ v') := by
  have ap := hr.apart hb (by decide)
  have hb' := hb.grown hg ap
  have hlt := hb.lt
  have hne : v'.ownBlock ≠ some b := fun e => by
    rcases hloc with h | h
    · exact ap (by rw [← h, e])
    · rw [h] at e; injection e with e; omega
  refine ⟨hb'.free 0, hb'.cell 0, fun k => k = b ∨ v'.ownBlock = some k, ⟨v', hb'.put 0 _, ?_, fun _ => Iff.rfl⟩, ?_, fun k hk => ?_⟩
  · have := hr'.far (p := ⟨b, 0, none⟩) hne v'
    rw [recs_app, recs_one1, List.length_append]
    exact this
  · exact (((hk0.wider (S' := F) (fun i h => h.elim)).grown hg (fun i hi => .inl ((hF i).2 (.inr hi)))).set (p := ⟨b, 0, none⟩) (.inl ((hF b).2 (.inl rfl))) v')
  · rcases hk with hk | hk
    · exact .inl ((hF k).2 (.inl hk))
    · rcases hloc with h | h
      · exact .inl ((hF k).2 (.inr (by rw [← h, hk])))
      · rw [h] at hk; injection hk with hk; have := hk0.size; right; omega
set_option maxHeartbeats 6400000 in
theorem add29 (w : World) (b : Nat) (F : Nat → Prop) (l : List Rc) (h : rcP b l w F) (hl : l.length ≤ 1000000) (x : Rc) :
    Calls Try.prog 29 #[.pointer (some ⟨b, 0, none⟩), x.val] w (fun e w' => unit_ e ∧ Step w F (rcP b (l ++ [x])) w') := by
  have hu := Try.underlying65
  have hu2 := Try.underlying62
  obtain ⟨v, hb, hr, hF⟩ := h
  obtain ⟨A, c, rfl, _, _⟩ := hr.form
  have FF := Lib.hid hF
  have b0 := (hb.alloc (.cells x.cs 62)).cell 0
  have b0' := ((hb.alloc (.cells x.cs 62)).alloc (.cells x.cs 62)).cell 0
  have Z := Blk.fresh w 62 x.cs
  have Z2 := Lib.hid (Z.alloc (.cells x.cs 62))
  have B2 := Lib.hid (((hb.alloc (.cells x.cs 62)).alloc (.cells x.cs 62)).drew)
  have R2 := Lib.hid (((hr.alloc (.cells x.cs 62)).alloc (.cells x.cs 62)).keep ((Keep.same Nothing _).drew) (fun _ _ h => h))
  have K2 := Lib.hid ((((Keep.same Nothing w).alloc (.cells x.cs 62)).alloc (.cells x.cs 62)).drew)
  have SS := Lib.hid (show U.Src (((w.alloc (.cells x.cs 62)).alloc (.cells x.cs 62)).drew) (some ⟨(w.alloc (.cells x.cs 62)).heap.size, 0, none⟩) 9 1 _ from U.Src.fresh (w.alloc (.cells x.cs 62)) x.cs 62 9 1 rfl)
  have y0 := Z2.out.cell 0
  have y1 := Z2.out.cell 1
  have y2 := Z2.out.cell 2
  have y3 := Z2.out.cell 3
  have y4 := Z2.out.cell 4
  have y5 := Z2.out.cell 5
  have y6 := Z2.out.cell 6
  have y7 := Z2.out.cell 7
  have y8 := Z2.out.cell 8
  have z0 := Z.cell 0
  have z1 := Z.cell 1
  have z2 := Z.cell 2
  have z3 := Z.cell 3
  have z4 := Z.cell 4
  have z5 := Z.cell 5
  have z6 := Z.cell 6
  have z7 := Z.cell 7
  have z8 := Z.cell 8
  have hb1 : l.length + 1 ≤ maxLen := by unfold maxLen; omega
  have hb2 : (l.length + 1) * 80 ≤ 140737488355328 := by omega
  clear hb hr hF Z
  unfold Rc.val
  unfold Rc.cs at *
  go_enter Try.func29, Try.ntmps29
  go_wp2_with fail
  go_region_law (first | (refine step_app _ (by rfl) EC (.tmp 8) (.tmp 10) (by rfl) R2.out SS.out 1 (by simp [Act.eval, Act.put]) (by simp [Act.eval, Act.put]) (by simp [Value.oneCell']) hb1 hb2 ?_; intro A7 c7 w' hr hg hloc; have PX := Lib.hid (rc_push FF.out K2.out B2.out R2.out hr hg (by simpa using hloc)); have hfz := PX.out.1; have f1 := PX.out.2.1; clear hr hg hloc))
  all_goals go_wp2_with fail
  all_goals go_end0
  all_goals exact ⟨rfl, PX.out.2.2⟩
section
variable {B : Nat} {w0 w : World} {Q : SP} {t b : Nat} {D : DS}
theorem d_setpr (h : Holds B w0 w (star (dP t b D) Q)) (hQ : Stable Q) (ht : 37 ≠ t) (x : Int) : Holds B w0 (w.setCell ⟨b, 0, none⟩ (.int .i64 x)) (star (dP t b ⟨x, D.ba, D.sn, D.es⟩) Q) :=
  h.did_left hQ fun F ⟨v, hb, hr, hF⟩ => dP_step (D' := ⟨x, D.ba, D.sn, D.es⟩) hF ((Keep.same _ w).set (p := ⟨b, 0, none⟩) (.inl (.inl rfl)) _) (hb.put 0 _) (hr.far (p := ⟨b, 0, none⟩) (hr.apart hb ht) _) (fun k hk => .inl hk)
theorem d_cells (h : Holds B w0 w (star (dP t b D) Q)) : ∃ A c, w.cell? ⟨b, 0, none⟩ = some (.int .i64 D.pr) ∧ w.cell? ⟨b, 1, none⟩ = some (.int .i64 D.ba) ∧ w.cell? ⟨b, 2, none⟩ = some (.string D.sn) ∧ w.cell? ⟨b, 3, none⟩ = some (.slice A D.es.length c) ∧
    (∀ i, w.frozen? ⟨b, i, none⟩ = false) ∧ Row w 37 7 (.slice A D.es.length c) D.es.length (ents D.es) ∧ D.es.length ≤ c := by
  obtain ⟨F, v, hb, hr, hF⟩ := h.left
  obtain ⟨A, c, rfl, hc, _⟩ := hr.form
  exact ⟨A, c, hb.cell 0, hb.cell 1, hb.cell 2, hb.cell 3, hb.free, hr, hc⟩
theorem x_refuses (h : Holds B w0 w (star (dP 60 b D) Q)) (x : Int) : Calls Try.prog 27 #[.pointer (some ⟨b, 0, none⟩), .int .i64 x] w (fun e w' => e = .returned (.bool (low D x)) ∧ w' = w) := by
  have hu := Try.underlying60
  have hu2 := Try.underlying24
  obtain ⟨A, c, c0, _⟩ := d_cells h
  clear h
  unfold low
  cases h1 : decide (x < 1) with
  | true =>
    go_enter Try.func27, Try.ntmps27
    go_wp2_with fail
    go_ret
    exact ⟨rfl, rfl⟩
  | false =>
    go_enter Try.func27, Try.ntmps27
    go_wp2_with fail
    go_ret
    exact ⟨rfl, rfl⟩
theorem x_promised (h : Holds B w0 w (star (dP 60 b D) Q)) : Calls Try.prog 16 #[.pointer (some ⟨b, 0, none⟩)] w (fun e w' => e = .returned (.int .i64 D.pr) ∧ w' = w) := by
  have hu := Try.underlying60
  have hu2 := Try.underlying24
  obtain ⟨A, c, c0, _⟩ := d_cells h
  clear h
  go_enter Try.func16, Try.ntmps16
  go_wp2_with fail
  go_ret
  exact ⟨rfl, rfl⟩
theorem x_add {rb : Nat} {l : List Rc} (h : Holds B w0 w (star (rcP rb l) Q)) (hQ : Stable Q) (hl : l.length ≤ 1000000) (x : Rc) :
    Calls Try.prog 29 #[.pointer (some ⟨rb, 0, none⟩), x.val] w (fun e w' => unit_ e ∧ Holds B w0 w' (star (rcP rb (l ++ [x])) Q)) :=
  h.on_left hQ (post := unit_) fun F hm => add29 w rb F l hm hl x
/-- What is promised behind it. -/
def prD (D : DS) (x : Int) : DS := ⟨if D.pr < x then x else D.pr, D.ba, D.sn, D.es⟩
theorem x_promise {rb : Nat} {l : List Rc} (h : Holds B w0 w (star (dP 60 b D) (star (rcP rb l) Q))) (hQ : Stable Q) (hl : l.length ≤ 1000000) (x : Int) :
    Calls Try.prog 28 #[.pointer (some ⟨b, 0, none⟩), .int .i64 x, .func (.func 29) #[.pointer (some ⟨rb, 0, none⟩)] #[]] w (fun e w' => unit_ e ∧ Holds B w0 w' (star (dP 60 b (prD D x)) (star (rcP rb (l ++ recP D x)) Q))) := by
  have hu := Try.underlying60
  have hu2 := Try.underlying24
  have hu3 := Try.underlying62
  obtain ⟨A, c, c0, _, _, _, f0, _⟩ := d_cells h
  have f0' := f0 0
  have H := Lib.hid h
  have SQ := Lib.hid hQ
  clear h f0 hQ
  by_cases hx : D.pr < x
  · have E1 := Lib.hid (show prD D x = ⟨x, D.ba, D.sn, D.es⟩ by unfold prD; rw [if_pos hx])
    have E2 := Lib.hid (show recP D x = [⟨1, x, zeroE⟩] by unfold recP; rw [if_pos hx])
    have H2 := Lib.hid (d_setpr H.out ((rcP_stable rb l).star SQ.out) (by decide) x)
    have HA := Lib.hid (x_add H2.out.turn (SQ.out.star (dP_stable 60 b ⟨x, D.ba, D.sn, D.es⟩)) hl ⟨1, x, zeroE⟩)
    unfold Rc.val Rc.cs at HA
    go_enter Try.func28, Try.ntmps28
    go_wp2_with fail
    refine HA.out.mono ?_
    rintro e w3 ⟨rfl, h3⟩
    have H3 := Lib.hid h3.turn.turn
    clear h3
    go_wp2_with fail
    go_end0
    exact ⟨rfl, by rw [E1.out, E2.out]; exact H3.out⟩
  · have E1 := Lib.hid (show prD D x = D by unfold prD; rw [if_neg hx])
    have E2 := Lib.hid (show recP D x = [] by unfold recP; rw [if_neg hx])
    have hx' : decide (D.pr < x) = false := decide_eq_false hx
    clear hx
    go_enter Try.func28, Try.ntmps28
    go_wp2_with fail
    go_end0
    exact ⟨rfl, by rw [E1.out, E2.out, List.append_nil]; exact H.out⟩
end
end Go.Proofs.Ytnbllckmeehhjaa.A
