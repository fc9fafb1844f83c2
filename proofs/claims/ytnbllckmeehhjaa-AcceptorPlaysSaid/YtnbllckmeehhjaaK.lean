/-
  The acceptor: Durable, Cut.
-/
import Derived.Test.YtnbllckmeehhjaaJ
namespace Go.Proofs.Ytnbllckmeehhjaa.A
open Go.RowKit Go.Proofs.Ytnbllckmeehhjaa.U
set_option linter.unusedVariables false
set_option linter.unusedSimpArgs false
set_option maxRecDepth 100000

section
variable {B : Nat} {w0 w : World} {Q : SP} {t b : Nat} {D : DS}
set_option maxHeartbeats 6400000 in
theorem x_durable (h : Holds B w0 w (star (dP 60 b D) Q)) (hL : D.es.length ≤ 1000000) : Calls Try.prog 15 #[.pointer (some ⟨b, 0, none⟩)] w (FreshD D w) := by
  have hu := Try.underlying24
  have hu2 := Try.underlying60
  obtain ⟨F, v, hb, hr, hF⟩ := h.left
  obtain ⟨A, c, rfl, _, _⟩ := hr.form
  have Y1 := Lib.hid ((Blk.fresh w 24 zd4).alloc (.cells #[.int .i64 D.pr, .int .i64 D.ba, .string D.sn, .slice A D.es.length c] 24))
  have X0 := Blk.fresh (w.alloc (.cells zd4 24)) 24 #[.int .i64 D.pr, .int .i64 D.ba, .string D.sn, .slice A D.es.length c]
  rw [size_alloc] at X0
  have X1 := Lib.hid X0
  have K1 := Lib.hid (((Keep.same Nothing w).alloc (.cells zd4 24)).alloc (.cells #[.int .i64 D.pr, .int .i64 D.ba, .string D.sn, .slice A D.es.length c] 24))
  have HC := Lib.hid (clone_calls _ A D.es.length c D.es (src_keptE hr.src K1.out) hL)
  have B0 := hb.alloc (.cells zd4 24)
  have b0 := B0.cell 0
  have b1 := B0.cell 1
  have b2 := B0.cell 2
  have b3 := B0.cell 3
  have x3 := X1.out.cell 3
  clear X0 h hb hr hF B0
  go_enter Try.func15, Try.ntmps15
  go_wp2_with fail
  refine HC.out.mono ?_
  rintro e w3 ⟨A3, c3, rfl, hr3, hk3, ho3⟩
  have K3 := Lib.hid (K1.out.then hk3)
  have R3 := Lib.hid hr3
  have O3 := Lib.hid (show ∀ k, (Value.slice A3 D.es.length c3).ownBlock = some k → w.heap.size ≤ k ∧ k ≠ w.heap.size ∧ k ≠ w.heap.size + 1 from fun k hk => by
    have := ho3 k hk
    simp at this
    omega)
  have X3 := X1.out.keep hk3 (fun h => h)
  have Y3 := Y1.out.keep hk3 (fun h => h)
  have f3 := X3.free 3
  have x3' := X3.cell 3
  have X4 := X3.put 3 (.slice A3 D.es.length c3)
  have x40 := X4.cell 0
  have x41 := X4.cell 1
  have x42 := X4.cell 2
  have x43 := X4.cell 3
  have Y4 := Lib.hid (Y3.far (p := ⟨w.heap.size + 1, 3, none⟩) (by show w.heap.size ≠ w.heap.size + 1; omega) (.slice A3 D.es.length c3))
  obtain ⟨r0, g0, r1, g1, r2, g2, r3, g3, q0, q1, q2, q3, p0, p1, p2⟩ := store4 Y4.out (.int .i64 D.pr) (.int .i64 D.ba) (.string D.sn) (.slice A3 D.es.length c3)
  have KZ := Lib.hid (blks4 Y4.out (.int .i64 D.pr) (.int .i64 D.ba) (.string D.sn) (.slice A3 D.es.length c3)).2
  clear hr3 hk3 ho3 X3 Y3 X4 x3 b0 b1 b2 b3
  go_wp2_with fail
  refine bodyPost_ret (v := dval D A3 c3) (by simp [results, Try.results15, go_sem, hu, p0, p1, p2, q0, q1, q2, q3]) rfl ?_
  refine ⟨A3, c3, rfl, ?_, ?_, fun k hk => (O3.out k hk).1⟩
  · exact (R3.out.far (p := ⟨w.heap.size + 1, 3, none⟩) (fun e => (O3.out _ e).2.2 rfl) _).keep KZ.out (fun g hg e => (O3.out g hg).2.1 e)
  · exact (K3.out.set (p := ⟨w.heap.size + 1, 3, none⟩) (.inr (by show w.heap.size ≤ w.heap.size + 1; omega)) _).trans KZ.out (fun i hi => .inr (by rw [hi]; omega))
set_option maxHeartbeats 6400000 in
theorem x_cut (h : Holds B w0 w (star (dP 60 b D) Q)) (hQ : Stable Q) (hL : D.es.length ≤ 1000000) (s : Int) (sn : ByteArray) :
    Calls Try.prog 23 #[.pointer (some ⟨b, 0, none⟩), .int .i64 s, .string sn] w (fun e w' => unit_ e ∧ Holds B w0 w' (star (dP 60 b (cut D s sn)) Q)) := by
  have hu := Try.underlying24
  have hu2 := Try.underlying60
  refine h.on_left hQ (post := unit_) fun F ⟨v, hb, hr, hF⟩ => ?_
  obtain ⟨A, c, rfl, _, _⟩ := hr.form
  have FF := Lib.hid hF
  have AP := Lib.hid (hr.apart hb (by decide))
  have LT := Lib.hid hb.lt
  have K1 := Lib.hid ((Keep.same Nothing w).alloc (.cells #[.int .i64 s] 3))
  have B1 := Lib.hid (hb.alloc (.cells #[.int .i64 s] 3))
  have R1 := Lib.hid (hr.alloc (.cells #[.int .i64 s] 3))
  have P1 := Lib.hid (Blk.fresh w 3 #[.int .i64 s])
  have p0 := P1.out.cell 0
  have b1 := B1.out.cell 1
  clear hb hr hF h
  by_cases hs : s ≤ D.ba
  · have E := Lib.hid (show cut D s sn = D by unfold cut; rw [if_pos hs])
    go_enter Try.func23, Try.ntmps23
    go_wp2_with fail
    go_quiet (fail)
    go_wp2_with fail
    refine bodyPost_ret (results_none (by rfl) _ _ _) rfl ?_
    exact ⟨rfl, by rw [E.out]; exact dP_step FF.out ((K1.out.drewN _).wider (fun i h => h.elim)) (B1.out.drewN _) (R1.out.drewN _) (fun k hk => .inl hk)⟩
  · have E := Lib.hid (show cut D s sn = ⟨D.pr, s, sn, above D.es s⟩ by unfold cut; rw [if_neg hs])
    have hs' : decide (s ≤ D.ba) = false := decide_eq_false hs
    clear hs
    go_enter Try.func23, Try.ntmps23
    go_wp2_with fail
    go_quiet (fail)
    have f1 := B1.out.free 1
    have b2 := B1.out.cell 2
    have f2 := B1.out.free 2
    have b3 := B1.out.cell 3
    have f3 := B1.out.free 3
    have B3 := Lib.hid (((B1.out.put 1 (.int .i64 s)).put 2 (.string sn)).drewN nq)
    have R3 := Lib.hid (((R1.out.far (p := ⟨b, 1, none⟩) AP.out (.int .i64 s)).far (p := ⟨b, 2, none⟩) AP.out (.string sn)).drewN nq)
    have K3 := Lib.hid (((Keep.set (S := fun k => k = b ∨ (Value.slice A D.es.length c).ownBlock = some k) (Keep.set (S := fun k => k = b ∨ (Value.slice A D.es.length c).ownBlock = some k) (Keep.wider K1.out (fun i h => h.elim)) (p := ⟨b, 1, none⟩) (Or.inl (Or.inl rfl)) (.int .i64 s)) (p := ⟨b, 2, none⟩) (Or.inl (Or.inl rfl)) (.string sn))).drewN nq)
    have P3 := Lib.hid (((P1.out.far (p := ⟨b, 1, none⟩) (by have := LT.out; show w.heap.size ≠ b; omega) (.int .i64 s)).far (p := ⟨b, 2, none⟩) (by have := LT.out; show w.heap.size ≠ b; omega) (.string sn)).drewN nq)
    have HC := Lib.hid (clone_calls _ A D.es.length c D.es R3.out.src hL)
    go_wp2_with fail
    refine HC.out.mono ?_
    rintro e w4 ⟨A4, c4, rfl, hr4, hk4, ho4⟩
    have B4 := Lib.hid (B3.out.keep hk4 (fun h => h))
    have R4 := Lib.hid hr4
    have K4 := Lib.hid (K3.out.then (hk4.wider (fun i h => h.elim)))
    have P4 := Lib.hid ((P3.out.keep hk4 (fun h => h)).cell 0)
    have O4 := Lib.hid (show ∀ k, (Value.slice A4 D.es.length c4).ownBlock = some k → w.heap.size < k from fun k hk => by
      have h1 := ho4 k hk
      have h2 := P3.out.lt
      omega)
    have HD := Lib.hid (del_func w4 A4 D.es.length c4 D.es hr4 w.heap.size s P4.out (fun e => by have := O4.out _ e; omega))
    clear hr4 hk4 ho4 b1 b2 b3 f1 f2 f3
    go_wp2_with fail
    refine HD.out.mono ?_
    rintro e w5 ⟨m, rfl, hm, hr5, hk5⟩
    rw [keepO_above] at hm hr5
    have HM := Lib.hid hm
    have R5 := Lib.hid hr5
    have B5 := Lib.hid (B4.out.keep hk5 (fun h => by have := O4.out _ h; have := LT.out; omega))
    have K5 := Lib.hid (K4.out.trans hk5 (fun i hi => .inr (by have := O4.out _ hi; omega)))
    have c3 := B5.out.cell 3
    have g3 := B5.out.free 3
    clear hm hr5 hk5
    go_wp2_with fail
    go_end0
    refine ⟨rfl, ?_⟩
    rw [E.out]
    refine dP_step (D' := ⟨D.pr, s, sn, above D.es s⟩) FF.out (Keep.set (S := fun k => k = b ∨ (Value.slice A D.es.length c).ownBlock = some k) K5.out (p := ⟨b, 3, none⟩) (Or.inl (Or.inl rfl)) _) (B5.out.put 3 _) ?_ (fun k hk => .inr (by have := O4.out k (by rw [← hk]; cases A4 <;> rfl); omega))
    rw [HM.out] at R5 ⊢
    exact R5.out.far (p := ⟨b, 3, none⟩) (fun e => by
      have e' : (Value.slice A4 D.es.length c4).ownBlock = some b := by rw [← e]; cases A4 <;> rfl
      have := O4.out b e'
      have := LT.out
      omega) _
end
end Go.Proofs.Ytnbllckmeehhjaa.A
