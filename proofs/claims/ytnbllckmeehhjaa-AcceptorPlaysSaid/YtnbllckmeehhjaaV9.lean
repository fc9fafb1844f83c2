/-
  The reference's Accept.
-/
import Derived.Test.YtnbllckmeehhjaaV8
namespace Go.Proofs.Ytnbllckmeehhjaa.A
open Go.RowKit Go.Proofs.Ytnbllckmeehhjaa.U
set_option linter.unusedVariables false
set_option linter.unusedSimpArgs false
set_option maxRecDepth 100000

section
variable {B : Nat} {w0 w : World} {Q : SP} {b : Nat} {D : DS}
set_option maxHeartbeats 12800000 in
theorem x_accept22 (h : Holds B w0 w (star (dP 74 b D) Q)) (hQs : Stable Q) (hL : D.es.length ≤ 400000) (x : Int) (e : Ent) :
    Calls Try.prog 22 #[.pointer (some ⟨b, 0, none⟩), .int .i64 x, e.val] w (GavePost B w0 Q 74 b (accp D x e)) := by
  have hu := Try.underlying33
  have hu37 := Try.underlying37
  have hu74 := Try.underlying74
  have hu24 := Try.underlying24
  have hu62 := Try.underlying62
  have hQ := Lib.hid hQs
  have h1 := Holds.newBlk h (by repeat (first | exact none_stable | exact hQ.out | exact dP_stable _ _ _ | exact blkP_stable _ _ _ | exact rowP_stable _ _ _ _ _ | apply Stable.star)) 37 e.cs
  have h2 := Holds.newBlk h1 (by repeat (first | exact none_stable | exact hQ.out | exact dP_stable _ _ _ | exact blkP_stable _ _ _ | exact rowP_stable _ _ _ _ _ | apply Stable.star)) 33 zo4
  rw [size_alloc] at h2
  have H3 := Lib.hid (show Holds B w0 ((w.alloc (.cells #[.int .i64 e.a, .int .i64 e.b, .int .i64 e.c.k, .int .i64 e.c.s, .int .i64 e.c.q, .string e.c.nm, .int .i64 e.c.n] 37)).alloc (.cells zo4 33)) (star (dP 74 b D) (star (blkP w.heap.size 37 #[.int .i64 e.a, .int .i64 e.b, .int .i64 e.c.k, .int .i64 e.c.s, .int .i64 e.c.q, .string e.c.nm, .int .i64 e.c.n]) (star (blkP (w.heap.size + 1) 33 zo4) Q))) from h2.perm (by ac_rfl))
  obtain ⟨A, c, d0, _⟩ := d_cells H3.out
  have BE := blk_at h2.second
  unfold Ent.cs at BE
  unfold Ent.val Ent.cs
  have e0 := BE.cell 0
  clear h h1 h2 BE hQs
  cases hl : low D x || decide (e.a < 1) with
  | true =>
    have E := Lib.hid (show accp D x e = (D, false, []) by unfold accp; rw [hl]; rfl)
    have H4 := Lib.hid (H3.out.perm (show _ = star (blkP w.heap.size 37 #[.int .i64 e.a, .int .i64 e.b, .int .i64 e.c.k, .int .i64 e.c.s, .int .i64 e.c.q, .string e.c.nm, .int .i64 e.c.n]) (star (blkP (w.heap.size + 1) 33 zo4) (star (dP 74 b D) Q)) by ac_rfl)).drop.drop
    have DONE := Lib.hid (show ∀ n, GavePost B w0 Q 74 b (accp D x e) (.returned (.tuple #[outV none 0 0, .bool false])) (((w.alloc (.cells #[.int .i64 e.a, .int .i64 e.b, .int .i64 e.c.k, .int .i64 e.c.s, .int .i64 e.c.q, .string e.c.nm, .int .i64 e.c.n] 37)).alloc (.cells zo4 33)).drewN n) from fun n => by
      rw [E.out]
      exact ⟨none, 0, rfl, Holds.newRow (H4.out.drewN (by repeat (first | exact none_stable | exact hQ.out | exact dP_stable _ _ _ | exact blkP_stable _ _ _ | exact rowP_stable _ _ _ _ _ | apply Stable.star)) n) (by repeat (first | exact none_stable | exact hQ.out | exact dP_stable _ _ _ | exact blkP_stable _ _ _ | exact rowP_stable _ _ _ _ _ | apply Stable.star)) (Row.nil _ 62 9) (Keep.same _ _) (fun k hk => by simp [Value.ownBlock] at hk)⟩)
    unfold low at hl
    rcases (show decide (x < 1) = true ∨ (decide (x < 1) = false ∧ decide (x < D.pr) = true) ∨ (decide (x < 1) = false ∧ decide (x < D.pr) = false ∧ decide (e.a < 1) = true) by
      cases h1 : decide (x < 1) <;> cases h2 : decide (x < D.pr) <;> cases h3 : decide (e.a < 1) <;> simp [h1, h2, h3] at hl ⊢) with g1 | ⟨g1, g2⟩ | ⟨g1, g2, g3⟩
    all_goals clear hl
    all_goals go_enter Try.func22, Try.ntmps22
    all_goals go_wp2_with fail
    all_goals refine bodyPost_ret (v := .tuple #[outV none 0 0, .bool false]) (by simp [results, Try.results22, go_sem, hu]) rfl ?_
    all_goals exact DONE.out 0
  | false =>
    rw [Bool.or_eq_false_iff] at hl
    obtain ⟨hlo, hl1⟩ := hl
    have E := Lib.hid (show accp D x e = if fresh ⟨x, D.ba, D.sn, D.es⟩ (setB e x) then (⟨x, D.ba, D.sn, putE D.es (setB e x)⟩, true, recP D x ++ [⟨2, 0, setB e x⟩]) else (⟨x, D.ba, D.sn, D.es⟩, true, recP D x) by unfold accp; rw [hlo, hl1]; rfl)
    have HP := x_promise39 H3.out (by repeat (first | exact none_stable | exact hQ.out | exact dP_stable _ _ _ | exact blkP_stable _ _ _ | exact rowP_stable _ _ _ _ _ | apply Stable.star)) x
    rw [recQ_P hlo] at HP
    have HP1 := Lib.hid HP
    unfold low at hlo
    simp only [Bool.or_eq_false_iff] at hlo
    obtain ⟨g1, g2⟩ := hlo
    clear HP
    go_enter Try.func22, Try.ntmps22
    go_wp2_with fail
    refine HP1.out.mono ?_
    rintro e2 w4 ⟨A4, c4, rfl, h4⟩
    have h5 := Holds.newBlk h4 (by repeat (first | exact none_stable | exact hQ.out | exact dP_stable _ _ _ | exact blkP_stable _ _ _ | exact rowP_stable _ _ _ _ _ | apply Stable.star)) 33 #[.slice A4 (recP D x).length c4, .bool false, .slice none 0 0, .slice none 0 0]
    have h6 := Holds.newBlk h5 (by repeat (first | exact none_stable | exact hQ.out | exact dP_stable _ _ _ | exact blkP_stable _ _ _ | exact rowP_stable _ _ _ _ _ | apply Stable.star)) 37 #[.int .i64 e.a, .int .i64 x, .int .i64 e.c.k, .int .i64 e.c.s, .int .i64 e.c.q, .string e.c.nm, .int .i64 e.c.n]
    rw [size_alloc] at h6
    have H5 := Lib.hid (show Holds B w0 ((w4.alloc (.cells #[.slice A4 (recP D x).length c4, .bool false, .slice none 0 0, .slice none 0 0] 33)).alloc (.cells #[.int .i64 e.a, .int .i64 x, .int .i64 e.c.k, .int .i64 e.c.s, .int .i64 e.c.q, .string e.c.nm, .int .i64 e.c.n] 37)) (star (dP 74 b ⟨x, D.ba, D.sn, D.es⟩) (star (blkP w.heap.size 37 #[.int .i64 e.a, .int .i64 e.b, .int .i64 e.c.k, .int .i64 e.c.s, .int .i64 e.c.q, .string e.c.nm, .int .i64 e.c.n]) (star (blkP (w.heap.size + 1) 33 zo4) (star (blkP w4.heap.size 33 #[.slice A4 (recP D x).length c4, .bool false, .slice none 0 0, .slice none 0 0]) (star (blkP (w4.heap.size + 1) 37 #[.int .i64 e.a, .int .i64 x, .int .i64 e.c.k, .int .i64 e.c.s, .int .i64 e.c.q, .string e.c.nm, .int .i64 e.c.n]) (star (rowP 62 9 (.slice A4 (recP D x).length c4) (recP D x).length (recs (recP D x))) Q)))))) from h6.perm (by ac_rfl))
    have BE5 := blk_at ((H5.out.perm (show _ = star (blkP w.heap.size 37 #[.int .i64 e.a, .int .i64 e.b, .int .i64 e.c.k, .int .i64 e.c.s, .int .i64 e.c.q, .string e.c.nm, .int .i64 e.c.n]) (star (dP 74 b ⟨x, D.ba, D.sn, D.es⟩) (star (blkP (w.heap.size + 1) 33 zo4) (star (blkP w4.heap.size 33 #[.slice A4 (recP D x).length c4, .bool false, .slice none 0 0, .slice none 0 0]) (star (blkP (w4.heap.size + 1) 37 #[.int .i64 e.a, .int .i64 x, .int .i64 e.c.k, .int .i64 e.c.s, .int .i64 e.c.q, .string e.c.nm, .int .i64 e.c.n]) (star (rowP 62 9 (.slice A4 (recP D x).length c4) (recP D x).length (recs (recP D x))) Q))))) by ac_rfl)))
    have BE4 := blk_at ((h5.perm (show _ = star (blkP w.heap.size 37 #[.int .i64 e.a, .int .i64 e.b, .int .i64 e.c.k, .int .i64 e.c.s, .int .i64 e.c.q, .string e.c.nm, .int .i64 e.c.n]) (star (dP 74 b ⟨x, D.ba, D.sn, D.es⟩) (star (blkP (w.heap.size + 1) 33 zo4) (star (blkP w4.heap.size 33 #[.slice A4 (recP D x).length c4, .bool false, .slice none 0 0, .slice none 0 0]) (star (rowP 62 9 (.slice A4 (recP D x).length c4) (recP D x).length (recs (recP D x))) Q)))) by ac_rfl)))
    have u0 := BE4.cell 0
    have u2 := BE4.cell 2
    have u3 := BE4.cell 3
    have u4 := BE4.cell 4
    have u5 := BE4.cell 5
    have u6 := BE4.cell 6
    have z0 := BE5.cell 0
    have HA := Lib.hid (x_at36 H5.out (by show D.es.length ≤ 1000000; omega) e.a)
    clear h4 h5 h6 BE5 BE4 e0 d0
    go_wp2_with fail
    refine HA.out.mono ?_
    rintro e2 w6 ⟨rfl, hk6⟩
    have H6 := Lib.hid (H5.out.kept (by repeat (first | exact none_stable | exact hQ.out | exact dP_stable _ _ _ | exact blkP_stable _ _ _ | exact rowP_stable _ _ _ _ _ | apply Stable.star)) hk6)
    obtain ⟨old, hold⟩ : ∃ old, entOr (findV D.es e.a) = old := ⟨_, rfl⟩
    obtain ⟨is, his⟩ : ∃ is, (findV D.es e.a).isSome = is := ⟨_, rfl⟩
    have hf : fresh ⟨x, D.ba, D.sn, D.es⟩ (setB e x) = (decide (D.ba < e.a) && !(is && eqE old (setB e x))) := by
      unfold fresh
      show (decide (D.ba < e.a) && !((findV D.es e.a).isSome && eqE (entOr (findV D.es e.a)) (setB e x))) = _
      rw [hold, his]
    rw [hold, his]
    rw [hf] at E
    clear hk6 u0 u2 u3 u4 u5 u6 z0 hold his hf
    have HO := Lib.hid (show Holds B w0 (w6.alloc (.cells #[.int .i64 old.a, .int .i64 old.b, .int .i64 old.c.k, .int .i64 old.c.s, .int .i64 old.c.q, .string old.c.nm, .int .i64 old.c.n] 37)) (star (dP 74 b ⟨x, D.ba, D.sn, D.es⟩) (star (blkP w.heap.size 37 #[.int .i64 e.a, .int .i64 e.b, .int .i64 e.c.k, .int .i64 e.c.s, .int .i64 e.c.q, .string e.c.nm, .int .i64 e.c.n]) (star (blkP (w.heap.size + 1) 33 zo4) (star (blkP w4.heap.size 33 #[.slice A4 (recP D x).length c4, .bool false, .slice none 0 0, .slice none 0 0]) (star (blkP (w4.heap.size + 1) 37 #[.int .i64 e.a, .int .i64 x, .int .i64 e.c.k, .int .i64 e.c.s, .int .i64 e.c.q, .string e.c.nm, .int .i64 e.c.n]) (star (rowP 62 9 (.slice A4 (recP D x).length c4) (recP D x).length (recs (recP D x))) Q)))))) from H6.out.alloc (by repeat (first | exact none_stable | exact hQ.out | exact dP_stable _ _ _ | exact blkP_stable _ _ _ | exact rowP_stable _ _ _ _ _ | apply Stable.star)) (.cells #[.int .i64 old.a, .int .i64 old.b, .int .i64 old.c.k, .int .i64 old.c.s, .int .i64 old.c.q, .string old.c.nm, .int .i64 old.c.n] 37))
    obtain ⟨A6, c6, _, d1, _⟩ := d_cells HO.out
    have BE6 := blk_at ((HO.out.perm (show _ = star (blkP w.heap.size 37 #[.int .i64 e.a, .int .i64 e.b, .int .i64 e.c.k, .int .i64 e.c.s, .int .i64 e.c.q, .string e.c.nm, .int .i64 e.c.n]) (star (dP 74 b ⟨x, D.ba, D.sn, D.es⟩) (star (blkP (w.heap.size + 1) 33 zo4) (star (blkP w4.heap.size 33 #[.slice A4 (recP D x).length c4, .bool false, .slice none 0 0, .slice none 0 0]) (star (blkP (w4.heap.size + 1) 37 #[.int .i64 e.a, .int .i64 x, .int .i64 e.c.k, .int .i64 e.c.s, .int .i64 e.c.q, .string e.c.nm, .int .i64 e.c.n]) (star (rowP 62 9 (.slice A4 (recP D x).length c4) (recP D x).length (recs (recP D x))) Q))))) by ac_rfl)))
    have BN := blk_at ((HO.out.perm (show _ = star (blkP (w4.heap.size + 1) 37 #[.int .i64 e.a, .int .i64 x, .int .i64 e.c.k, .int .i64 e.c.s, .int .i64 e.c.q, .string e.c.nm, .int .i64 e.c.n]) (star (blkP w.heap.size 37 #[.int .i64 e.a, .int .i64 e.b, .int .i64 e.c.k, .int .i64 e.c.s, .int .i64 e.c.q, .string e.c.nm, .int .i64 e.c.n]) (star (dP 74 b ⟨x, D.ba, D.sn, D.es⟩) (star (blkP (w.heap.size + 1) 33 zo4) (star (blkP w4.heap.size 33 #[.slice A4 (recP D x).length c4, .bool false, .slice none 0 0, .slice none 0 0]) (star (rowP 62 9 (.slice A4 (recP D x).length c4) (recP D x).length (recs (recP D x))) Q))))) by ac_rfl)))
    have u0 := BE6.cell 0
    have n0 := BN.cell 0
    have n1 := BN.cell 1
    have n2 := BN.cell 2
    have n3 := BN.cell 3
    have n4 := BN.cell 4
    have n5 := BN.cell 5
    have n6 := BN.cell 6
    have hq := fun w => eqlE w old (setB e x)
    unfold Ent.cs setB at hq
    clear BE6 BN
    cases hb : decide (D.ba < e.a) with
    | false =>
      rw [hb, Bool.false_and, if_neg (by decide)] at E
      go_wp2_with fail
      go_quiet (fail)
      have H7 := Lib.hid (show Holds B w0 ((w6.alloc (.cells #[.int .i64 old.a, .int .i64 old.b, .int .i64 old.c.k, .int .i64 old.c.s, .int .i64 old.c.q, .string old.c.nm, .int .i64 old.c.n] 37)).drewN nq) (star (blkP (w.heap.size + 1) 33 zo4) (star (blkP w4.heap.size 33 #[.slice A4 (recP D x).length c4, .bool false, .slice none 0 0, .slice none 0 0]) (star (blkP w.heap.size 37 #[.int .i64 e.a, .int .i64 e.b, .int .i64 e.c.k, .int .i64 e.c.s, .int .i64 e.c.q, .string e.c.nm, .int .i64 e.c.n]) (star (blkP (w4.heap.size + 1) 37 #[.int .i64 e.a, .int .i64 x, .int .i64 e.c.k, .int .i64 e.c.s, .int .i64 e.c.q, .string e.c.nm, .int .i64 e.c.n]) (star (rowP 62 9 (.slice A4 (recP D x).length c4) (recP D x).length (recs (recP D x))) (star (dP 74 b ⟨x, D.ba, D.sn, D.es⟩) Q)))))) from (HO.out.drewN (by repeat (first | exact none_stable | exact hQ.out | exact dP_stable _ _ _ | exact blkP_stable _ _ _ | exact rowP_stable _ _ _ _ _ | apply Stable.star)) nq).perm (by ac_rfl))
      have B7 := blk_at H7.out
      have B8 := blk_at H7.out.second
      have k0 := B8.cell 0
      have k1 := B8.cell 1
      have k2 := B8.cell 2
      have k3 := B8.cell 3
      obtain ⟨r0, g0, r1, g1, r2, g2, r3, g3, q0, q1, q2, q3, p0, p1, p2⟩ := store4 B7 (.slice A4 (recP D x).length c4) (.bool false) (.slice none 0 0) (.slice none 0 0)
      have H8 := Lib.hid (held4 H7.out (by repeat (first | exact none_stable | exact hQ.out | exact dP_stable _ _ _ | exact blkP_stable _ _ _ | exact rowP_stable _ _ _ _ _ | apply Stable.star)) (.slice A4 (recP D x).length c4) (.bool false) (.slice none 0 0) (.slice none 0 0)).drop.drop.drop.drop
      clear B7 B8
      go_wp2_with fail
      refine bodyPost_ret (v := .tuple #[outV A4 (recP D x).length c4, .bool true]) (by simp [results, Try.results22, go_sem, hu, p0, p1, p2, q0, q1, q2, q3]) rfl ?_
      rw [E.out]
      exact ⟨A4, c4, rfl, H8.out⟩
    | true =>
      cases is with
      | false =>
        rw [hb, Bool.false_and, if_pos (by decide)] at E
        clear hq
        go_wp2_with fail
        go_quiet (fail)
        have WA0 := Lib.hid ((((HO.out.drewN (by repeat (first | exact none_stable | exact hQ.out | exact dP_stable _ _ _ | exact blkP_stable _ _ _ | exact rowP_stable _ _ _ _ _ | apply Stable.star)) nq).alloc (by repeat (first | exact none_stable | exact hQ.out | exact dP_stable _ _ _ | exact blkP_stable _ _ _ | exact rowP_stable _ _ _ _ _ | apply Stable.star)) (.cells #[.int .i64 2, .int .i64 0, .int .i64 e.a, .int .i64 x, .int .i64 e.c.k, .int .i64 e.c.s, .int .i64 e.c.q, .string e.c.nm, .int .i64 e.c.n] 62)).alloc (by repeat (first | exact none_stable | exact hQ.out | exact dP_stable _ _ _ | exact blkP_stable _ _ _ | exact rowP_stable _ _ _ _ _ | apply Stable.star)) (.cells #[.int .i64 2, .int .i64 0, .int .i64 e.a, .int .i64 x, .int .i64 e.c.k, .int .i64 e.c.s, .int .i64 e.c.q, .string e.c.nm, .int .i64 e.c.n] 62)).kept (by repeat (first | exact none_stable | exact hQ.out | exact dP_stable _ _ _ | exact blkP_stable _ _ _ | exact rowP_stable _ _ _ _ _ | apply Stable.star)) ((Keep.same Nothing _).drew))
        have Z9 := Blk.fresh ((w6.alloc (.cells #[.int .i64 old.a, .int .i64 old.b, .int .i64 old.c.k, .int .i64 old.c.s, .int .i64 old.c.q, .string old.c.nm, .int .i64 old.c.n] 37)).drewN nq) 62 #[.int .i64 2, .int .i64 0, .int .i64 e.a, .int .i64 x, .int .i64 e.c.k, .int .i64 e.c.s, .int .i64 e.c.q, .string e.c.nm, .int .i64 e.c.n]
        rw [show ((w6.alloc (.cells #[.int .i64 old.a, .int .i64 old.b, .int .i64 old.c.k, .int .i64 old.c.s, .int .i64 old.c.q, .string old.c.nm, .int .i64 old.c.n] 37)).drewN nq).heap.size = w6.heap.size + 1 from size_alloc _ _] at Z9
        obtain ⟨F9, v9, hb9, hr9, hF9⟩ := ((HO.out.drewN (by repeat (first | exact none_stable | exact hQ.out | exact dP_stable _ _ _ | exact blkP_stable _ _ _ | exact rowP_stable _ _ _ _ _ | apply Stable.star)) nq).alloc (by repeat (first | exact none_stable | exact hQ.out | exact dP_stable _ _ _ | exact blkP_stable _ _ _ | exact rowP_stable _ _ _ _ _ | apply Stable.star)) (.cells #[.int .i64 2, .int .i64 0, .int .i64 e.a, .int .i64 x, .int .i64 e.c.k, .int .i64 e.c.s, .int .i64 e.c.q, .string e.c.nm, .int .i64 e.c.n] 62)).left
        obtain ⟨A9, c9, rfl, _, _⟩ := hr9.form
        have hb9a := hb9.alloc (.cells #[.int .i64 2, .int .i64 0, .int .i64 e.a, .int .i64 x, .int .i64 e.c.k, .int .i64 e.c.s, .int .i64 e.c.q, .string e.c.nm, .int .i64 e.c.n] 62)
        have hr9a := Lib.hid ((hr9.alloc (.cells #[.int .i64 2, .int .i64 0, .int .i64 e.a, .int .i64 x, .int .i64 e.c.k, .int .i64 e.c.s, .int .i64 e.c.q, .string e.c.nm, .int .i64 e.c.n] 62)).keep ((Keep.same Nothing _).drew) (fun _ _ h => h))
        have LB := Lib.hid (show b < w6.heap.size from (by
          obtain ⟨_, _, hbb, _⟩ := H6.out.left
          exact hbb.lt))
        have SRC := Lib.hid (show U.Src ((((w6.alloc (.cells #[.int .i64 old.a, .int .i64 old.b, .int .i64 old.c.k, .int .i64 old.c.s, .int .i64 old.c.q, .string old.c.nm, .int .i64 old.c.n] 37)).drewN nq).alloc (.cells #[.int .i64 2, .int .i64 0, .int .i64 e.a, .int .i64 x, .int .i64 e.c.k, .int .i64 e.c.s, .int .i64 e.c.q, .string e.c.nm, .int .i64 e.c.n] 62)).alloc (.cells #[.int .i64 2, .int .i64 0, .int .i64 e.a, .int .i64 x, .int .i64 e.c.k, .int .i64 e.c.s, .int .i64 e.c.q, .string e.c.nm, .int .i64 e.c.n] 62)).drew (some ⟨(((w6.alloc (.cells #[.int .i64 old.a, .int .i64 old.b, .int .i64 old.c.k, .int .i64 old.c.s, .int .i64 old.c.q, .string old.c.nm, .int .i64 old.c.n] 37)).drewN nq).alloc (.cells #[.int .i64 2, .int .i64 0, .int .i64 e.a, .int .i64 x, .int .i64 e.c.k, .int .i64 e.c.s, .int .i64 e.c.q, .string e.c.nm, .int .i64 e.c.n] 62)).heap.size, 0, none⟩) 9 1 (recs [⟨2, 0, setB e x⟩]) from U.Src.fresh (((w6.alloc (.cells #[.int .i64 old.a, .int .i64 old.b, .int .i64 old.c.k, .int .i64 old.c.s, .int .i64 old.c.q, .string old.c.nm, .int .i64 old.c.n] 37)).drewN nq).alloc (.cells #[.int .i64 2, .int .i64 0, .int .i64 e.a, .int .i64 x, .int .i64 e.c.k, .int .i64 e.c.s, .int .i64 e.c.q, .string e.c.nm, .int .i64 e.c.n] 62)) #[.int .i64 2, .int .i64 0, .int .i64 e.a, .int .i64 x, .int .i64 e.c.k, .int .i64 e.c.s, .int .i64 e.c.q, .string e.c.nm, .int .i64 e.c.n] 62 9 1 rfl)
        rw [show (((w6.alloc (.cells #[.int .i64 old.a, .int .i64 old.b, .int .i64 old.c.k, .int .i64 old.c.s, .int .i64 old.c.q, .string old.c.nm, .int .i64 old.c.n] 37)).drewN nq).alloc (.cells #[.int .i64 2, .int .i64 0, .int .i64 e.a, .int .i64 x, .int .i64 e.c.k, .int .i64 e.c.s, .int .i64 e.c.q, .string e.c.nm, .int .i64 e.c.n] 62)).heap.size = w6.heap.size + 1 + 1 by rw [size_alloc]; show (w6.alloc (.cells #[.int .i64 old.a, .int .i64 old.b, .int .i64 old.c.k, .int .i64 old.c.s, .int .i64 old.c.q, .string old.c.nm, .int .i64 old.c.n] 37)).heap.size + 1 = _; rw [size_alloc]] at SRC
        have EQ := Lib.hid (show foldL ⟨x, D.ba, D.sn, D.es⟩ [⟨2, 0, setB e x⟩] = ⟨x, D.ba, D.sn, putE D.es (setB e x)⟩ by
          have h3 : ¬ (setB e x).a ≤ D.ba := by have := of_decide_eq_true hb; show ¬ e.a ≤ D.ba; omega
          simp [foldL, foldR, mx, setB, h3] at h3 ⊢
          intro h4
          omega)
        have HI := Lib.hid (fold14 _ ⟨x, D.ba, D.sn, D.es⟩ A9 c9 hr9a.out.src (by show D.es.length ≤ 500000; omega) (some ⟨w6.heap.size + 1 + 1, 0, none⟩) 1 1 [⟨2, 0, setB e x⟩] SRC.out (by omega))
        rw [EQ.out] at HI
        have d0 := hb9.cell 0
        have d1x := hb9.cell 1
        have d2 := hb9.cell 2
        have d3 := hb9.cell 3
        have a0 := hb9a.cell 0
        have a1 := hb9a.cell 1
        have a2 := hb9a.cell 2
        have a3 := hb9a.cell 3
        have hH0 : (fun w' : World => w'.cell? ⟨w6.heap.size + 1, 0, none⟩ = some (.int .i64 2) ∧ w'.cell? ⟨w6.heap.size + 1, 1, none⟩ = some (.int .i64 0) ∧ w'.cell? ⟨w6.heap.size + 1, 2, none⟩ = some (.int .i64 e.a) ∧ w'.cell? ⟨w6.heap.size + 1, 3, none⟩ = some (.int .i64 x) ∧ w'.cell? ⟨w6.heap.size + 1, 4, none⟩ = some (.int .i64 e.c.k) ∧ w'.cell? ⟨w6.heap.size + 1, 5, none⟩ = some (.int .i64 e.c.s) ∧ w'.cell? ⟨w6.heap.size + 1, 6, none⟩ = some (.int .i64 e.c.q) ∧ w'.cell? ⟨w6.heap.size + 1, 7, none⟩ = some (.string e.c.nm) ∧ w'.cell? ⟨w6.heap.size + 1, 8, none⟩ = some (.int .i64 e.c.n)) (((w6.alloc (.cells #[.int .i64 old.a, .int .i64 old.b, .int .i64 old.c.k, .int .i64 old.c.s, .int .i64 old.c.q, .string old.c.nm, .int .i64 old.c.n] 37)).drewN nq).alloc (.cells #[.int .i64 2, .int .i64 0, .int .i64 e.a, .int .i64 x, .int .i64 e.c.k, .int .i64 e.c.s, .int .i64 e.c.q, .string e.c.nm, .int .i64 e.c.n] 62)) := ⟨Z9.cell 0, Z9.cell 1, Z9.cell 2, Z9.cell 3, Z9.cell 4, Z9.cell 5, Z9.cell 6, Z9.cell 7, Z9.cell 8⟩
        have NB := Lib.hid (show w6.heap.size + 1 ≠ b from fun h => by have := LB.out; omega)
        have SF := Lib.hid (show ∀ (X : World) (i : Nat) (u : Value), (fun w' : World => w'.cell? ⟨w6.heap.size + 1, 0, none⟩ = some (.int .i64 2) ∧ w'.cell? ⟨w6.heap.size + 1, 1, none⟩ = some (.int .i64 0) ∧ w'.cell? ⟨w6.heap.size + 1, 2, none⟩ = some (.int .i64 e.a) ∧ w'.cell? ⟨w6.heap.size + 1, 3, none⟩ = some (.int .i64 x) ∧ w'.cell? ⟨w6.heap.size + 1, 4, none⟩ = some (.int .i64 e.c.k) ∧ w'.cell? ⟨w6.heap.size + 1, 5, none⟩ = some (.int .i64 e.c.s) ∧ w'.cell? ⟨w6.heap.size + 1, 6, none⟩ = some (.int .i64 e.c.q) ∧ w'.cell? ⟨w6.heap.size + 1, 7, none⟩ = some (.string e.c.nm) ∧ w'.cell? ⟨w6.heap.size + 1, 8, none⟩ = some (.int .i64 e.c.n)) X → (fun w' : World => w'.cell? ⟨w6.heap.size + 1, 0, none⟩ = some (.int .i64 2) ∧ w'.cell? ⟨w6.heap.size + 1, 1, none⟩ = some (.int .i64 0) ∧ w'.cell? ⟨w6.heap.size + 1, 2, none⟩ = some (.int .i64 e.a) ∧ w'.cell? ⟨w6.heap.size + 1, 3, none⟩ = some (.int .i64 x) ∧ w'.cell? ⟨w6.heap.size + 1, 4, none⟩ = some (.int .i64 e.c.k) ∧ w'.cell? ⟨w6.heap.size + 1, 5, none⟩ = some (.int .i64 e.c.s) ∧ w'.cell? ⟨w6.heap.size + 1, 6, none⟩ = some (.int .i64 e.c.q) ∧ w'.cell? ⟨w6.heap.size + 1, 7, none⟩ = some (.string e.c.nm) ∧ w'.cell? ⟨w6.heap.size + 1, 8, none⟩ = some (.int .i64 e.c.n)) (X.setCell ⟨b, i, none⟩ u) from fun X i u h => ⟨(cell_far X b i u _ _ NB.out).trans h.1, (cell_far X b i u _ _ NB.out).trans h.2.1, (cell_far X b i u _ _ NB.out).trans h.2.2.1, (cell_far X b i u _ _ NB.out).trans h.2.2.2.1, (cell_far X b i u _ _ NB.out).trans h.2.2.2.2.1, (cell_far X b i u _ _ NB.out).trans h.2.2.2.2.2.1, (cell_far X b i u _ _ NB.out).trans h.2.2.2.2.2.2.1, (cell_far X b i u _ _ NB.out).trans h.2.2.2.2.2.2.2.1, (cell_far X b i u _ _ NB.out).trans h.2.2.2.2.2.2.2.2⟩)
        have SA := Lib.hid (show ∀ (X Y : World), Keep Nothing X Y → (fun w' : World => w'.cell? ⟨w6.heap.size + 1, 0, none⟩ = some (.int .i64 2) ∧ w'.cell? ⟨w6.heap.size + 1, 1, none⟩ = some (.int .i64 0) ∧ w'.cell? ⟨w6.heap.size + 1, 2, none⟩ = some (.int .i64 e.a) ∧ w'.cell? ⟨w6.heap.size + 1, 3, none⟩ = some (.int .i64 x) ∧ w'.cell? ⟨w6.heap.size + 1, 4, none⟩ = some (.int .i64 e.c.k) ∧ w'.cell? ⟨w6.heap.size + 1, 5, none⟩ = some (.int .i64 e.c.s) ∧ w'.cell? ⟨w6.heap.size + 1, 6, none⟩ = some (.int .i64 e.c.q) ∧ w'.cell? ⟨w6.heap.size + 1, 7, none⟩ = some (.string e.c.nm) ∧ w'.cell? ⟨w6.heap.size + 1, 8, none⟩ = some (.int .i64 e.c.n)) X → (fun w' : World => w'.cell? ⟨w6.heap.size + 1, 0, none⟩ = some (.int .i64 2) ∧ w'.cell? ⟨w6.heap.size + 1, 1, none⟩ = some (.int .i64 0) ∧ w'.cell? ⟨w6.heap.size + 1, 2, none⟩ = some (.int .i64 e.a) ∧ w'.cell? ⟨w6.heap.size + 1, 3, none⟩ = some (.int .i64 x) ∧ w'.cell? ⟨w6.heap.size + 1, 4, none⟩ = some (.int .i64 e.c.k) ∧ w'.cell? ⟨w6.heap.size + 1, 5, none⟩ = some (.int .i64 e.c.s) ∧ w'.cell? ⟨w6.heap.size + 1, 6, none⟩ = some (.int .i64 e.c.q) ∧ w'.cell? ⟨w6.heap.size + 1, 7, none⟩ = some (.string e.c.nm) ∧ w'.cell? ⟨w6.heap.size + 1, 8, none⟩ = some (.int .i64 e.c.n)) Y from fun X Y k h => ⟨k.cell h.1 (fun h => h), k.cell h.2.1 (fun h => h), k.cell h.2.2.1 (fun h => h), k.cell h.2.2.2.1 (fun h => h), k.cell h.2.2.2.2.1 (fun h => h), k.cell h.2.2.2.2.2.1 (fun h => h), k.cell h.2.2.2.2.2.2.1 (fun h => h), k.cell h.2.2.2.2.2.2.2.1 (fun h => h), k.cell h.2.2.2.2.2.2.2.2 (fun h => h)⟩)
        dsimp only at hH0
        clear hb9 hr9 hF9 hb9a d1 Z9 hb
        go_wp2_with fail
        clear n0 n1 n2 n3 n4 n5 n6
        refine wp_region_noPanic ?_
        refine wp_region_held_drew (S := (fun w' : World => w'.cell? ⟨w6.heap.size + 1, 0, none⟩ = some (.int .i64 2) ∧ w'.cell? ⟨w6.heap.size + 1, 1, none⟩ = some (.int .i64 0) ∧ w'.cell? ⟨w6.heap.size + 1, 2, none⟩ = some (.int .i64 e.a) ∧ w'.cell? ⟨w6.heap.size + 1, 3, none⟩ = some (.int .i64 x) ∧ w'.cell? ⟨w6.heap.size + 1, 4, none⟩ = some (.int .i64 e.c.k) ∧ w'.cell? ⟨w6.heap.size + 1, 5, none⟩ = some (.int .i64 e.c.s) ∧ w'.cell? ⟨w6.heap.size + 1, 6, none⟩ = some (.int .i64 e.c.q) ∧ w'.cell? ⟨w6.heap.size + 1, 7, none⟩ = some (.string e.c.nm) ∧ w'.cell? ⟨w6.heap.size + 1, 8, none⟩ = some (.int .i64 e.c.n))) (by kernel_rfl) hH0 (fun hHeld => ?_)
        refine wpAnyH_take (i := 0) (oi := _) (v := ?_) (by simp only [List.getElem?_toArray, List.getElem?_cons_succ, List.getElem?_cons_zero]; rfl) (by kernel_rfl) (by kernel_rfl) (by kernel_rfl) (fun _ _ _ h => h) (Or.inl ⟨by rfl, ?_⟩) (by assumption) ?_
        rotate_left
        · (intro w hSw; (try dsimp only at hSw); go_simp; (try with_reducible rfl))
        (try simp only [Act.put, List.setIfInBounds_toArray, List.set_cons_zero, List.set_cons_succ])
        refine wpAnyH_take (i := 1) (oi := _) (v := ?_) (by simp only [List.getElem?_toArray, List.getElem?_cons_succ, List.getElem?_cons_zero]; rfl) (by kernel_rfl) (by kernel_rfl) (by kernel_rfl) (fun _ _ _ h => h) (Or.inl ⟨by rfl, ?_⟩) (by assumption) ?_
        rotate_left
        · (intro w hSw; (try dsimp only at hSw); go_simp; (try with_reducible rfl))
        (try simp only [Act.put, List.setIfInBounds_toArray, List.set_cons_zero, List.set_cons_succ])
        refine wpAnyH_take (i := 2) (oi := _) (v := ?_) (by simp only [List.getElem?_toArray, List.getElem?_cons_succ, List.getElem?_cons_zero]; rfl) (by kernel_rfl) (by kernel_rfl) (by kernel_rfl) (fun _ _ _ h => h) (Or.inl ⟨by rfl, ?_⟩) (by assumption) ?_
        rotate_left
        · (intro w hSw; (try dsimp only at hSw); go_simp; (try with_reducible rfl))
        (try simp only [Act.put, List.setIfInBounds_toArray, List.set_cons_zero, List.set_cons_succ])
        refine wpAnyH_take (i := 3) (oi := _) (v := ?_) (by simp only [List.getElem?_toArray, List.getElem?_cons_succ, List.getElem?_cons_zero]; rfl) (by kernel_rfl) (by kernel_rfl) (by kernel_rfl) (fun _ _ _ h => h) (Or.inl ⟨by rfl, ?_⟩) (by assumption) ?_
        rotate_left
        · (intro w hSw; (try dsimp only at hSw); go_simp; (try with_reducible rfl))
        (try simp only [Act.put, List.setIfInBounds_toArray, List.set_cons_zero, List.set_cons_succ])
        refine wpAnyH_take (i := 5) (oi := _) (v := ?_) (by simp only [List.getElem?_toArray, List.getElem?_cons_succ, List.getElem?_cons_zero]; rfl) (by kernel_rfl) (by kernel_rfl) (by kernel_rfl) (fun _ _ _ h => h) (Or.inl ⟨by rfl, ?_⟩) (by assumption) ?_
        rotate_left
        · (intro w hSw; (try dsimp only at hSw); obtain ⟨s0, s1, s2, s3, s4, s5, s6, s7, s8⟩ := hSw; go_simp; (try with_reducible rfl))
        (try simp only [Act.put, List.setIfInBounds_toArray, List.set_cons_zero, List.set_cons_succ])
        refine wpAnyH_ready (rs := [4, 6]) (by kernel_rfl) (by simp) ?_
        refine AllReadyH.cons (o := _) (by simp only [List.getElem?_toArray, List.getElem?_cons_succ, List.getElem?_cons_zero]; rfl) (fun K hK => ?_) (AllReadyH.cons (o := _) (by simp only [List.getElem?_toArray, List.getElem?_cons_succ, List.getElem?_cons_zero]; rfl) (fun K hK => ?_) AllReadyH.nil)
        · go_simp
          refine hK.out _ _ (by first | exact hHeld) (fun hHeld => ?_)
          clear hK K
          (try simp only [Act.put, List.setIfInBounds_toArray, List.set_cons_zero, List.set_cons_succ])
          refine wpAnyH_ready (rs := [6]) (by kernel_rfl) (by simp) ?_
          refine AllReadyH.cons (o := _) (by simp only [List.getElem?_toArray, List.getElem?_cons_succ, List.getElem?_cons_zero]; rfl) (fun K hK => ?_) AllReadyH.nil
          go_simp
          refine hK.out _ _ (SA.out _ _ ((Keep.same Nothing _).alloc _) (by first | exact hHeld)) (fun hHeld => ?_)
          clear hK K
          (try simp only [Act.put, List.setIfInBounds_toArray, List.set_cons_zero, List.set_cons_succ])
          refine wpAnyH_ready (rs := [7]) (by kernel_rfl) (by simp) ?_
          refine AllReadyH.cons (o := _) (by simp only [List.getElem?_toArray, List.getElem?_cons_succ, List.getElem?_cons_zero]; rfl) (fun K hK => ?_) AllReadyH.nil
          go_simp
          refine HI.out.mono ?_
          rintro e2 w8 ⟨A8, c8, rfl, hr8, hk8, ho8⟩
          have TK := Lib.hid (d_takeT (D' := ⟨x, D.ba, D.sn, putE D.es (setB e x)⟩) WA0.out (by repeat (first | exact none_stable | exact hQ.out | exact dP_stable _ _ _ | exact blkP_stable _ _ _ | exact rowP_stable _ _ _ _ _ | apply Stable.star)) hk8 hr8 ho8)
          obtain ⟨v8, hb8⟩ := TK.out.1
          obtain ⟨r0, g0, r1, g1, r2, g2, r3, g3, q0, q1, q2, q3, p0, p1, p2⟩ := store4 hb8 (.int .i64 x) (.int .i64 D.ba) (.string D.sn) (.slice A8 (putE D.es (setB e x)).length c8)
          have hH8 := SA.out _ _ hk8 (SA.out _ _ (((Keep.same Nothing _).alloc (.cells #[.int .i64 2, .int .i64 0, .int .i64 e.a, .int .i64 x, .int .i64 e.c.k, .int .i64 e.c.s, .int .i64 e.c.q, .string e.c.nm, .int .i64 e.c.n] 62)).drew) hH0)
          have HH8 := Lib.hid hH8
          (try dsimp only at hH8)
          clear hr8 hk8 ho8 hb8
          (try go_wp2_with fail)
          refine hK.out _ _ (hH8) (fun hHeld => ?_)
          clear hK K
          (try simp only [Act.put, List.setIfInBounds_toArray, List.set_cons_zero, List.set_cons_succ])
          refine wpAnyH_take (i := 8) (oi := _) (v := ?_) (by simp only [List.getElem?_toArray, List.getElem?_cons_succ, List.getElem?_cons_zero]; rfl) (by kernel_rfl) (by kernel_rfl) (by kernel_rfl) (fun _ _ _ h => h) (Or.inl ⟨by rfl, ?_⟩) (by assumption) ?_
          rotate_left
          · (intro w hSw; (try dsimp only at hSw); go_simp; (try with_reducible rfl))
          (try simp only [Act.put, List.setIfInBounds_toArray, List.set_cons_zero, List.set_cons_succ])
          refine wpAnyH_take (i := 9) (oi := _) (v := ?_) (by simp only [List.getElem?_toArray, List.getElem?_cons_succ, List.getElem?_cons_zero]; rfl) (by kernel_rfl) (by kernel_rfl) (by kernel_rfl) (fun _ _ _ h => h) (Or.inl ⟨by rfl, ?_⟩) (by assumption) ?_
          rotate_left
          · (intro w hSw; (try dsimp only at hSw); go_simp; (try with_reducible rfl))
          (try simp only [Act.put, List.setIfInBounds_toArray, List.set_cons_zero, List.set_cons_succ])
          refine wpAnyH_ready (rs := [10]) (by kernel_rfl) (by simp) ?_
          refine AllReadyH.cons (o := _) (by simp only [List.getElem?_toArray, List.getElem?_cons_succ, List.getElem?_cons_zero]; rfl) (fun K hK => ?_) AllReadyH.nil
          go_simp
          refine hK.out _ _ (SF.out _ 3 _ (SF.out _ 2 _ (SF.out _ 1 _ (SF.out _ 0 _ HH8.out)))) (fun hHeld => ?_)
          clear hK K
          (try simp only [Act.put, List.setIfInBounds_toArray, List.set_cons_zero, List.set_cons_succ])
          refine wpAnyH_done (by kernel_rfl) ?_ _
          refine NoPanic.normal ?_
          have HT := Lib.hid (SF.out _ 3 (.slice A8 (putE D.es (setB e x)).length c8) (SF.out _ 2 (.string D.sn) (SF.out _ 1 (.int .i64 D.ba) (SF.out _ 0 (.int .i64 x) HH8.out))))
          obtain ⟨t0, t1, t2, t3, t4, t5, t6, t7, t8⟩ := HT.out
          have H10 := Lib.hid TK.out.2
          clear r0 g0 r1 g1 r2 g2 r3 g3 q0 q1 q2 q3 p0 p1 p2 a0 a1 a2 a3 d0 d1x d2 d3 hH0 hH8
          obtain ⟨W10, hW10⟩ : ∃ W10, ((((w8.setCell ⟨b, 0, none⟩ (.int .i64 x)).setCell ⟨b, 1, none⟩ (.int .i64 D.ba)).setCell ⟨b, 2, none⟩ (.string D.sn)).setCell ⟨b, 3, none⟩ (.slice A8 (putE D.es (setB e x)).length c8)) = W10 := ⟨_, rfl⟩
          rw [hW10] at H10 t0 t1 t2 t3 t4 t5 t6 t7 t8 ⊢
          clear hW10 HT
          obtain ⟨LL, hLL⟩ : ∃ LL, recP D x ++ [(⟨2, 0, setB e x⟩ : Rc)] = LL := ⟨_, rfl⟩
          have RQ := Lib.hid (show Holds B w0 W10 (star (rowP 62 9 (.slice A4 (recP D x).length c4) (recP D x).length (recs (recP D x))) (star (blkP w4.heap.size 33 #[.slice A4 (recP D x).length c4, .bool false, .slice none 0 0, .slice none 0 0]) (star (blkP (w.heap.size + 1) 33 zo4) (star (dP 74 b ⟨x, D.ba, D.sn, putE D.es (setB e x)⟩) (star (blkP w.heap.size 37 #[.int .i64 e.a, .int .i64 e.b, .int .i64 e.c.k, .int .i64 e.c.s, .int .i64 e.c.q, .string e.c.nm, .int .i64 e.c.n]) (star (blkP (w4.heap.size + 1) 37 #[.int .i64 e.a, .int .i64 x, .int .i64 e.c.k, .int .i64 e.c.s, .int .i64 e.c.q, .string e.c.nm, .int .i64 e.c.n]) Q)))))) from H10.out.perm (by ac_rfl))
          have hrl := recP_len D x
          have B8 := blk_at RQ.out.second
          have b80 := B8.cell 0
          have R11 := Lib.hid (RQ.out.row.alloc (.cells #[.int .i64 2, .int .i64 0, .int .i64 e.a, .int .i64 x, .int .i64 e.c.k, .int .i64 e.c.s, .int .i64 e.c.q, .string e.c.nm, .int .i64 e.c.n] 62))
          have hb1 : (recP D x).length + 1 ≤ maxLen := by unfold maxLen; omega
          have hb2 : ((recP D x).length + 1) * 80 ≤ 140737488355328 := by omega
          have HL3 : (recP D x).length + 1 = LL.length := by rw [← hLL]; simp
          have EL := Lib.hid (show recs (recP D x) ++ #[.int .i64 2, .int .i64 0, .int .i64 e.a, .int .i64 x, .int .i64 e.c.k, .int .i64 e.c.s, .int .i64 e.c.q, .string e.c.nm, .int .i64 e.c.n].toList = recs LL by rw [← hLL, recs_app, recs_one1]; rfl)
          rw [hLL] at E
          have HL4 := Lib.hid HL3
          clear B8 hLL HL3
          go_wp2_with (at_builtin; refine wpList_app _ rfl EC (.tmp 77) (.tmp 79) rfl R11.out (Src.fresh _ #[.int .i64 2, .int .i64 0, .int .i64 e.a, .int .i64 x, .int .i64 e.c.k, .int .i64 e.c.s, .int .i64 e.c.q, .string e.c.nm, .int .i64 e.c.n] 62 9 1 rfl) 1 rfl (by simp [Act.eval, Act.put]) (by simp [Value.oneCell']) hb1 hb2 ?_)
          intro v11 w11 hr hg hloc
          have H11 := (RQ.out.alloc (by repeat (first | exact none_stable | exact hQ.out | exact dP_stable _ _ _ | exact blkP_stable _ _ _ | exact rowP_stable _ _ _ _ _ | apply Stable.star)) (.cells #[.int .i64 2, .int .i64 0, .int .i64 e.a, .int .i64 x, .int .i64 e.c.k, .int .i64 e.c.s, .int .i64 e.c.q, .string e.c.nm, .int .i64 e.c.n] 62)).grew (by repeat (first | exact none_stable | exact hQ.out | exact dP_stable _ _ _ | exact blkP_stable _ _ _ | exact rowP_stable _ _ _ _ _ | apply Stable.star)) hr hg (by simpa using hloc)
          rw [EL.out, HL4.out] at H11
          have hr2 := H11.row
          obtain ⟨A7, c7, rfl, _, _⟩ := hr2.form
          have H12 := Lib.hid (show Holds B w0 w11 (star (blkP w4.heap.size 33 #[.slice A4 (recP D x).length c4, .bool false, .slice none 0 0, .slice none 0 0]) (star (blkP (w.heap.size + 1) 33 zo4) (star (rowP 62 9 (.slice A7 LL.length c7) LL.length (recs LL)) (star (dP 74 b ⟨x, D.ba, D.sn, putE D.es (setB e x)⟩) (star (blkP w.heap.size 37 #[.int .i64 e.a, .int .i64 e.b, .int .i64 e.c.k, .int .i64 e.c.s, .int .i64 e.c.q, .string e.c.nm, .int .i64 e.c.n]) (star (blkP (w4.heap.size + 1) 37 #[.int .i64 e.a, .int .i64 x, .int .i64 e.c.k, .int .i64 e.c.s, .int .i64 e.c.q, .string e.c.nm, .int .i64 e.c.n]) Q)))))) from H11.perm (by ac_rfl))
          have B12 := blk_at H12.out
          have m0 := B12.cell 0
          have m00 := B12.free 0
          have H13 := Lib.hid (H12.out.setBlk (by repeat (first | exact none_stable | exact hQ.out | exact dP_stable _ _ _ | exact blkP_stable _ _ _ | exact rowP_stable _ _ _ _ _ | apply Stable.star)) 0 (.slice A7 LL.length c7))
          have B13 := blk_at H13.out
          have k0 := B13.cell 0
          have k1 := B13.cell 1
          have k2 := B13.cell 2
          have k3 := B13.cell 3
          have B14 := blk_at H13.out.second
          obtain ⟨r0, g0, r1, g1, r2, g2, r3, g3, q0, q1, q2, q3, p0, p1, p2⟩ := store4 B14 (.slice A7 LL.length c7) (.bool false) (.slice none 0 0) (.slice none 0 0)
          have H15 := Lib.hid (held4 H13.out.second (by repeat (first | exact none_stable | exact hQ.out | exact dP_stable _ _ _ | exact blkP_stable _ _ _ | exact rowP_stable _ _ _ _ _ | apply Stable.star)) (.slice A7 LL.length c7) (.bool false) (.slice none 0 0) (.slice none 0 0))
          clear hr hg hloc H11 hr2 B12 B13 B14 b80 t0 t1 t2 t3 t4 t5 t6 t7 t8 hb1 hb2
          go_wp2_with fail
          refine bodyPost_ret (v := .tuple #[outV A7 LL.length c7, .bool true]) (by simp [results, Try.results22, go_sem, hu, p0, p1, p2, q0, q1, q2, q3]) rfl ?_
          rw [E.out]
          exact ⟨A7, c7, rfl, (H15.out.perm (show _ = star (blkP (w.heap.size + 1) 33 #[.slice A7 LL.length c7, .bool false, .slice none 0 0, .slice none 0 0]) (star (blkP w4.heap.size 33 #[.slice A7 LL.length c7, .bool false, .slice none 0 0, .slice none 0 0]) (star (blkP w.heap.size 37 #[.int .i64 e.a, .int .i64 e.b, .int .i64 e.c.k, .int .i64 e.c.s, .int .i64 e.c.q, .string e.c.nm, .int .i64 e.c.n]) (star (blkP (w4.heap.size + 1) 37 #[.int .i64 e.a, .int .i64 x, .int .i64 e.c.k, .int .i64 e.c.s, .int .i64 e.c.q, .string e.c.nm, .int .i64 e.c.n]) (star (rowP 62 9 (.slice A7 LL.length c7) LL.length (recs LL)) (star (dP 74 b ⟨x, D.ba, D.sn, putE D.es (setB e x)⟩) Q))))) by ac_rfl)).drop.drop.drop.drop⟩
        · go_simp
          refine hK.out _ _ (SA.out _ _ ((Keep.same Nothing _).alloc _) (by first | exact hHeld)) (fun hHeld => ?_)
          clear hK K
          (try simp only [Act.put, List.setIfInBounds_toArray, List.set_cons_zero, List.set_cons_succ])
          refine wpAnyH_ready (rs := [4]) (by kernel_rfl) (by simp) ?_
          refine AllReadyH.cons (o := _) (by simp only [List.getElem?_toArray, List.getElem?_cons_succ, List.getElem?_cons_zero]; rfl) (fun K hK => ?_) AllReadyH.nil
          go_simp
          refine hK.out _ _ (by first | exact hHeld) (fun hHeld => ?_)
          clear hK K
          (try simp only [Act.put, List.setIfInBounds_toArray, List.set_cons_zero, List.set_cons_succ])
          refine wpAnyH_ready (rs := [7]) (by kernel_rfl) (by simp) ?_
          refine AllReadyH.cons (o := _) (by simp only [List.getElem?_toArray, List.getElem?_cons_succ, List.getElem?_cons_zero]; rfl) (fun K hK => ?_) AllReadyH.nil
          go_simp
          refine HI.out.mono ?_
          rintro e2 w8 ⟨A8, c8, rfl, hr8, hk8, ho8⟩
          have TK := Lib.hid (d_takeT (D' := ⟨x, D.ba, D.sn, putE D.es (setB e x)⟩) WA0.out (by repeat (first | exact none_stable | exact hQ.out | exact dP_stable _ _ _ | exact blkP_stable _ _ _ | exact rowP_stable _ _ _ _ _ | apply Stable.star)) hk8 hr8 ho8)
          obtain ⟨v8, hb8⟩ := TK.out.1
          obtain ⟨r0, g0, r1, g1, r2, g2, r3, g3, q0, q1, q2, q3, p0, p1, p2⟩ := store4 hb8 (.int .i64 x) (.int .i64 D.ba) (.string D.sn) (.slice A8 (putE D.es (setB e x)).length c8)
          have hH8 := SA.out _ _ hk8 (SA.out _ _ (((Keep.same Nothing _).alloc (.cells #[.int .i64 2, .int .i64 0, .int .i64 e.a, .int .i64 x, .int .i64 e.c.k, .int .i64 e.c.s, .int .i64 e.c.q, .string e.c.nm, .int .i64 e.c.n] 62)).drew) hH0)
          have HH8 := Lib.hid hH8
          (try dsimp only at hH8)
          clear hr8 hk8 ho8 hb8
          (try go_wp2_with fail)
          refine hK.out _ _ (hH8) (fun hHeld => ?_)
          clear hK K
          (try simp only [Act.put, List.setIfInBounds_toArray, List.set_cons_zero, List.set_cons_succ])
          refine wpAnyH_take (i := 8) (oi := _) (v := ?_) (by simp only [List.getElem?_toArray, List.getElem?_cons_succ, List.getElem?_cons_zero]; rfl) (by kernel_rfl) (by kernel_rfl) (by kernel_rfl) (fun _ _ _ h => h) (Or.inl ⟨by rfl, ?_⟩) (by assumption) ?_
          rotate_left
          · (intro w hSw; (try dsimp only at hSw); go_simp; (try with_reducible rfl))
          (try simp only [Act.put, List.setIfInBounds_toArray, List.set_cons_zero, List.set_cons_succ])
          refine wpAnyH_take (i := 9) (oi := _) (v := ?_) (by simp only [List.getElem?_toArray, List.getElem?_cons_succ, List.getElem?_cons_zero]; rfl) (by kernel_rfl) (by kernel_rfl) (by kernel_rfl) (fun _ _ _ h => h) (Or.inl ⟨by rfl, ?_⟩) (by assumption) ?_
          rotate_left
          · (intro w hSw; (try dsimp only at hSw); go_simp; (try with_reducible rfl))
          (try simp only [Act.put, List.setIfInBounds_toArray, List.set_cons_zero, List.set_cons_succ])
          refine wpAnyH_ready (rs := [10]) (by kernel_rfl) (by simp) ?_
          refine AllReadyH.cons (o := _) (by simp only [List.getElem?_toArray, List.getElem?_cons_succ, List.getElem?_cons_zero]; rfl) (fun K hK => ?_) AllReadyH.nil
          go_simp
          refine hK.out _ _ (SF.out _ 3 _ (SF.out _ 2 _ (SF.out _ 1 _ (SF.out _ 0 _ HH8.out)))) (fun hHeld => ?_)
          clear hK K
          (try simp only [Act.put, List.setIfInBounds_toArray, List.set_cons_zero, List.set_cons_succ])
          refine wpAnyH_done (by kernel_rfl) ?_ _
          refine NoPanic.normal ?_
          have HT := Lib.hid (SF.out _ 3 (.slice A8 (putE D.es (setB e x)).length c8) (SF.out _ 2 (.string D.sn) (SF.out _ 1 (.int .i64 D.ba) (SF.out _ 0 (.int .i64 x) HH8.out))))
          obtain ⟨t0, t1, t2, t3, t4, t5, t6, t7, t8⟩ := HT.out
          have H10 := Lib.hid TK.out.2
          clear r0 g0 r1 g1 r2 g2 r3 g3 q0 q1 q2 q3 p0 p1 p2 a0 a1 a2 a3 d0 d1x d2 d3 hH0 hH8
          obtain ⟨W10, hW10⟩ : ∃ W10, ((((w8.setCell ⟨b, 0, none⟩ (.int .i64 x)).setCell ⟨b, 1, none⟩ (.int .i64 D.ba)).setCell ⟨b, 2, none⟩ (.string D.sn)).setCell ⟨b, 3, none⟩ (.slice A8 (putE D.es (setB e x)).length c8)) = W10 := ⟨_, rfl⟩
          rw [hW10] at H10 t0 t1 t2 t3 t4 t5 t6 t7 t8 ⊢
          clear hW10 HT
          obtain ⟨LL, hLL⟩ : ∃ LL, recP D x ++ [(⟨2, 0, setB e x⟩ : Rc)] = LL := ⟨_, rfl⟩
          have RQ := Lib.hid (show Holds B w0 W10 (star (rowP 62 9 (.slice A4 (recP D x).length c4) (recP D x).length (recs (recP D x))) (star (blkP w4.heap.size 33 #[.slice A4 (recP D x).length c4, .bool false, .slice none 0 0, .slice none 0 0]) (star (blkP (w.heap.size + 1) 33 zo4) (star (dP 74 b ⟨x, D.ba, D.sn, putE D.es (setB e x)⟩) (star (blkP w.heap.size 37 #[.int .i64 e.a, .int .i64 e.b, .int .i64 e.c.k, .int .i64 e.c.s, .int .i64 e.c.q, .string e.c.nm, .int .i64 e.c.n]) (star (blkP (w4.heap.size + 1) 37 #[.int .i64 e.a, .int .i64 x, .int .i64 e.c.k, .int .i64 e.c.s, .int .i64 e.c.q, .string e.c.nm, .int .i64 e.c.n]) Q)))))) from H10.out.perm (by ac_rfl))
          have hrl := recP_len D x
          have B8 := blk_at RQ.out.second
          have b80 := B8.cell 0
          have R11 := Lib.hid (RQ.out.row.alloc (.cells #[.int .i64 2, .int .i64 0, .int .i64 e.a, .int .i64 x, .int .i64 e.c.k, .int .i64 e.c.s, .int .i64 e.c.q, .string e.c.nm, .int .i64 e.c.n] 62))
          have hb1 : (recP D x).length + 1 ≤ maxLen := by unfold maxLen; omega
          have hb2 : ((recP D x).length + 1) * 80 ≤ 140737488355328 := by omega
          have HL3 : (recP D x).length + 1 = LL.length := by rw [← hLL]; simp
          have EL := Lib.hid (show recs (recP D x) ++ #[.int .i64 2, .int .i64 0, .int .i64 e.a, .int .i64 x, .int .i64 e.c.k, .int .i64 e.c.s, .int .i64 e.c.q, .string e.c.nm, .int .i64 e.c.n].toList = recs LL by rw [← hLL, recs_app, recs_one1]; rfl)
          rw [hLL] at E
          have HL4 := Lib.hid HL3
          clear B8 hLL HL3
          go_wp2_with (at_builtin; refine wpList_app _ rfl EC (.tmp 77) (.tmp 79) rfl R11.out (Src.fresh _ #[.int .i64 2, .int .i64 0, .int .i64 e.a, .int .i64 x, .int .i64 e.c.k, .int .i64 e.c.s, .int .i64 e.c.q, .string e.c.nm, .int .i64 e.c.n] 62 9 1 rfl) 1 rfl (by simp [Act.eval, Act.put]) (by simp [Value.oneCell']) hb1 hb2 ?_)
          intro v11 w11 hr hg hloc
          have H11 := (RQ.out.alloc (by repeat (first | exact none_stable | exact hQ.out | exact dP_stable _ _ _ | exact blkP_stable _ _ _ | exact rowP_stable _ _ _ _ _ | apply Stable.star)) (.cells #[.int .i64 2, .int .i64 0, .int .i64 e.a, .int .i64 x, .int .i64 e.c.k, .int .i64 e.c.s, .int .i64 e.c.q, .string e.c.nm, .int .i64 e.c.n] 62)).grew (by repeat (first | exact none_stable | exact hQ.out | exact dP_stable _ _ _ | exact blkP_stable _ _ _ | exact rowP_stable _ _ _ _ _ | apply Stable.star)) hr hg (by simpa using hloc)
          rw [EL.out, HL4.out] at H11
          have hr2 := H11.row
          obtain ⟨A7, c7, rfl, _, _⟩ := hr2.form
          have H12 := Lib.hid (show Holds B w0 w11 (star (blkP w4.heap.size 33 #[.slice A4 (recP D x).length c4, .bool false, .slice none 0 0, .slice none 0 0]) (star (blkP (w.heap.size + 1) 33 zo4) (star (rowP 62 9 (.slice A7 LL.length c7) LL.length (recs LL)) (star (dP 74 b ⟨x, D.ba, D.sn, putE D.es (setB e x)⟩) (star (blkP w.heap.size 37 #[.int .i64 e.a, .int .i64 e.b, .int .i64 e.c.k, .int .i64 e.c.s, .int .i64 e.c.q, .string e.c.nm, .int .i64 e.c.n]) (star (blkP (w4.heap.size + 1) 37 #[.int .i64 e.a, .int .i64 x, .int .i64 e.c.k, .int .i64 e.c.s, .int .i64 e.c.q, .string e.c.nm, .int .i64 e.c.n]) Q)))))) from H11.perm (by ac_rfl))
          have B12 := blk_at H12.out
          have m0 := B12.cell 0
          have m00 := B12.free 0
          have H13 := Lib.hid (H12.out.setBlk (by repeat (first | exact none_stable | exact hQ.out | exact dP_stable _ _ _ | exact blkP_stable _ _ _ | exact rowP_stable _ _ _ _ _ | apply Stable.star)) 0 (.slice A7 LL.length c7))
          have B13 := blk_at H13.out
          have k0 := B13.cell 0
          have k1 := B13.cell 1
          have k2 := B13.cell 2
          have k3 := B13.cell 3
          have B14 := blk_at H13.out.second
          obtain ⟨r0, g0, r1, g1, r2, g2, r3, g3, q0, q1, q2, q3, p0, p1, p2⟩ := store4 B14 (.slice A7 LL.length c7) (.bool false) (.slice none 0 0) (.slice none 0 0)
          have H15 := Lib.hid (held4 H13.out.second (by repeat (first | exact none_stable | exact hQ.out | exact dP_stable _ _ _ | exact blkP_stable _ _ _ | exact rowP_stable _ _ _ _ _ | apply Stable.star)) (.slice A7 LL.length c7) (.bool false) (.slice none 0 0) (.slice none 0 0))
          clear hr hg hloc H11 hr2 B12 B13 B14 b80 t0 t1 t2 t3 t4 t5 t6 t7 t8 hb1 hb2
          go_wp2_with fail
          refine bodyPost_ret (v := .tuple #[outV A7 LL.length c7, .bool true]) (by simp [results, Try.results22, go_sem, hu, p0, p1, p2, q0, q1, q2, q3]) rfl ?_
          rw [E.out]
          exact ⟨A7, c7, rfl, (H15.out.perm (show _ = star (blkP (w.heap.size + 1) 33 #[.slice A7 LL.length c7, .bool false, .slice none 0 0, .slice none 0 0]) (star (blkP w4.heap.size 33 #[.slice A7 LL.length c7, .bool false, .slice none 0 0, .slice none 0 0]) (star (blkP w.heap.size 37 #[.int .i64 e.a, .int .i64 e.b, .int .i64 e.c.k, .int .i64 e.c.s, .int .i64 e.c.q, .string e.c.nm, .int .i64 e.c.n]) (star (blkP (w4.heap.size + 1) 37 #[.int .i64 e.a, .int .i64 x, .int .i64 e.c.k, .int .i64 e.c.s, .int .i64 e.c.q, .string e.c.nm, .int .i64 e.c.n]) (star (rowP 62 9 (.slice A7 LL.length c7) LL.length (recs LL)) (star (dP 74 b ⟨x, D.ba, D.sn, putE D.es (setB e x)⟩) Q))))) by ac_rfl)).drop.drop.drop.drop⟩
      | true =>
        cases he : eqE old (setB e x) with
        | false =>
          unfold setB at he
          rw [he] at hq
          rw [hb, show eqE old (setB e x) = false from he, if_pos (by decide)] at E
          clear he
          go_wp2_with fail
          go_quiet (fail)
          clear hq
          have WA0 := Lib.hid ((((HO.out.drewN (by repeat (first | exact none_stable | exact hQ.out | exact dP_stable _ _ _ | exact blkP_stable _ _ _ | exact rowP_stable _ _ _ _ _ | apply Stable.star)) nq).alloc (by repeat (first | exact none_stable | exact hQ.out | exact dP_stable _ _ _ | exact blkP_stable _ _ _ | exact rowP_stable _ _ _ _ _ | apply Stable.star)) (.cells #[.int .i64 2, .int .i64 0, .int .i64 e.a, .int .i64 x, .int .i64 e.c.k, .int .i64 e.c.s, .int .i64 e.c.q, .string e.c.nm, .int .i64 e.c.n] 62)).alloc (by repeat (first | exact none_stable | exact hQ.out | exact dP_stable _ _ _ | exact blkP_stable _ _ _ | exact rowP_stable _ _ _ _ _ | apply Stable.star)) (.cells #[.int .i64 2, .int .i64 0, .int .i64 e.a, .int .i64 x, .int .i64 e.c.k, .int .i64 e.c.s, .int .i64 e.c.q, .string e.c.nm, .int .i64 e.c.n] 62)).kept (by repeat (first | exact none_stable | exact hQ.out | exact dP_stable _ _ _ | exact blkP_stable _ _ _ | exact rowP_stable _ _ _ _ _ | apply Stable.star)) ((Keep.same Nothing _).drew))
          have Z9 := Blk.fresh ((w6.alloc (.cells #[.int .i64 old.a, .int .i64 old.b, .int .i64 old.c.k, .int .i64 old.c.s, .int .i64 old.c.q, .string old.c.nm, .int .i64 old.c.n] 37)).drewN nq) 62 #[.int .i64 2, .int .i64 0, .int .i64 e.a, .int .i64 x, .int .i64 e.c.k, .int .i64 e.c.s, .int .i64 e.c.q, .string e.c.nm, .int .i64 e.c.n]
          rw [show ((w6.alloc (.cells #[.int .i64 old.a, .int .i64 old.b, .int .i64 old.c.k, .int .i64 old.c.s, .int .i64 old.c.q, .string old.c.nm, .int .i64 old.c.n] 37)).drewN nq).heap.size = w6.heap.size + 1 from size_alloc _ _] at Z9
          obtain ⟨F9, v9, hb9, hr9, hF9⟩ := ((HO.out.drewN (by repeat (first | exact none_stable | exact hQ.out | exact dP_stable _ _ _ | exact blkP_stable _ _ _ | exact rowP_stable _ _ _ _ _ | apply Stable.star)) nq).alloc (by repeat (first | exact none_stable | exact hQ.out | exact dP_stable _ _ _ | exact blkP_stable _ _ _ | exact rowP_stable _ _ _ _ _ | apply Stable.star)) (.cells #[.int .i64 2, .int .i64 0, .int .i64 e.a, .int .i64 x, .int .i64 e.c.k, .int .i64 e.c.s, .int .i64 e.c.q, .string e.c.nm, .int .i64 e.c.n] 62)).left
          obtain ⟨A9, c9, rfl, _, _⟩ := hr9.form
          have hb9a := hb9.alloc (.cells #[.int .i64 2, .int .i64 0, .int .i64 e.a, .int .i64 x, .int .i64 e.c.k, .int .i64 e.c.s, .int .i64 e.c.q, .string e.c.nm, .int .i64 e.c.n] 62)
          have hr9a := Lib.hid ((hr9.alloc (.cells #[.int .i64 2, .int .i64 0, .int .i64 e.a, .int .i64 x, .int .i64 e.c.k, .int .i64 e.c.s, .int .i64 e.c.q, .string e.c.nm, .int .i64 e.c.n] 62)).keep ((Keep.same Nothing _).drew) (fun _ _ h => h))
          have LB := Lib.hid (show b < w6.heap.size from (by
            obtain ⟨_, _, hbb, _⟩ := H6.out.left
            exact hbb.lt))
          have SRC := Lib.hid (show U.Src ((((w6.alloc (.cells #[.int .i64 old.a, .int .i64 old.b, .int .i64 old.c.k, .int .i64 old.c.s, .int .i64 old.c.q, .string old.c.nm, .int .i64 old.c.n] 37)).drewN nq).alloc (.cells #[.int .i64 2, .int .i64 0, .int .i64 e.a, .int .i64 x, .int .i64 e.c.k, .int .i64 e.c.s, .int .i64 e.c.q, .string e.c.nm, .int .i64 e.c.n] 62)).alloc (.cells #[.int .i64 2, .int .i64 0, .int .i64 e.a, .int .i64 x, .int .i64 e.c.k, .int .i64 e.c.s, .int .i64 e.c.q, .string e.c.nm, .int .i64 e.c.n] 62)).drew (some ⟨(((w6.alloc (.cells #[.int .i64 old.a, .int .i64 old.b, .int .i64 old.c.k, .int .i64 old.c.s, .int .i64 old.c.q, .string old.c.nm, .int .i64 old.c.n] 37)).drewN nq).alloc (.cells #[.int .i64 2, .int .i64 0, .int .i64 e.a, .int .i64 x, .int .i64 e.c.k, .int .i64 e.c.s, .int .i64 e.c.q, .string e.c.nm, .int .i64 e.c.n] 62)).heap.size, 0, none⟩) 9 1 (recs [⟨2, 0, setB e x⟩]) from U.Src.fresh (((w6.alloc (.cells #[.int .i64 old.a, .int .i64 old.b, .int .i64 old.c.k, .int .i64 old.c.s, .int .i64 old.c.q, .string old.c.nm, .int .i64 old.c.n] 37)).drewN nq).alloc (.cells #[.int .i64 2, .int .i64 0, .int .i64 e.a, .int .i64 x, .int .i64 e.c.k, .int .i64 e.c.s, .int .i64 e.c.q, .string e.c.nm, .int .i64 e.c.n] 62)) #[.int .i64 2, .int .i64 0, .int .i64 e.a, .int .i64 x, .int .i64 e.c.k, .int .i64 e.c.s, .int .i64 e.c.q, .string e.c.nm, .int .i64 e.c.n] 62 9 1 rfl)
          rw [show (((w6.alloc (.cells #[.int .i64 old.a, .int .i64 old.b, .int .i64 old.c.k, .int .i64 old.c.s, .int .i64 old.c.q, .string old.c.nm, .int .i64 old.c.n] 37)).drewN nq).alloc (.cells #[.int .i64 2, .int .i64 0, .int .i64 e.a, .int .i64 x, .int .i64 e.c.k, .int .i64 e.c.s, .int .i64 e.c.q, .string e.c.nm, .int .i64 e.c.n] 62)).heap.size = w6.heap.size + 1 + 1 by rw [size_alloc]; show (w6.alloc (.cells #[.int .i64 old.a, .int .i64 old.b, .int .i64 old.c.k, .int .i64 old.c.s, .int .i64 old.c.q, .string old.c.nm, .int .i64 old.c.n] 37)).heap.size + 1 = _; rw [size_alloc]] at SRC
          have EQ := Lib.hid (show foldL ⟨x, D.ba, D.sn, D.es⟩ [⟨2, 0, setB e x⟩] = ⟨x, D.ba, D.sn, putE D.es (setB e x)⟩ by
            have h3 : ¬ (setB e x).a ≤ D.ba := by have := of_decide_eq_true hb; show ¬ e.a ≤ D.ba; omega
            simp [foldL, foldR, mx, setB, h3] at h3 ⊢
            intro h4
            omega)
          have HI := Lib.hid (fold14 _ ⟨x, D.ba, D.sn, D.es⟩ A9 c9 hr9a.out.src (by show D.es.length ≤ 500000; omega) (some ⟨w6.heap.size + 1 + 1, 0, none⟩) 1 1 [⟨2, 0, setB e x⟩] SRC.out (by omega))
          rw [EQ.out] at HI
          have d0 := hb9.cell 0
          have d1x := hb9.cell 1
          have d2 := hb9.cell 2
          have d3 := hb9.cell 3
          have a0 := hb9a.cell 0
          have a1 := hb9a.cell 1
          have a2 := hb9a.cell 2
          have a3 := hb9a.cell 3
          have hH0 : (fun w' : World => w'.cell? ⟨w6.heap.size + 1, 0, none⟩ = some (.int .i64 2) ∧ w'.cell? ⟨w6.heap.size + 1, 1, none⟩ = some (.int .i64 0) ∧ w'.cell? ⟨w6.heap.size + 1, 2, none⟩ = some (.int .i64 e.a) ∧ w'.cell? ⟨w6.heap.size + 1, 3, none⟩ = some (.int .i64 x) ∧ w'.cell? ⟨w6.heap.size + 1, 4, none⟩ = some (.int .i64 e.c.k) ∧ w'.cell? ⟨w6.heap.size + 1, 5, none⟩ = some (.int .i64 e.c.s) ∧ w'.cell? ⟨w6.heap.size + 1, 6, none⟩ = some (.int .i64 e.c.q) ∧ w'.cell? ⟨w6.heap.size + 1, 7, none⟩ = some (.string e.c.nm) ∧ w'.cell? ⟨w6.heap.size + 1, 8, none⟩ = some (.int .i64 e.c.n)) (((w6.alloc (.cells #[.int .i64 old.a, .int .i64 old.b, .int .i64 old.c.k, .int .i64 old.c.s, .int .i64 old.c.q, .string old.c.nm, .int .i64 old.c.n] 37)).drewN nq).alloc (.cells #[.int .i64 2, .int .i64 0, .int .i64 e.a, .int .i64 x, .int .i64 e.c.k, .int .i64 e.c.s, .int .i64 e.c.q, .string e.c.nm, .int .i64 e.c.n] 62)) := ⟨Z9.cell 0, Z9.cell 1, Z9.cell 2, Z9.cell 3, Z9.cell 4, Z9.cell 5, Z9.cell 6, Z9.cell 7, Z9.cell 8⟩
          have NB := Lib.hid (show w6.heap.size + 1 ≠ b from fun h => by have := LB.out; omega)
          have SF := Lib.hid (show ∀ (X : World) (i : Nat) (u : Value), (fun w' : World => w'.cell? ⟨w6.heap.size + 1, 0, none⟩ = some (.int .i64 2) ∧ w'.cell? ⟨w6.heap.size + 1, 1, none⟩ = some (.int .i64 0) ∧ w'.cell? ⟨w6.heap.size + 1, 2, none⟩ = some (.int .i64 e.a) ∧ w'.cell? ⟨w6.heap.size + 1, 3, none⟩ = some (.int .i64 x) ∧ w'.cell? ⟨w6.heap.size + 1, 4, none⟩ = some (.int .i64 e.c.k) ∧ w'.cell? ⟨w6.heap.size + 1, 5, none⟩ = some (.int .i64 e.c.s) ∧ w'.cell? ⟨w6.heap.size + 1, 6, none⟩ = some (.int .i64 e.c.q) ∧ w'.cell? ⟨w6.heap.size + 1, 7, none⟩ = some (.string e.c.nm) ∧ w'.cell? ⟨w6.heap.size + 1, 8, none⟩ = some (.int .i64 e.c.n)) X → (fun w' : World => w'.cell? ⟨w6.heap.size + 1, 0, none⟩ = some (.int .i64 2) ∧ w'.cell? ⟨w6.heap.size + 1, 1, none⟩ = some (.int .i64 0) ∧ w'.cell? ⟨w6.heap.size + 1, 2, none⟩ = some (.int .i64 e.a) ∧ w'.cell? ⟨w6.heap.size + 1, 3, none⟩ = some (.int .i64 x) ∧ w'.cell? ⟨w6.heap.size + 1, 4, none⟩ = some (.int .i64 e.c.k) ∧ w'.cell? ⟨w6.heap.size + 1, 5, none⟩ = some (.int .i64 e.c.s) ∧ w'.cell? ⟨w6.heap.size + 1, 6, none⟩ = some (.int .i64 e.c.q) ∧ w'.cell? ⟨w6.heap.size + 1, 7, none⟩ = some (.string e.c.nm) ∧ w'.cell? ⟨w6.heap.size + 1, 8, none⟩ = some (.int .i64 e.c.n)) (X.setCell ⟨b, i, none⟩ u) from fun X i u h => ⟨(cell_far X b i u _ _ NB.out).trans h.1, (cell_far X b i u _ _ NB.out).trans h.2.1, (cell_far X b i u _ _ NB.out).trans h.2.2.1, (cell_far X b i u _ _ NB.out).trans h.2.2.2.1, (cell_far X b i u _ _ NB.out).trans h.2.2.2.2.1, (cell_far X b i u _ _ NB.out).trans h.2.2.2.2.2.1, (cell_far X b i u _ _ NB.out).trans h.2.2.2.2.2.2.1, (cell_far X b i u _ _ NB.out).trans h.2.2.2.2.2.2.2.1, (cell_far X b i u _ _ NB.out).trans h.2.2.2.2.2.2.2.2⟩)
          have SA := Lib.hid (show ∀ (X Y : World), Keep Nothing X Y → (fun w' : World => w'.cell? ⟨w6.heap.size + 1, 0, none⟩ = some (.int .i64 2) ∧ w'.cell? ⟨w6.heap.size + 1, 1, none⟩ = some (.int .i64 0) ∧ w'.cell? ⟨w6.heap.size + 1, 2, none⟩ = some (.int .i64 e.a) ∧ w'.cell? ⟨w6.heap.size + 1, 3, none⟩ = some (.int .i64 x) ∧ w'.cell? ⟨w6.heap.size + 1, 4, none⟩ = some (.int .i64 e.c.k) ∧ w'.cell? ⟨w6.heap.size + 1, 5, none⟩ = some (.int .i64 e.c.s) ∧ w'.cell? ⟨w6.heap.size + 1, 6, none⟩ = some (.int .i64 e.c.q) ∧ w'.cell? ⟨w6.heap.size + 1, 7, none⟩ = some (.string e.c.nm) ∧ w'.cell? ⟨w6.heap.size + 1, 8, none⟩ = some (.int .i64 e.c.n)) X → (fun w' : World => w'.cell? ⟨w6.heap.size + 1, 0, none⟩ = some (.int .i64 2) ∧ w'.cell? ⟨w6.heap.size + 1, 1, none⟩ = some (.int .i64 0) ∧ w'.cell? ⟨w6.heap.size + 1, 2, none⟩ = some (.int .i64 e.a) ∧ w'.cell? ⟨w6.heap.size + 1, 3, none⟩ = some (.int .i64 x) ∧ w'.cell? ⟨w6.heap.size + 1, 4, none⟩ = some (.int .i64 e.c.k) ∧ w'.cell? ⟨w6.heap.size + 1, 5, none⟩ = some (.int .i64 e.c.s) ∧ w'.cell? ⟨w6.heap.size + 1, 6, none⟩ = some (.int .i64 e.c.q) ∧ w'.cell? ⟨w6.heap.size + 1, 7, none⟩ = some (.string e.c.nm) ∧ w'.cell? ⟨w6.heap.size + 1, 8, none⟩ = some (.int .i64 e.c.n)) Y from fun X Y k h => ⟨k.cell h.1 (fun h => h), k.cell h.2.1 (fun h => h), k.cell h.2.2.1 (fun h => h), k.cell h.2.2.2.1 (fun h => h), k.cell h.2.2.2.2.1 (fun h => h), k.cell h.2.2.2.2.2.1 (fun h => h), k.cell h.2.2.2.2.2.2.1 (fun h => h), k.cell h.2.2.2.2.2.2.2.1 (fun h => h), k.cell h.2.2.2.2.2.2.2.2 (fun h => h)⟩)
          dsimp only at hH0
          clear hb9 hr9 hF9 hb9a d1 Z9 hb
          go_wp2_with fail
          clear n0 n1 n2 n3 n4 n5 n6
          refine wp_region_noPanic ?_
          refine wp_region_held_drew (S := (fun w' : World => w'.cell? ⟨w6.heap.size + 1, 0, none⟩ = some (.int .i64 2) ∧ w'.cell? ⟨w6.heap.size + 1, 1, none⟩ = some (.int .i64 0) ∧ w'.cell? ⟨w6.heap.size + 1, 2, none⟩ = some (.int .i64 e.a) ∧ w'.cell? ⟨w6.heap.size + 1, 3, none⟩ = some (.int .i64 x) ∧ w'.cell? ⟨w6.heap.size + 1, 4, none⟩ = some (.int .i64 e.c.k) ∧ w'.cell? ⟨w6.heap.size + 1, 5, none⟩ = some (.int .i64 e.c.s) ∧ w'.cell? ⟨w6.heap.size + 1, 6, none⟩ = some (.int .i64 e.c.q) ∧ w'.cell? ⟨w6.heap.size + 1, 7, none⟩ = some (.string e.c.nm) ∧ w'.cell? ⟨w6.heap.size + 1, 8, none⟩ = some (.int .i64 e.c.n))) (by kernel_rfl) hH0 (fun hHeld => ?_)
          refine wpAnyH_take (i := 0) (oi := _) (v := ?_) (by simp only [List.getElem?_toArray, List.getElem?_cons_succ, List.getElem?_cons_zero]; rfl) (by kernel_rfl) (by kernel_rfl) (by kernel_rfl) (fun _ _ _ h => h) (Or.inl ⟨by rfl, ?_⟩) (by assumption) ?_
          rotate_left
          · (intro w hSw; (try dsimp only at hSw); go_simp; (try with_reducible rfl))
          (try simp only [Act.put, List.setIfInBounds_toArray, List.set_cons_zero, List.set_cons_succ])
          refine wpAnyH_take (i := 1) (oi := _) (v := ?_) (by simp only [List.getElem?_toArray, List.getElem?_cons_succ, List.getElem?_cons_zero]; rfl) (by kernel_rfl) (by kernel_rfl) (by kernel_rfl) (fun _ _ _ h => h) (Or.inl ⟨by rfl, ?_⟩) (by assumption) ?_
          rotate_left
          · (intro w hSw; (try dsimp only at hSw); go_simp; (try with_reducible rfl))
          (try simp only [Act.put, List.setIfInBounds_toArray, List.set_cons_zero, List.set_cons_succ])
          refine wpAnyH_take (i := 2) (oi := _) (v := ?_) (by simp only [List.getElem?_toArray, List.getElem?_cons_succ, List.getElem?_cons_zero]; rfl) (by kernel_rfl) (by kernel_rfl) (by kernel_rfl) (fun _ _ _ h => h) (Or.inl ⟨by rfl, ?_⟩) (by assumption) ?_
          rotate_left
          · (intro w hSw; (try dsimp only at hSw); go_simp; (try with_reducible rfl))
          (try simp only [Act.put, List.setIfInBounds_toArray, List.set_cons_zero, List.set_cons_succ])
          refine wpAnyH_take (i := 3) (oi := _) (v := ?_) (by simp only [List.getElem?_toArray, List.getElem?_cons_succ, List.getElem?_cons_zero]; rfl) (by kernel_rfl) (by kernel_rfl) (by kernel_rfl) (fun _ _ _ h => h) (Or.inl ⟨by rfl, ?_⟩) (by assumption) ?_
          rotate_left
          · (intro w hSw; (try dsimp only at hSw); go_simp; (try with_reducible rfl))
          (try simp only [Act.put, List.setIfInBounds_toArray, List.set_cons_zero, List.set_cons_succ])
          refine wpAnyH_take (i := 5) (oi := _) (v := ?_) (by simp only [List.getElem?_toArray, List.getElem?_cons_succ, List.getElem?_cons_zero]; rfl) (by kernel_rfl) (by kernel_rfl) (by kernel_rfl) (fun _ _ _ h => h) (Or.inl ⟨by rfl, ?_⟩) (by assumption) ?_
          rotate_left
          · (intro w hSw; (try dsimp only at hSw); obtain ⟨s0, s1, s2, s3, s4, s5, s6, s7, s8⟩ := hSw; go_simp; (try with_reducible rfl))
          (try simp only [Act.put, List.setIfInBounds_toArray, List.set_cons_zero, List.set_cons_succ])
          refine wpAnyH_ready (rs := [4, 6]) (by kernel_rfl) (by simp) ?_
          refine AllReadyH.cons (o := _) (by simp only [List.getElem?_toArray, List.getElem?_cons_succ, List.getElem?_cons_zero]; rfl) (fun K hK => ?_) (AllReadyH.cons (o := _) (by simp only [List.getElem?_toArray, List.getElem?_cons_succ, List.getElem?_cons_zero]; rfl) (fun K hK => ?_) AllReadyH.nil)
          · go_simp
            refine hK.out _ _ (by first | exact hHeld) (fun hHeld => ?_)
            clear hK K
            (try simp only [Act.put, List.setIfInBounds_toArray, List.set_cons_zero, List.set_cons_succ])
            refine wpAnyH_ready (rs := [6]) (by kernel_rfl) (by simp) ?_
            refine AllReadyH.cons (o := _) (by simp only [List.getElem?_toArray, List.getElem?_cons_succ, List.getElem?_cons_zero]; rfl) (fun K hK => ?_) AllReadyH.nil
            go_simp
            refine hK.out _ _ (SA.out _ _ ((Keep.same Nothing _).alloc _) (by first | exact hHeld)) (fun hHeld => ?_)
            clear hK K
            (try simp only [Act.put, List.setIfInBounds_toArray, List.set_cons_zero, List.set_cons_succ])
            refine wpAnyH_ready (rs := [7]) (by kernel_rfl) (by simp) ?_
            refine AllReadyH.cons (o := _) (by simp only [List.getElem?_toArray, List.getElem?_cons_succ, List.getElem?_cons_zero]; rfl) (fun K hK => ?_) AllReadyH.nil
            go_simp
            refine HI.out.mono ?_
            rintro e2 w8 ⟨A8, c8, rfl, hr8, hk8, ho8⟩
            have TK := Lib.hid (d_takeT (D' := ⟨x, D.ba, D.sn, putE D.es (setB e x)⟩) WA0.out (by repeat (first | exact none_stable | exact hQ.out | exact dP_stable _ _ _ | exact blkP_stable _ _ _ | exact rowP_stable _ _ _ _ _ | apply Stable.star)) hk8 hr8 ho8)
            obtain ⟨v8, hb8⟩ := TK.out.1
            obtain ⟨r0, g0, r1, g1, r2, g2, r3, g3, q0, q1, q2, q3, p0, p1, p2⟩ := store4 hb8 (.int .i64 x) (.int .i64 D.ba) (.string D.sn) (.slice A8 (putE D.es (setB e x)).length c8)
            have hH8 := SA.out _ _ hk8 (SA.out _ _ (((Keep.same Nothing _).alloc (.cells #[.int .i64 2, .int .i64 0, .int .i64 e.a, .int .i64 x, .int .i64 e.c.k, .int .i64 e.c.s, .int .i64 e.c.q, .string e.c.nm, .int .i64 e.c.n] 62)).drew) hH0)
            have HH8 := Lib.hid hH8
            (try dsimp only at hH8)
            clear hr8 hk8 ho8 hb8
            (try go_wp2_with fail)
            refine hK.out _ _ (hH8) (fun hHeld => ?_)
            clear hK K
            (try simp only [Act.put, List.setIfInBounds_toArray, List.set_cons_zero, List.set_cons_succ])
            refine wpAnyH_take (i := 8) (oi := _) (v := ?_) (by simp only [List.getElem?_toArray, List.getElem?_cons_succ, List.getElem?_cons_zero]; rfl) (by kernel_rfl) (by kernel_rfl) (by kernel_rfl) (fun _ _ _ h => h) (Or.inl ⟨by rfl, ?_⟩) (by assumption) ?_
            rotate_left
            · (intro w hSw; (try dsimp only at hSw); go_simp; (try with_reducible rfl))
            (try simp only [Act.put, List.setIfInBounds_toArray, List.set_cons_zero, List.set_cons_succ])
            refine wpAnyH_take (i := 9) (oi := _) (v := ?_) (by simp only [List.getElem?_toArray, List.getElem?_cons_succ, List.getElem?_cons_zero]; rfl) (by kernel_rfl) (by kernel_rfl) (by kernel_rfl) (fun _ _ _ h => h) (Or.inl ⟨by rfl, ?_⟩) (by assumption) ?_
            rotate_left
            · (intro w hSw; (try dsimp only at hSw); go_simp; (try with_reducible rfl))
            (try simp only [Act.put, List.setIfInBounds_toArray, List.set_cons_zero, List.set_cons_succ])
            refine wpAnyH_ready (rs := [10]) (by kernel_rfl) (by simp) ?_
            refine AllReadyH.cons (o := _) (by simp only [List.getElem?_toArray, List.getElem?_cons_succ, List.getElem?_cons_zero]; rfl) (fun K hK => ?_) AllReadyH.nil
            go_simp
            refine hK.out _ _ (SF.out _ 3 _ (SF.out _ 2 _ (SF.out _ 1 _ (SF.out _ 0 _ HH8.out)))) (fun hHeld => ?_)
            clear hK K
            (try simp only [Act.put, List.setIfInBounds_toArray, List.set_cons_zero, List.set_cons_succ])
            refine wpAnyH_done (by kernel_rfl) ?_ _
            refine NoPanic.normal ?_
            have HT := Lib.hid (SF.out _ 3 (.slice A8 (putE D.es (setB e x)).length c8) (SF.out _ 2 (.string D.sn) (SF.out _ 1 (.int .i64 D.ba) (SF.out _ 0 (.int .i64 x) HH8.out))))
            obtain ⟨t0, t1, t2, t3, t4, t5, t6, t7, t8⟩ := HT.out
            have H10 := Lib.hid TK.out.2
            clear r0 g0 r1 g1 r2 g2 r3 g3 q0 q1 q2 q3 p0 p1 p2 a0 a1 a2 a3 d0 d1x d2 d3 hH0 hH8
            obtain ⟨W10, hW10⟩ : ∃ W10, ((((w8.setCell ⟨b, 0, none⟩ (.int .i64 x)).setCell ⟨b, 1, none⟩ (.int .i64 D.ba)).setCell ⟨b, 2, none⟩ (.string D.sn)).setCell ⟨b, 3, none⟩ (.slice A8 (putE D.es (setB e x)).length c8)) = W10 := ⟨_, rfl⟩
            rw [hW10] at H10 t0 t1 t2 t3 t4 t5 t6 t7 t8 ⊢
            clear hW10 HT
            obtain ⟨LL, hLL⟩ : ∃ LL, recP D x ++ [(⟨2, 0, setB e x⟩ : Rc)] = LL := ⟨_, rfl⟩
            have RQ := Lib.hid (show Holds B w0 W10 (star (rowP 62 9 (.slice A4 (recP D x).length c4) (recP D x).length (recs (recP D x))) (star (blkP w4.heap.size 33 #[.slice A4 (recP D x).length c4, .bool false, .slice none 0 0, .slice none 0 0]) (star (blkP (w.heap.size + 1) 33 zo4) (star (dP 74 b ⟨x, D.ba, D.sn, putE D.es (setB e x)⟩) (star (blkP w.heap.size 37 #[.int .i64 e.a, .int .i64 e.b, .int .i64 e.c.k, .int .i64 e.c.s, .int .i64 e.c.q, .string e.c.nm, .int .i64 e.c.n]) (star (blkP (w4.heap.size + 1) 37 #[.int .i64 e.a, .int .i64 x, .int .i64 e.c.k, .int .i64 e.c.s, .int .i64 e.c.q, .string e.c.nm, .int .i64 e.c.n]) Q)))))) from H10.out.perm (by ac_rfl))
            have hrl := recP_len D x
            have B8 := blk_at RQ.out.second
            have b80 := B8.cell 0
            have R11 := Lib.hid (RQ.out.row.alloc (.cells #[.int .i64 2, .int .i64 0, .int .i64 e.a, .int .i64 x, .int .i64 e.c.k, .int .i64 e.c.s, .int .i64 e.c.q, .string e.c.nm, .int .i64 e.c.n] 62))
            have hb1 : (recP D x).length + 1 ≤ maxLen := by unfold maxLen; omega
            have hb2 : ((recP D x).length + 1) * 80 ≤ 140737488355328 := by omega
            have HL3 : (recP D x).length + 1 = LL.length := by rw [← hLL]; simp
            have EL := Lib.hid (show recs (recP D x) ++ #[.int .i64 2, .int .i64 0, .int .i64 e.a, .int .i64 x, .int .i64 e.c.k, .int .i64 e.c.s, .int .i64 e.c.q, .string e.c.nm, .int .i64 e.c.n].toList = recs LL by rw [← hLL, recs_app, recs_one1]; rfl)
            rw [hLL] at E
            have HL4 := Lib.hid HL3
            clear B8 hLL HL3
            go_wp2_with (at_builtin; refine wpList_app _ rfl EC (.tmp 77) (.tmp 79) rfl R11.out (Src.fresh _ #[.int .i64 2, .int .i64 0, .int .i64 e.a, .int .i64 x, .int .i64 e.c.k, .int .i64 e.c.s, .int .i64 e.c.q, .string e.c.nm, .int .i64 e.c.n] 62 9 1 rfl) 1 rfl (by simp [Act.eval, Act.put]) (by simp [Value.oneCell']) hb1 hb2 ?_)
            intro v11 w11 hr hg hloc
            have H11 := (RQ.out.alloc (by repeat (first | exact none_stable | exact hQ.out | exact dP_stable _ _ _ | exact blkP_stable _ _ _ | exact rowP_stable _ _ _ _ _ | apply Stable.star)) (.cells #[.int .i64 2, .int .i64 0, .int .i64 e.a, .int .i64 x, .int .i64 e.c.k, .int .i64 e.c.s, .int .i64 e.c.q, .string e.c.nm, .int .i64 e.c.n] 62)).grew (by repeat (first | exact none_stable | exact hQ.out | exact dP_stable _ _ _ | exact blkP_stable _ _ _ | exact rowP_stable _ _ _ _ _ | apply Stable.star)) hr hg (by simpa using hloc)
            rw [EL.out, HL4.out] at H11
            have hr2 := H11.row
            obtain ⟨A7, c7, rfl, _, _⟩ := hr2.form
            have H12 := Lib.hid (show Holds B w0 w11 (star (blkP w4.heap.size 33 #[.slice A4 (recP D x).length c4, .bool false, .slice none 0 0, .slice none 0 0]) (star (blkP (w.heap.size + 1) 33 zo4) (star (rowP 62 9 (.slice A7 LL.length c7) LL.length (recs LL)) (star (dP 74 b ⟨x, D.ba, D.sn, putE D.es (setB e x)⟩) (star (blkP w.heap.size 37 #[.int .i64 e.a, .int .i64 e.b, .int .i64 e.c.k, .int .i64 e.c.s, .int .i64 e.c.q, .string e.c.nm, .int .i64 e.c.n]) (star (blkP (w4.heap.size + 1) 37 #[.int .i64 e.a, .int .i64 x, .int .i64 e.c.k, .int .i64 e.c.s, .int .i64 e.c.q, .string e.c.nm, .int .i64 e.c.n]) Q)))))) from H11.perm (by ac_rfl))
            have B12 := blk_at H12.out
            have m0 := B12.cell 0
            have m00 := B12.free 0
            have H13 := Lib.hid (H12.out.setBlk (by repeat (first | exact none_stable | exact hQ.out | exact dP_stable _ _ _ | exact blkP_stable _ _ _ | exact rowP_stable _ _ _ _ _ | apply Stable.star)) 0 (.slice A7 LL.length c7))
            have B13 := blk_at H13.out
            have k0 := B13.cell 0
            have k1 := B13.cell 1
            have k2 := B13.cell 2
            have k3 := B13.cell 3
            have B14 := blk_at H13.out.second
            obtain ⟨r0, g0, r1, g1, r2, g2, r3, g3, q0, q1, q2, q3, p0, p1, p2⟩ := store4 B14 (.slice A7 LL.length c7) (.bool false) (.slice none 0 0) (.slice none 0 0)
            have H15 := Lib.hid (held4 H13.out.second (by repeat (first | exact none_stable | exact hQ.out | exact dP_stable _ _ _ | exact blkP_stable _ _ _ | exact rowP_stable _ _ _ _ _ | apply Stable.star)) (.slice A7 LL.length c7) (.bool false) (.slice none 0 0) (.slice none 0 0))
            clear hr hg hloc H11 hr2 B12 B13 B14 b80 t0 t1 t2 t3 t4 t5 t6 t7 t8 hb1 hb2
            go_wp2_with fail
            refine bodyPost_ret (v := .tuple #[outV A7 LL.length c7, .bool true]) (by simp [results, Try.results22, go_sem, hu, p0, p1, p2, q0, q1, q2, q3]) rfl ?_
            rw [E.out]
            exact ⟨A7, c7, rfl, (H15.out.perm (show _ = star (blkP (w.heap.size + 1) 33 #[.slice A7 LL.length c7, .bool false, .slice none 0 0, .slice none 0 0]) (star (blkP w4.heap.size 33 #[.slice A7 LL.length c7, .bool false, .slice none 0 0, .slice none 0 0]) (star (blkP w.heap.size 37 #[.int .i64 e.a, .int .i64 e.b, .int .i64 e.c.k, .int .i64 e.c.s, .int .i64 e.c.q, .string e.c.nm, .int .i64 e.c.n]) (star (blkP (w4.heap.size + 1) 37 #[.int .i64 e.a, .int .i64 x, .int .i64 e.c.k, .int .i64 e.c.s, .int .i64 e.c.q, .string e.c.nm, .int .i64 e.c.n]) (star (rowP 62 9 (.slice A7 LL.length c7) LL.length (recs LL)) (star (dP 74 b ⟨x, D.ba, D.sn, putE D.es (setB e x)⟩) Q))))) by ac_rfl)).drop.drop.drop.drop⟩
          · go_simp
            refine hK.out _ _ (SA.out _ _ ((Keep.same Nothing _).alloc _) (by first | exact hHeld)) (fun hHeld => ?_)
            clear hK K
            (try simp only [Act.put, List.setIfInBounds_toArray, List.set_cons_zero, List.set_cons_succ])
            refine wpAnyH_ready (rs := [4]) (by kernel_rfl) (by simp) ?_
            refine AllReadyH.cons (o := _) (by simp only [List.getElem?_toArray, List.getElem?_cons_succ, List.getElem?_cons_zero]; rfl) (fun K hK => ?_) AllReadyH.nil
            go_simp
            refine hK.out _ _ (by first | exact hHeld) (fun hHeld => ?_)
            clear hK K
            (try simp only [Act.put, List.setIfInBounds_toArray, List.set_cons_zero, List.set_cons_succ])
            refine wpAnyH_ready (rs := [7]) (by kernel_rfl) (by simp) ?_
            refine AllReadyH.cons (o := _) (by simp only [List.getElem?_toArray, List.getElem?_cons_succ, List.getElem?_cons_zero]; rfl) (fun K hK => ?_) AllReadyH.nil
            go_simp
            refine HI.out.mono ?_
            rintro e2 w8 ⟨A8, c8, rfl, hr8, hk8, ho8⟩
            have TK := Lib.hid (d_takeT (D' := ⟨x, D.ba, D.sn, putE D.es (setB e x)⟩) WA0.out (by repeat (first | exact none_stable | exact hQ.out | exact dP_stable _ _ _ | exact blkP_stable _ _ _ | exact rowP_stable _ _ _ _ _ | apply Stable.star)) hk8 hr8 ho8)
            obtain ⟨v8, hb8⟩ := TK.out.1
            obtain ⟨r0, g0, r1, g1, r2, g2, r3, g3, q0, q1, q2, q3, p0, p1, p2⟩ := store4 hb8 (.int .i64 x) (.int .i64 D.ba) (.string D.sn) (.slice A8 (putE D.es (setB e x)).length c8)
            have hH8 := SA.out _ _ hk8 (SA.out _ _ (((Keep.same Nothing _).alloc (.cells #[.int .i64 2, .int .i64 0, .int .i64 e.a, .int .i64 x, .int .i64 e.c.k, .int .i64 e.c.s, .int .i64 e.c.q, .string e.c.nm, .int .i64 e.c.n] 62)).drew) hH0)
            have HH8 := Lib.hid hH8
            (try dsimp only at hH8)
            clear hr8 hk8 ho8 hb8
            (try go_wp2_with fail)
            refine hK.out _ _ (hH8) (fun hHeld => ?_)
            clear hK K
            (try simp only [Act.put, List.setIfInBounds_toArray, List.set_cons_zero, List.set_cons_succ])
            refine wpAnyH_take (i := 8) (oi := _) (v := ?_) (by simp only [List.getElem?_toArray, List.getElem?_cons_succ, List.getElem?_cons_zero]; rfl) (by kernel_rfl) (by kernel_rfl) (by kernel_rfl) (fun _ _ _ h => h) (Or.inl ⟨by rfl, ?_⟩) (by assumption) ?_
            rotate_left
            · (intro w hSw; (try dsimp only at hSw); go_simp; (try with_reducible rfl))
            (try simp only [Act.put, List.setIfInBounds_toArray, List.set_cons_zero, List.set_cons_succ])
            refine wpAnyH_take (i := 9) (oi := _) (v := ?_) (by simp only [List.getElem?_toArray, List.getElem?_cons_succ, List.getElem?_cons_zero]; rfl) (by kernel_rfl) (by kernel_rfl) (by kernel_rfl) (fun _ _ _ h => h) (Or.inl ⟨by rfl, ?_⟩) (by assumption) ?_
            rotate_left
            · (intro w hSw; (try dsimp only at hSw); go_simp; (try with_reducible rfl))
            (try simp only [Act.put, List.setIfInBounds_toArray, List.set_cons_zero, List.set_cons_succ])
            refine wpAnyH_ready (rs := [10]) (by kernel_rfl) (by simp) ?_
            refine AllReadyH.cons (o := _) (by simp only [List.getElem?_toArray, List.getElem?_cons_succ, List.getElem?_cons_zero]; rfl) (fun K hK => ?_) AllReadyH.nil
            go_simp
            refine hK.out _ _ (SF.out _ 3 _ (SF.out _ 2 _ (SF.out _ 1 _ (SF.out _ 0 _ HH8.out)))) (fun hHeld => ?_)
            clear hK K
            (try simp only [Act.put, List.setIfInBounds_toArray, List.set_cons_zero, List.set_cons_succ])
            refine wpAnyH_done (by kernel_rfl) ?_ _
            refine NoPanic.normal ?_
            have HT := Lib.hid (SF.out _ 3 (.slice A8 (putE D.es (setB e x)).length c8) (SF.out _ 2 (.string D.sn) (SF.out _ 1 (.int .i64 D.ba) (SF.out _ 0 (.int .i64 x) HH8.out))))
            obtain ⟨t0, t1, t2, t3, t4, t5, t6, t7, t8⟩ := HT.out
            have H10 := Lib.hid TK.out.2
            clear r0 g0 r1 g1 r2 g2 r3 g3 q0 q1 q2 q3 p0 p1 p2 a0 a1 a2 a3 d0 d1x d2 d3 hH0 hH8
            obtain ⟨W10, hW10⟩ : ∃ W10, ((((w8.setCell ⟨b, 0, none⟩ (.int .i64 x)).setCell ⟨b, 1, none⟩ (.int .i64 D.ba)).setCell ⟨b, 2, none⟩ (.string D.sn)).setCell ⟨b, 3, none⟩ (.slice A8 (putE D.es (setB e x)).length c8)) = W10 := ⟨_, rfl⟩
            rw [hW10] at H10 t0 t1 t2 t3 t4 t5 t6 t7 t8 ⊢
            clear hW10 HT
            obtain ⟨LL, hLL⟩ : ∃ LL, recP D x ++ [(⟨2, 0, setB e x⟩ : Rc)] = LL := ⟨_, rfl⟩
            have RQ := Lib.hid (show Holds B w0 W10 (star (rowP 62 9 (.slice A4 (recP D x).length c4) (recP D x).length (recs (recP D x))) (star (blkP w4.heap.size 33 #[.slice A4 (recP D x).length c4, .bool false, .slice none 0 0, .slice none 0 0]) (star (blkP (w.heap.size + 1) 33 zo4) (star (dP 74 b ⟨x, D.ba, D.sn, putE D.es (setB e x)⟩) (star (blkP w.heap.size 37 #[.int .i64 e.a, .int .i64 e.b, .int .i64 e.c.k, .int .i64 e.c.s, .int .i64 e.c.q, .string e.c.nm, .int .i64 e.c.n]) (star (blkP (w4.heap.size + 1) 37 #[.int .i64 e.a, .int .i64 x, .int .i64 e.c.k, .int .i64 e.c.s, .int .i64 e.c.q, .string e.c.nm, .int .i64 e.c.n]) Q)))))) from H10.out.perm (by ac_rfl))
            have hrl := recP_len D x
            have B8 := blk_at RQ.out.second
            have b80 := B8.cell 0
            have R11 := Lib.hid (RQ.out.row.alloc (.cells #[.int .i64 2, .int .i64 0, .int .i64 e.a, .int .i64 x, .int .i64 e.c.k, .int .i64 e.c.s, .int .i64 e.c.q, .string e.c.nm, .int .i64 e.c.n] 62))
            have hb1 : (recP D x).length + 1 ≤ maxLen := by unfold maxLen; omega
            have hb2 : ((recP D x).length + 1) * 80 ≤ 140737488355328 := by omega
            have HL3 : (recP D x).length + 1 = LL.length := by rw [← hLL]; simp
            have EL := Lib.hid (show recs (recP D x) ++ #[.int .i64 2, .int .i64 0, .int .i64 e.a, .int .i64 x, .int .i64 e.c.k, .int .i64 e.c.s, .int .i64 e.c.q, .string e.c.nm, .int .i64 e.c.n].toList = recs LL by rw [← hLL, recs_app, recs_one1]; rfl)
            rw [hLL] at E
            have HL4 := Lib.hid HL3
            clear B8 hLL HL3
            go_wp2_with (at_builtin; refine wpList_app _ rfl EC (.tmp 77) (.tmp 79) rfl R11.out (Src.fresh _ #[.int .i64 2, .int .i64 0, .int .i64 e.a, .int .i64 x, .int .i64 e.c.k, .int .i64 e.c.s, .int .i64 e.c.q, .string e.c.nm, .int .i64 e.c.n] 62 9 1 rfl) 1 rfl (by simp [Act.eval, Act.put]) (by simp [Value.oneCell']) hb1 hb2 ?_)
            intro v11 w11 hr hg hloc
            have H11 := (RQ.out.alloc (by repeat (first | exact none_stable | exact hQ.out | exact dP_stable _ _ _ | exact blkP_stable _ _ _ | exact rowP_stable _ _ _ _ _ | apply Stable.star)) (.cells #[.int .i64 2, .int .i64 0, .int .i64 e.a, .int .i64 x, .int .i64 e.c.k, .int .i64 e.c.s, .int .i64 e.c.q, .string e.c.nm, .int .i64 e.c.n] 62)).grew (by repeat (first | exact none_stable | exact hQ.out | exact dP_stable _ _ _ | exact blkP_stable _ _ _ | exact rowP_stable _ _ _ _ _ | apply Stable.star)) hr hg (by simpa using hloc)
            rw [EL.out, HL4.out] at H11
            have hr2 := H11.row
            obtain ⟨A7, c7, rfl, _, _⟩ := hr2.form
            have H12 := Lib.hid (show Holds B w0 w11 (star (blkP w4.heap.size 33 #[.slice A4 (recP D x).length c4, .bool false, .slice none 0 0, .slice none 0 0]) (star (blkP (w.heap.size + 1) 33 zo4) (star (rowP 62 9 (.slice A7 LL.length c7) LL.length (recs LL)) (star (dP 74 b ⟨x, D.ba, D.sn, putE D.es (setB e x)⟩) (star (blkP w.heap.size 37 #[.int .i64 e.a, .int .i64 e.b, .int .i64 e.c.k, .int .i64 e.c.s, .int .i64 e.c.q, .string e.c.nm, .int .i64 e.c.n]) (star (blkP (w4.heap.size + 1) 37 #[.int .i64 e.a, .int .i64 x, .int .i64 e.c.k, .int .i64 e.c.s, .int .i64 e.c.q, .string e.c.nm, .int .i64 e.c.n]) Q)))))) from H11.perm (by ac_rfl))
            have B12 := blk_at H12.out
            have m0 := B12.cell 0
            have m00 := B12.free 0
            have H13 := Lib.hid (H12.out.setBlk (by repeat (first | exact none_stable | exact hQ.out | exact dP_stable _ _ _ | exact blkP_stable _ _ _ | exact rowP_stable _ _ _ _ _ | apply Stable.star)) 0 (.slice A7 LL.length c7))
            have B13 := blk_at H13.out
            have k0 := B13.cell 0
            have k1 := B13.cell 1
            have k2 := B13.cell 2
            have k3 := B13.cell 3
            have B14 := blk_at H13.out.second
            obtain ⟨r0, g0, r1, g1, r2, g2, r3, g3, q0, q1, q2, q3, p0, p1, p2⟩ := store4 B14 (.slice A7 LL.length c7) (.bool false) (.slice none 0 0) (.slice none 0 0)
            have H15 := Lib.hid (held4 H13.out.second (by repeat (first | exact none_stable | exact hQ.out | exact dP_stable _ _ _ | exact blkP_stable _ _ _ | exact rowP_stable _ _ _ _ _ | apply Stable.star)) (.slice A7 LL.length c7) (.bool false) (.slice none 0 0) (.slice none 0 0))
            clear hr hg hloc H11 hr2 B12 B13 B14 b80 t0 t1 t2 t3 t4 t5 t6 t7 t8 hb1 hb2
            go_wp2_with fail
            refine bodyPost_ret (v := .tuple #[outV A7 LL.length c7, .bool true]) (by simp [results, Try.results22, go_sem, hu, p0, p1, p2, q0, q1, q2, q3]) rfl ?_
            rw [E.out]
            exact ⟨A7, c7, rfl, (H15.out.perm (show _ = star (blkP (w.heap.size + 1) 33 #[.slice A7 LL.length c7, .bool false, .slice none 0 0, .slice none 0 0]) (star (blkP w4.heap.size 33 #[.slice A7 LL.length c7, .bool false, .slice none 0 0, .slice none 0 0]) (star (blkP w.heap.size 37 #[.int .i64 e.a, .int .i64 e.b, .int .i64 e.c.k, .int .i64 e.c.s, .int .i64 e.c.q, .string e.c.nm, .int .i64 e.c.n]) (star (blkP (w4.heap.size + 1) 37 #[.int .i64 e.a, .int .i64 x, .int .i64 e.c.k, .int .i64 e.c.s, .int .i64 e.c.q, .string e.c.nm, .int .i64 e.c.n]) (star (rowP 62 9 (.slice A7 LL.length c7) LL.length (recs LL)) (star (dP 74 b ⟨x, D.ba, D.sn, putE D.es (setB e x)⟩) Q))))) by ac_rfl)).drop.drop.drop.drop⟩
        | true =>
          unfold setB at he
          rw [he] at hq
          rw [hb, show eqE old (setB e x) = true from he, if_neg (by decide)] at E
          clear he
          go_wp2_with fail
          go_quiet (fail)
          clear hq
          have H7 := Lib.hid (show Holds B w0 ((w6.alloc (.cells #[.int .i64 old.a, .int .i64 old.b, .int .i64 old.c.k, .int .i64 old.c.s, .int .i64 old.c.q, .string old.c.nm, .int .i64 old.c.n] 37)).drewN nq) (star (blkP (w.heap.size + 1) 33 zo4) (star (blkP w4.heap.size 33 #[.slice A4 (recP D x).length c4, .bool false, .slice none 0 0, .slice none 0 0]) (star (blkP w.heap.size 37 #[.int .i64 e.a, .int .i64 e.b, .int .i64 e.c.k, .int .i64 e.c.s, .int .i64 e.c.q, .string e.c.nm, .int .i64 e.c.n]) (star (blkP (w4.heap.size + 1) 37 #[.int .i64 e.a, .int .i64 x, .int .i64 e.c.k, .int .i64 e.c.s, .int .i64 e.c.q, .string e.c.nm, .int .i64 e.c.n]) (star (rowP 62 9 (.slice A4 (recP D x).length c4) (recP D x).length (recs (recP D x))) (star (dP 74 b ⟨x, D.ba, D.sn, D.es⟩) Q)))))) from (HO.out.drewN (by repeat (first | exact none_stable | exact hQ.out | exact dP_stable _ _ _ | exact blkP_stable _ _ _ | exact rowP_stable _ _ _ _ _ | apply Stable.star)) nq).perm (by ac_rfl))
          have B7 := blk_at H7.out
          have B8 := blk_at H7.out.second
          have k0 := B8.cell 0
          have k1 := B8.cell 1
          have k2 := B8.cell 2
          have k3 := B8.cell 3
          obtain ⟨r0, g0, r1, g1, r2, g2, r3, g3, q0, q1, q2, q3, p0, p1, p2⟩ := store4 B7 (.slice A4 (recP D x).length c4) (.bool false) (.slice none 0 0) (.slice none 0 0)
          have H8 := Lib.hid (held4 H7.out (by repeat (first | exact none_stable | exact hQ.out | exact dP_stable _ _ _ | exact blkP_stable _ _ _ | exact rowP_stable _ _ _ _ _ | apply Stable.star)) (.slice A4 (recP D x).length c4) (.bool false) (.slice none 0 0) (.slice none 0 0)).drop.drop.drop.drop
          clear B7 B8
          go_wp2_with fail
          refine bodyPost_ret (v := .tuple #[outV A4 (recP D x).length c4, .bool true]) (by simp [results, Try.results22, go_sem, hu, p0, p1, p2, q0, q1, q2, q3]) rfl ?_
          rw [E.out]
          exact ⟨A4, c4, rfl, H8.out⟩
end
end Go.Proofs.Ytnbllckmeehhjaa.A
