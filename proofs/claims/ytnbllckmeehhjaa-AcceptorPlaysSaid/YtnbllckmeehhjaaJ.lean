/-
  The acceptor: At, From, Durable.
-/
import Derived.Test.YtnbllckmeehhjaaI
namespace Go.Proofs.Ytnbllckmeehhjaa.A
open Go.RowKit Go.Proofs.Ytnbllckmeehhjaa.U
set_option linter.unusedVariables false
set_option linter.unusedSimpArgs false
set_option maxRecDepth 100000

set_option maxHeartbeats 1600000 in
/-- The store of an entry into a block of its own, at the operation. -/
theorem wpList_store7 {ops : Array Oper} {rest : List Oper} {o : Oper} {a : Act} {w : World} {Q : Exit → Act → World → Prop} (hgd : o.guard = none) (hdst : o.dst = none) (d s : Operand) (ho : o.op = .store 37 d s)
    {g : Nat} {c0 c1 c2 c3 c4 c5 c6 : Value} (hb : Blk w g 37 #[c0, c1, c2, c3, c4, c5, c6]) (x : Ent) (hd : a.eval d = .pointer (some ⟨g, 0, none⟩)) (hs : a.eval s = x.val)
    (h : wpList Try.prog ops Q rest a (U.putE w ⟨g, 0, none⟩ x)) : wpList Try.prog ops Q (o :: rest) a w := by
  have hu3 := Try.underlying37
  obtain ⟨r0, f0, r1, f1, r2, f2, r3, f3, r4, f4, r5, f5, r6, f6, q0, q1, q2, q3, q4, q5, q6, p0, p1, p2, p3, p4, p5⟩ := store7 hb (.int .i64 x.a) (.int .i64 x.b) (.int .i64 x.c.k) (.int .i64 x.c.s) (.int .i64 x.c.q) (.string x.c.nm) (.int .i64 x.c.n)
  unfold U.putE at h
  refine wpList_plain hgd fun K hK => ?_
  unfold Oper.wp execOp
  simp only [ho, hd, hs]
  go_simp
  exact hK _ _ h
section
variable {B : Nat} {w0 w : World} {Q : SP} {t b : Nat} {D : DS}
def AtPost (L : List Ent) (s : Int) (w : World) (e : Ending) (w' : World) : Prop := e = .returned (.tuple #[(entOr (findV L s)).val, .bool (findV L s).isSome]) ∧ Keep Nothing w w'
set_option maxHeartbeats 6400000 in
theorem x_at (h : Holds B w0 w (star (dP 60 b D) Q)) (hL : D.es.length ≤ 1000000) (s : Int) : Calls Try.prog 18 #[.pointer (some ⟨b, 0, none⟩), .int .i64 s] w (AtPost D.es s w) := by
  have hu := Try.underlying60
  have hu2 := Try.underlying24
  have hu3 := Try.underlying37
  obtain ⟨F, v, hb, hr, hF⟩ := h.left
  obtain ⟨A, c, rfl, _, _⟩ := hr.form
  have K2 := Lib.hid (((Keep.same Nothing w).alloc (.cells #[.int .i64 s] 3)).alloc (.cells zes 37))
  have B2 := Lib.hid ((hb.alloc (.cells #[.int .i64 s] 3)).alloc (.cells zes 37))
  have R2 := Lib.hid ((hr.alloc (.cells #[.int .i64 s] 3)).alloc (.cells zes 37))
  have P2 := Lib.hid (((Blk.fresh w 3 #[.int .i64 s]).alloc (.cells zes 37)).cell 0)
  have Z' := Blk.fresh (w.alloc (.cells #[.int .i64 s] 3)) 37 zes
  rw [size_alloc] at Z'
  have Z := Lib.hid Z'
  have HX := Lib.hid (ix_35 _ A D.es.length c D.es R2.out.src (by omega) w.heap.size _ (tells35 P2.out))
  have b3 := B2.out.cell 3
  clear hb hr hF Z' h
  go_enter Try.func18, Try.ntmps18
  go_wp2_with fail
  refine HX.out.mono ?_
  rintro e w3 ⟨i, rfl, hi, hk⟩
  have K3 := Lib.hid (K2.out.then hk)
  have Z3 := Z.out.keep hk (fun h => h)
  rcases hi with ⟨rfl, hall⟩ | ⟨k, x, rfl, hx, hpx, hlt⟩
  · have E := Lib.hid (findV_none (L := D.es) (s := s) hall)
    obtain ⟨r0, f0, r1, f1, r2, f2, r3, f3, r4, f4, r5, f5, r6, f6, q0, q1, q2, q3, q4, q5, q6, p0, p1, p2, p3, p4, p5⟩ := store7 Z3 (.int .i64 0) (.int .i64 0) (.int .i64 0) (.int .i64 0) (.int .i64 0) (.string ⟨#[]⟩) (.int .i64 0)
    have KZ := Lib.hid (blks7 Z3 (.int .i64 0) (.int .i64 0) (.int .i64 0) (.int .i64 0) (.int .i64 0) (.string ⟨#[]⟩) (.int .i64 0)).2
    clear hall hk Z3
    go_wp2_with fail
    refine bodyPost_ret (v := .tuple #[.agg zes, .bool false]) (by simp [results, Try.results18, go_sem, hu3, p0, p1, p2, p3, p4, p5, q0, q1, q2, q3, q4, q5, q6]) rfl ?_
    unfold AtPost
    rw [E.out]
    exact ⟨rfl, K3.out.trans KZ.out (fun i hi => .inr (by rw [hi]; omega))⟩
  · have E := Lib.hid (findV_some hx hpx hlt)
    have hkl : k < D.es.length := (List.getElem?_eq_some_iff.1 hx).1
    obtain ⟨ad, x', rfl, hx', he⟩ := ent_at ((R2.out.keep hk (fun _ _ h => h)).src) hkl
    rw [hx] at hx'
    injection hx' with hx'
    subst hx'
    obtain ⟨e0, e1, e2, e3, e4, e5, e6⟩ := he
    have b3' := (B2.out.keep hk (fun h => h)).cell 3
    have KZ := Lib.hid (blks7 Z3 (.int .i64 x.a) (.int .i64 x.b) (.int .i64 x.c.k) (.int .i64 x.c.s) (.int .i64 x.c.q) (.string x.c.nm) (.int .i64 x.c.n)).2
    have ZH := Lib.hid Z3
    clear hk Z3 hx hpx hlt b3
    go_wp2_with (refine wpList_store7 (by rfl) (by rfl) (.tmp 4) (.tmp 27) (by rfl) ZH.out x (by simp [Act.eval, Act.put]) (by simp [Act.eval, Act.put]) ?_)
    unfold U.putE
    clear e0 e1 e2 e3 e4 e5 e6
    obtain ⟨r0, f0, r1, f1, r2, f2, r3, f3, r4, f4, r5, f5, r6, f6, q0, q1, q2, q3, q4, q5, q6, p0, p1, p2, p3, p4, p5⟩ := store7 ZH.out (.int .i64 x.a) (.int .i64 x.b) (.int .i64 x.c.k) (.int .i64 x.c.s) (.int .i64 x.c.q) (.string x.c.nm) (.int .i64 x.c.n)
    refine bodyPost_ret (v := .tuple #[x.val, .bool true]) (by simp [results, Try.results18, go_sem, hu3, p0, p1, p2, p3, p4, p5, q0, q1, q2, q3, q4, q5, q6]) rfl ?_
    unfold AtPost
    rw [E.out]
    exact ⟨rfl, K3.out.trans KZ.out (fun i hi => .inr (by rw [hi]; omega))⟩
set_option maxHeartbeats 6400000 in
theorem x_from (h : Holds B w0 w (star (dP 60 b D) Q)) (hL : D.es.length ≤ 1000000) (hR : Rise D.es) (s : Int) : Calls Try.prog 17 #[.pointer (some ⟨b, 0, none⟩), .int .i64 s] w (FreshEnts (from_ D.es s) w) := by
  have hu := Try.underlying60
  have hu2 := Try.underlying24
  obtain ⟨F, v, hb, hr, hF⟩ := h.left
  obtain ⟨A, c, rfl, hnc, _⟩ := hr.form
  have HR := Lib.hid hR
  have K2 := Lib.hid (((Keep.same Nothing w).alloc (.cells #[.int .i64 s] 3)))
  have B2 := Lib.hid ((hb.alloc (.cells #[.int .i64 s] 3)))
  have R2 := Lib.hid ((hr.alloc (.cells #[.int .i64 s] 3)))
  have P2 := Lib.hid (((Blk.fresh w 3 #[.int .i64 s])).cell 0)
  have HX := Lib.hid (ix_34 _ A D.es.length c D.es R2.out.src (by omega) w.heap.size _ (tells34 P2.out))
  have b3 := B2.out.cell 3
  clear hb hr hF h hR
  go_enter Try.func17, Try.ntmps17
  go_wp2_with fail
  refine HX.out.mono ?_
  rintro e w3 ⟨i, rfl, hi, hk⟩
  have K3 := Lib.hid (K2.out.then hk)
  rcases hi with ⟨rfl, hall⟩ | ⟨k, x, rfl, hx, hpx, hlt⟩
  · have E := Lib.hid (from_none (L := D.es) (s := s) (fun j y hy => by have := hall j y hy; simp only [decide_eq_false_iff_not] at this; omega))
    clear hall hk
    go_wp2_with fail
    go_ret
    rw [E.out]
    exact ⟨none, 0, rfl, Row.nil _ 37 7, K3.out, fun k hk => by simp [Value.ownBlock] at hk⟩
  · have E := Lib.hid (from_at HR.out (s := s) (k := k) (fun j y hj hy => by have := hlt j y hj hy; simp only [decide_eq_false_iff_not] at this; omega) (.inr ⟨x, hx, of_decide_eq_true hpx⟩))
    have hkl : k < D.es.length := (List.getElem?_eq_some_iff.1 hx).1
    have R3 := R2.out.keep hk (fun _ _ h => h)
    have b3' := (B2.out.keep hk (fun h => h)).cell 3
    have hs1 := fun w => run_from (P := Try.prog) w EE A D.es.length c k (k : Int) rfl (by omega)
    have RD := R3.drop_ (k := k) (by omega)
    rw [ents_drop, E.out] at RD
    obtain ⟨A1, hA1⟩ : ∃ A1, (if c = k then A else A.map (·.add (k * 7))) = A1 := ⟨_, rfl⟩
    rw [hA1] at RD
    simp only [hA1] at hs1
    have hln : D.es.length - k = (from_ D.es s).length := by rw [← E.out, List.length_drop]
    have HC := Lib.hid (clone_calls w3 A1 (D.es.length - k) (c - k) (from_ D.es s) RD.src (by omega))
    clear hk hx hpx hlt b3 R3 RD hA1 hln
    go_wp2_with fail
    refine HC.out.mono ?_
    rintro e w4 ⟨A4, c4, rfl, hr4, hk4, ho4⟩
    have R4 := Lib.hid hr4
    have K4 := Lib.hid (K3.out.then hk4)
    have O4 := Lib.hid ho4
    have hsz := Lib.hid K3.out.size
    clear hr4 hk4 ho4
    go_wp2_with fail
    go_ret
    exact ⟨A4, c4, rfl, R4.out, K4.out, fun k hk => Nat.le_trans hsz.out (O4.out k hk)⟩
end
end Go.Proofs.Ytnbllckmeehhjaa.A
