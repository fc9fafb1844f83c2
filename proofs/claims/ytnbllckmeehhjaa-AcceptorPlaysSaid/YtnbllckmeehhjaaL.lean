/-
  The acceptor: Accept.
-/
import Derived.Test.YtnbllckmeehhjaaK
namespace Go.Proofs.Ytnbllckmeehhjaa.A
open Go.RowKit Go.Proofs.Ytnbllckmeehhjaa.U
set_option linter.unusedVariables false
set_option linter.unusedSimpArgs false
set_option maxRecDepth 100000

theorem star_inner {P Q Q' : SP} {w : World} {F : Nat → Prop} (h : star P Q w F) (hi : ∀ F, Q w F → Q' w F) : star P Q' w F := let ⟨F1, F2, h1, h2, h3, h4⟩ := h; ⟨F1, F2, h1, hi F2 h2, h3, h4⟩
section
variable {B : Nat} {w0 w : World} {P Q R S T : SP} {t b : Nat} {D : DS}
theorem Holds.in2 (h : Holds B w0 w (star P (star Q (star R S)))) : Holds B w0 w (star P (star R (star Q S))) := Holds.inner h fun F => star_second
theorem Holds.in3 (h : Holds B w0 w (star P (star Q (star R (star S T))))) : Holds B w0 w (star P (star Q (star S (star R T)))) := Holds.inner h fun F h => star_inner h fun F => star_second
theorem Holds.fourth (h : Holds B w0 w (star P (star Q (star R (star S T))))) : Holds B w0 w (star S (star P (star Q (star R T)))) := Holds.second (Holds.in2 (Holds.in3 h))
/-- The state takes another one in its place. -/
theorem d_take {w9 : World} {D' : DS} (h : Holds B w0 w (star (dP 60 b D) Q)) (hQ : Stable Q) (hk : Keep Nothing w w9) {A : Option Addr} {c : Nat} (hr : Row w9 37 7 (.slice A D'.es.length c) D'.es.length (ents D'.es)) (ho : ∀ k, (Value.slice A D'.es.length c).ownBlock = some k → w.heap.size ≤ k) :
    (∃ v, Blk w9 b 60 #[.int .i64 D.pr, .int .i64 D.ba, .string D.sn, v]) ∧ Holds B w0 ((((w9.setCell ⟨b, 0, none⟩ (.int .i64 D'.pr)).setCell ⟨b, 1, none⟩ (.int .i64 D'.ba)).setCell ⟨b, 2, none⟩ (.string D'.sn)).setCell ⟨b, 3, none⟩ (.slice A D'.es.length c)) (star (dP 60 b D') Q) := by
  obtain ⟨F, ⟨F1, F2, ⟨v, hb, hrv, hF1⟩, h2, h3, h4⟩, hbl, hB, hF⟩ := h
  have H0 : Holds B w0 w (star (dP 60 b D) Q) := ⟨F, ⟨F1, F2, ⟨v, hb, hrv, hF1⟩, h2, h3, h4⟩, hbl, hB, hF⟩
  have hb9 := hb.keep hk (fun h => h)
  have KZ := (blks4 hb9 (.int .i64 D'.pr) (.int .i64 D'.ba) (.string D'.sn) (.slice A D'.es.length c))
  have hlt := hb.lt
  refine ⟨⟨v, hb9⟩, H0.step (fun k hk => hF k ((h4 k).2 hk)) (Step.star (dP_step (D' := D') hF1 ?_ KZ.1 (hr.keep KZ.2 (fun g hg e => by have := ho g hg; omega)) (fun k hk => .inr (ho k hk))) hQ h2 h3)⟩
  exact (hk.wider (fun i h => h.elim)).trans KZ.2 (fun i hi => .inl (.inl hi))
set_option maxHeartbeats 12800000 in
theorem x_accept (h : Holds B w0 w (star (dP 60 b D) Q)) (hQ : Stable Q) (hL : D.es.length ≤ 400000) (hR : Rise D.es) (x : Int) (e : Ent) :
    Calls Try.prog 12 #[.pointer (some ⟨b, 0, none⟩), .int .i64 x, e.val] w (GavePost B w0 Q 60 b (accp D x e)) := by
  have hu := Try.underlying33
  have hu37 := Try.underlying37
  have hu60 := Try.underlying60
  have hu24 := Try.underlying24
  have hu62 := Try.underlying62
  have hu65 := Try.underlying65
  have SQ := Lib.hid hQ
  have SD := Lib.hid (dP_stable 60 b)
  have SB := Lib.hid blkP_stable
  have SR := Lib.hid rowP_stable
  have SC := Lib.hid rcP_stable
  have HR := Lib.hid hR
  have h1 := Holds.newBlk h ((SD.out D).star SQ.out) 37 e.cs
  have h2 := Holds.newBlk h1 ((SB.out _ _ _).star ((SD.out D).star SQ.out)) 33 zo4
  rw [size_alloc] at h2
  have H3 := Lib.hid (Holds.third_back h2)
  have HF := Lib.hid (x_refuses H3.out x)
  have BO := blk_at h2
  have BE := blk_at h2.second
  unfold Ent.cs at BE H3 HF BO
  unfold Ent.val Ent.cs
  have o0 := BO.cell 0
  have o1 := BO.cell 1
  have o2 := BO.cell 2
  have o3 := BO.cell 3
  have e0 := BE.cell 0
  clear h hQ h1 h2 hR BO BE
  cases hl : low D x || decide (e.a < 1) with
  | true =>
    have E := Lib.hid (show accp D x e = (D, false, []) by unfold accp; rw [hl]; rfl)
    have H4 := Lib.hid (Holds.second (Holds.second H3.out).drop).drop
    have DONE := Lib.hid (show GavePost B w0 Q 60 b (accp D x e) (.returned (.tuple #[outV none 0 0, .bool false])) _ from by
      rw [E.out]
      exact ⟨none, 0, rfl, Holds.newRow H4.out ((SD.out D).star SQ.out) (Row.nil _ 62 9) (Keep.same _ _) (fun k hk => by simp [Value.ownBlock] at hk)⟩)
    cases hlo : low D x with
    | true =>
      rw [hlo] at HF
      clear hl hlo
      go_enter Try.func12, Try.ntmps12
      go_wp2_with fail
      refine HF.out.mono ?_
      rintro e2 w3 ⟨rfl, rfl⟩
      go_wp2_with fail
      refine bodyPost_ret (v := .tuple #[outV none 0 0, .bool false]) (by simp [results, Try.results12, go_sem, hu, o0, o1, o2, o3]) rfl ?_
      exact DONE.out
    | false =>
      rw [hlo] at HF hl
      have hl1 : decide (e.a < 1) = true := by simpa using hl
      clear hl hlo
      go_enter Try.func12, Try.ntmps12
      go_wp2_with fail
      refine HF.out.mono ?_
      rintro e2 w3 ⟨rfl, rfl⟩
      go_wp2_with fail
      refine bodyPost_ret (v := .tuple #[outV none 0 0, .bool false]) (by simp [results, Try.results12, go_sem, hu, o0, o1, o2, o3]) rfl ?_
      exact DONE.out
  | false =>
    rw [Bool.or_eq_false_iff] at hl
    obtain ⟨hlo, hl1⟩ := hl
    rw [hlo] at HF
    have E := Lib.hid (show accp D x e = if fresh ⟨x, D.ba, D.sn, D.es⟩ (setB e x) then (⟨x, D.ba, D.sn, putE D.es (setB e x)⟩, true, recP D x ++ [⟨2, 0, setB e x⟩]) else (⟨x, D.ba, D.sn, D.es⟩, true, recP D x) by unfold accp; rw [hlo, hl1]; rfl)
    have EP := Lib.hid (show prD D x = ⟨x, D.ba, D.sn, D.es⟩ by
      unfold prD
      unfold low at hlo
      simp only [Bool.or_eq_false_iff, decide_eq_false_iff_not] at hlo
      split
      · rfl
      · rw [show D.pr = x by omega])
    have hr1 := Holds.second (rc_new H3.out ((SD.out D).star ((SB.out _ _ _).star ((SB.out _ _ _).star SQ.out))))
    rw [size_alloc, size_alloc] at hr1
    have HP := Lib.hid (x_promise hr1 ((SB.out _ _ _).star ((SB.out _ _ _).star SQ.out)) (by simp) x)
    rw [EP.out, List.nil_append] at HP
    clear hr1 hlo o0 o1 o2 o3
    go_enter Try.func12, Try.ntmps12
    go_wp2_with fail
    refine HF.out.mono ?_
    rintro e2 w3 ⟨rfl, rfl⟩
    go_wp2_with fail
    refine HP.out.mono ?_
    rintro e2 w4 ⟨rfl, h4⟩
    have h5 := Holds.fourth h4
    have BE5 := blk_at h5
    have H5 := Lib.hid (h5.setBlk ((SD.out _).star ((SC.out _ _).star ((SB.out _ _ _).star SQ.out))) 1 (.int .i64 x))
    have e1 := BE5.cell 1
    have f1 := BE5.free 1
    have e00 := BE5.cell 0
    have HA := Lib.hid (x_at (Holds.second H5.out) (by show D.es.length ≤ 1000000; omega) e.a)
    clear h4 h5 BE5 e0
    go_wp2_with fail
    refine HA.out.mono ?_
    rintro e2 w5 ⟨rfl, hk5⟩
    have H6 := Lib.hid (H5.out.kept ((SB.out _ _ _).star ((SD.out _).star ((SC.out _ _).star ((SB.out _ _ _).star SQ.out)))) hk5)
    clear hk5 e1 f1 e00
    have BE6 := (blk_at H6.out)
    obtain ⟨A6, c6, _, d1, _⟩ := d_cells (Holds.second H6.out)
    obtain ⟨old, hold⟩ : ∃ old, entOr (findV D.es e.a) = old := ⟨_, rfl⟩
    obtain ⟨is, his⟩ : ∃ is, (findV D.es e.a).isSome = is := ⟨_, rfl⟩
    have hf : fresh ⟨x, D.ba, D.sn, D.es⟩ (setB e x) = (decide (D.ba < e.a) && !(is && eqE old (setB e x))) := by
      unfold fresh
      show (decide (D.ba < e.a) && !((findV D.es e.a).isSome && eqE (entOr (findV D.es e.a)) (setB e x))) = _
      rw [hold, his]
    rw [hf] at E
    rw [hold, his]
    have Y := Lib.hid (BE6.alloc (.cells old.cs 37))
    have Z := Lib.hid (Blk.fresh w5 37 old.cs)
    have d1' := ((Keep.same Nothing w5).alloc (.cells old.cs 37)).cell d1 (fun h => h)
    have hq := fun w => neqE w old (setB e x)
    have y0 := Y.out.cell 0
    have y1 := Y.out.cell 1
    have y2 := Y.out.cell 2
    have y3 := Y.out.cell 3
    have y4 := Y.out.cell 4
    have y5 := Y.out.cell 5
    have y6 := Y.out.cell 6
    have z0 := Z.out.cell 0
    have z1 := Z.out.cell 1
    have z2 := Z.out.cell 2
    have z3 := Z.out.cell 3
    have z4 := Z.out.cell 4
    have z5 := Z.out.cell 5
    have z6 := Z.out.cell 6
    have ST := Lib.hid ((SB.out w.heap.size 37 (#[.int .i64 e.a, .int .i64 e.b, .int .i64 e.c.k, .int .i64 e.c.s, .int .i64 e.c.q, .string e.c.nm, .int .i64 e.c.n].setIfInBounds 1 (.int .i64 x))).star ((SD.out ⟨x, D.ba, D.sn, D.es⟩).star ((SC.out (w.heap.size + 1 + 1) (recP D x)).star ((SB.out (w.heap.size + 1) 33 zo4).star SQ.out))))
    have STB := Lib.hid ((SB.out w.heap.size 37 (#[.int .i64 e.a, .int .i64 e.b, .int .i64 e.c.k, .int .i64 e.c.s, .int .i64 e.c.q, .string e.c.nm, .int .i64 e.c.n].setIfInBounds 1 (.int .i64 x))).star ((SC.out (w.heap.size + 1 + 1) (recP D x)).star ((SB.out (w.heap.size + 1) 33 zo4).star SQ.out)))
    unfold setB Ent.cs at hq
    clear hold his hf BE6 d1
    rcases (show decide (D.ba < e.a) = false ∨ (decide (D.ba < e.a) = true ∧ is = false) ∨ (decide (D.ba < e.a) = true ∧ is = true ∧ eqE old (setB e x) = true) ∨ (decide (D.ba < e.a) = true ∧ is = true ∧ eqE old (setB e x) = false) by
      cases decide (D.ba < e.a) <;> cases is <;> cases eqE old (setB e x) <;> simp) with hb | ⟨hb, rfl⟩ | ⟨hb, rfl, hq2⟩ | ⟨hb, rfl, hq2⟩
    · rw [hb, Bool.false_and] at E
      go_wp2_with fail
      go_quiet (fail)
      have hN := ((H6.out.alloc ST.out (.cells old.cs 37)).drewN ST.out nq).drop
      obtain ⟨A7, c7, a7, h8⟩ := rc_open hN.second
      have h9 := Holds.second (Holds.third h8)
      have BO := blk_at h9
      obtain ⟨r0, g0, r1, g1, r2, g2, r3, g3, q0, q1, q2, q3, p0, p1, p2⟩ := store4 BO (.slice A7 (recP D x).length c7) (.bool false) (.slice none 0 0) (.slice none 0 0)
      have H9 := Lib.hid (Holds.second (held4 h9 ((SD.out _).star ((SR.out _ _ _ _ _).star SQ.out)) (.slice A7 (recP D x).length c7) (.bool false) (.slice none 0 0) (.slice none 0 0)).drop)
      clear hN h8 h9 BO y0 y1 y2 y3 y4 y5 y6 z0 z1 z2 z3 z4 z5 z6 d1'
      go_wp2_with fail
      refine bodyPost_ret (v := .tuple #[outV A7 (recP D x).length c7, .bool true]) (by simp [results, Try.results12, go_sem, hu, p0, p1, p2, q0, q1, q2, q3]) rfl ?_
      rw [E.out]
      exact ⟨A7, c7, rfl, H9.out⟩
    · rw [hb, Bool.false_and, Bool.not_false, Bool.and_self] at E
      have hbb := Lib.hid hb
      go_wp2_with fail
      go_quiet (fail)
      have W9 := Lib.hid (((H6.out.alloc ST.out (.cells old.cs 37)).drewN ST.out nq).alloc ST.out (.cells #[.int .i64 2, .int .i64 0, .int .i64 e.a, .int .i64 x, .int .i64 e.c.k, .int .i64 e.c.s, .int .i64 e.c.q, .string e.c.nm, .int .i64 e.c.n] 62))
      have Z9 := Blk.fresh ((w5.alloc (.cells old.cs 37)).drewN nq) 62 #[.int .i64 2, .int .i64 0, .int .i64 e.a, .int .i64 x, .int .i64 e.c.k, .int .i64 e.c.s, .int .i64 e.c.q, .string e.c.nm, .int .i64 e.c.n]
      rw [show ((w5.alloc (.cells old.cs 37)).drewN nq).heap.size = w5.heap.size + 1 from size_alloc _ _] at Z9
      have ZH := Lib.hid Z9
      obtain ⟨F9, v9, hb9, hr9, hF9⟩ := (Holds.second W9.out).left
      obtain ⟨A9, c9, rfl, _, _⟩ := hr9.form
      have hb9a := hb9.alloc (.cells #[.int .i64 2, .int .i64 0, .int .i64 e.a, .int .i64 x, .int .i64 e.c.k, .int .i64 e.c.s, .int .i64 e.c.q, .string e.c.nm, .int .i64 e.c.n] 62)
      have hr9a := Lib.hid ((hr9.alloc (.cells #[.int .i64 2, .int .i64 0, .int .i64 e.a, .int .i64 x, .int .i64 e.c.k, .int .i64 e.c.s, .int .i64 e.c.q, .string e.c.nm, .int .i64 e.c.n] 62)).keep ((Keep.same Nothing _).drew) (fun _ _ h => h))
      have LB := Lib.hid (show b < w5.heap.size from (by
        obtain ⟨_, _, hbb, _⟩ := (Holds.second H6.out).left
        exact hbb.lt))
      have WA := Lib.hid ((W9.out.alloc ST.out (.cells #[.int .i64 2, .int .i64 0, .int .i64 e.a, .int .i64 x, .int .i64 e.c.k, .int .i64 e.c.s, .int .i64 e.c.q, .string e.c.nm, .int .i64 e.c.n] 62)).kept ST.out ((Keep.same Nothing _).drew))
      have SRC := Lib.hid (show U.Src ((((w5.alloc (.cells old.cs 37)).drewN nq).alloc (.cells #[.int .i64 2, .int .i64 0, .int .i64 e.a, .int .i64 x, .int .i64 e.c.k, .int .i64 e.c.s, .int .i64 e.c.q, .string e.c.nm, .int .i64 e.c.n] 62)).alloc (.cells #[.int .i64 2, .int .i64 0, .int .i64 e.a, .int .i64 x, .int .i64 e.c.k, .int .i64 e.c.s, .int .i64 e.c.q, .string e.c.nm, .int .i64 e.c.n] 62)).drew (some ⟨(((w5.alloc (.cells old.cs 37)).drewN nq).alloc (.cells #[.int .i64 2, .int .i64 0, .int .i64 e.a, .int .i64 x, .int .i64 e.c.k, .int .i64 e.c.s, .int .i64 e.c.q, .string e.c.nm, .int .i64 e.c.n] 62)).heap.size, 0, none⟩) 9 1 (recs [⟨2, 0, setB e x⟩]) from U.Src.fresh (((w5.alloc (.cells old.cs 37)).drewN nq).alloc (.cells #[.int .i64 2, .int .i64 0, .int .i64 e.a, .int .i64 x, .int .i64 e.c.k, .int .i64 e.c.s, .int .i64 e.c.q, .string e.c.nm, .int .i64 e.c.n] 62)) #[.int .i64 2, .int .i64 0, .int .i64 e.a, .int .i64 x, .int .i64 e.c.k, .int .i64 e.c.s, .int .i64 e.c.q, .string e.c.nm, .int .i64 e.c.n] 62 9 1 rfl)
      rw [show (((w5.alloc (.cells old.cs 37)).drewN nq).alloc (.cells #[.int .i64 2, .int .i64 0, .int .i64 e.a, .int .i64 x, .int .i64 e.c.k, .int .i64 e.c.s, .int .i64 e.c.q, .string e.c.nm, .int .i64 e.c.n] 62)).heap.size = w5.heap.size + 1 + 1 by rw [size_alloc]; show (w5.alloc (.cells old.cs 37)).heap.size + 1 = _; rw [size_alloc]] at SRC
      have EQ := Lib.hid (show foldL ⟨x, D.ba, D.sn, D.es⟩ [⟨2, 0, setB e x⟩] = ⟨x, D.ba, D.sn, putE D.es (setB e x)⟩ by
        have h3 : ¬ (setB e x).a ≤ D.ba := by have := of_decide_eq_true hb; show ¬ e.a ≤ D.ba; omega
        simp [foldL, foldR, mx, setB, h3] at h3 ⊢
        intro h4
        omega)
      have HI := Lib.hid (fold26 _ ⟨x, D.ba, D.sn, D.es⟩ A9 c9 hr9a.out.src (by show D.es.length ≤ 500000; omega) HR.out (some ⟨w5.heap.size + 1 + 1, 0, none⟩) 1 1 [⟨2, 0, setB e x⟩] SRC.out (by omega))
      rw [EQ.out] at HI
      have d0 := hb9.cell 0
      have d1 := hb9.cell 1
      have d2 := hb9.cell 2
      have d3 := hb9.cell 3
      have a0 := hb9a.cell 0
      have a1 := hb9a.cell 1
      have a2 := hb9a.cell 2
      have a3 := hb9a.cell 3
      have hH0 : (fun w' => w'.cell? ⟨w5.heap.size + 1, 0, none⟩ = some (.int .i64 2) ∧ w'.cell? ⟨w5.heap.size + 1, 1, none⟩ = some (.int .i64 0) ∧ w'.cell? ⟨w5.heap.size + 1, 2, none⟩ = some (.int .i64 e.a) ∧ w'.cell? ⟨w5.heap.size + 1, 3, none⟩ = some (.int .i64 x) ∧ w'.cell? ⟨w5.heap.size + 1, 4, none⟩ = some (.int .i64 e.c.k) ∧ w'.cell? ⟨w5.heap.size + 1, 5, none⟩ = some (.int .i64 e.c.s) ∧ w'.cell? ⟨w5.heap.size + 1, 6, none⟩ = some (.int .i64 e.c.q) ∧ w'.cell? ⟨w5.heap.size + 1, 7, none⟩ = some (.string e.c.nm) ∧ w'.cell? ⟨w5.heap.size + 1, 8, none⟩ = some (.int .i64 e.c.n)) (((w5.alloc (.cells old.cs 37)).drewN nq).alloc (.cells #[.int .i64 2, .int .i64 0, .int .i64 e.a, .int .i64 x, .int .i64 e.c.k, .int .i64 e.c.s, .int .i64 e.c.q, .string e.c.nm, .int .i64 e.c.n] 62)) := ⟨Z9.cell 0, Z9.cell 1, Z9.cell 2, Z9.cell 3, Z9.cell 4, Z9.cell 5, Z9.cell 6, Z9.cell 7, Z9.cell 8⟩
      have NB := Lib.hid (show w5.heap.size + 1 ≠ b from fun h => by have := LB.out; omega)
      have SF := Lib.hid (show ∀ (X : World) (i : Nat) (u : Value), (fun w' => w'.cell? ⟨w5.heap.size + 1, 0, none⟩ = some (.int .i64 2) ∧ w'.cell? ⟨w5.heap.size + 1, 1, none⟩ = some (.int .i64 0) ∧ w'.cell? ⟨w5.heap.size + 1, 2, none⟩ = some (.int .i64 e.a) ∧ w'.cell? ⟨w5.heap.size + 1, 3, none⟩ = some (.int .i64 x) ∧ w'.cell? ⟨w5.heap.size + 1, 4, none⟩ = some (.int .i64 e.c.k) ∧ w'.cell? ⟨w5.heap.size + 1, 5, none⟩ = some (.int .i64 e.c.s) ∧ w'.cell? ⟨w5.heap.size + 1, 6, none⟩ = some (.int .i64 e.c.q) ∧ w'.cell? ⟨w5.heap.size + 1, 7, none⟩ = some (.string e.c.nm) ∧ w'.cell? ⟨w5.heap.size + 1, 8, none⟩ = some (.int .i64 e.c.n)) X → (fun w' => w'.cell? ⟨w5.heap.size + 1, 0, none⟩ = some (.int .i64 2) ∧ w'.cell? ⟨w5.heap.size + 1, 1, none⟩ = some (.int .i64 0) ∧ w'.cell? ⟨w5.heap.size + 1, 2, none⟩ = some (.int .i64 e.a) ∧ w'.cell? ⟨w5.heap.size + 1, 3, none⟩ = some (.int .i64 x) ∧ w'.cell? ⟨w5.heap.size + 1, 4, none⟩ = some (.int .i64 e.c.k) ∧ w'.cell? ⟨w5.heap.size + 1, 5, none⟩ = some (.int .i64 e.c.s) ∧ w'.cell? ⟨w5.heap.size + 1, 6, none⟩ = some (.int .i64 e.c.q) ∧ w'.cell? ⟨w5.heap.size + 1, 7, none⟩ = some (.string e.c.nm) ∧ w'.cell? ⟨w5.heap.size + 1, 8, none⟩ = some (.int .i64 e.c.n)) (X.setCell ⟨b, i, none⟩ u) from fun X i u h => ⟨(cell_far X b i u _ _ NB.out).trans h.1, (cell_far X b i u _ _ NB.out).trans h.2.1, (cell_far X b i u _ _ NB.out).trans h.2.2.1, (cell_far X b i u _ _ NB.out).trans h.2.2.2.1, (cell_far X b i u _ _ NB.out).trans h.2.2.2.2.1, (cell_far X b i u _ _ NB.out).trans h.2.2.2.2.2.1, (cell_far X b i u _ _ NB.out).trans h.2.2.2.2.2.2.1, (cell_far X b i u _ _ NB.out).trans h.2.2.2.2.2.2.2.1, (cell_far X b i u _ _ NB.out).trans h.2.2.2.2.2.2.2.2⟩)
      have SA := Lib.hid (show ∀ (X Y : World), Keep Nothing X Y → (fun w' => w'.cell? ⟨w5.heap.size + 1, 0, none⟩ = some (.int .i64 2) ∧ w'.cell? ⟨w5.heap.size + 1, 1, none⟩ = some (.int .i64 0) ∧ w'.cell? ⟨w5.heap.size + 1, 2, none⟩ = some (.int .i64 e.a) ∧ w'.cell? ⟨w5.heap.size + 1, 3, none⟩ = some (.int .i64 x) ∧ w'.cell? ⟨w5.heap.size + 1, 4, none⟩ = some (.int .i64 e.c.k) ∧ w'.cell? ⟨w5.heap.size + 1, 5, none⟩ = some (.int .i64 e.c.s) ∧ w'.cell? ⟨w5.heap.size + 1, 6, none⟩ = some (.int .i64 e.c.q) ∧ w'.cell? ⟨w5.heap.size + 1, 7, none⟩ = some (.string e.c.nm) ∧ w'.cell? ⟨w5.heap.size + 1, 8, none⟩ = some (.int .i64 e.c.n)) X → (fun w' => w'.cell? ⟨w5.heap.size + 1, 0, none⟩ = some (.int .i64 2) ∧ w'.cell? ⟨w5.heap.size + 1, 1, none⟩ = some (.int .i64 0) ∧ w'.cell? ⟨w5.heap.size + 1, 2, none⟩ = some (.int .i64 e.a) ∧ w'.cell? ⟨w5.heap.size + 1, 3, none⟩ = some (.int .i64 x) ∧ w'.cell? ⟨w5.heap.size + 1, 4, none⟩ = some (.int .i64 e.c.k) ∧ w'.cell? ⟨w5.heap.size + 1, 5, none⟩ = some (.int .i64 e.c.s) ∧ w'.cell? ⟨w5.heap.size + 1, 6, none⟩ = some (.int .i64 e.c.q) ∧ w'.cell? ⟨w5.heap.size + 1, 7, none⟩ = some (.string e.c.nm) ∧ w'.cell? ⟨w5.heap.size + 1, 8, none⟩ = some (.int .i64 e.c.n)) Y from fun X Y k h => ⟨k.cell h.1 (fun h => h), k.cell h.2.1 (fun h => h), k.cell h.2.2.1 (fun h => h), k.cell h.2.2.2.1 (fun h => h), k.cell h.2.2.2.2.1 (fun h => h), k.cell h.2.2.2.2.2.1 (fun h => h), k.cell h.2.2.2.2.2.2.1 (fun h => h), k.cell h.2.2.2.2.2.2.2.1 (fun h => h), k.cell h.2.2.2.2.2.2.2.2 (fun h => h)⟩)
      dsimp only at hH0
      clear hb9 hr9 hF9 hb9a d1' Z9 hb z0 z1 z2 z3 z4 z5 z6
      unfold Ent.cs at *
      go_wp2_with fail
      clear y0 y1 y2 y3 y4 y5 y6
      refine wp_region_noPanic ?_
      refine wp_region_held_drew (S := (fun w' => w'.cell? ⟨w5.heap.size + 1, 0, none⟩ = some (.int .i64 2) ∧ w'.cell? ⟨w5.heap.size + 1, 1, none⟩ = some (.int .i64 0) ∧ w'.cell? ⟨w5.heap.size + 1, 2, none⟩ = some (.int .i64 e.a) ∧ w'.cell? ⟨w5.heap.size + 1, 3, none⟩ = some (.int .i64 x) ∧ w'.cell? ⟨w5.heap.size + 1, 4, none⟩ = some (.int .i64 e.c.k) ∧ w'.cell? ⟨w5.heap.size + 1, 5, none⟩ = some (.int .i64 e.c.s) ∧ w'.cell? ⟨w5.heap.size + 1, 6, none⟩ = some (.int .i64 e.c.q) ∧ w'.cell? ⟨w5.heap.size + 1, 7, none⟩ = some (.string e.c.nm) ∧ w'.cell? ⟨w5.heap.size + 1, 8, none⟩ = some (.int .i64 e.c.n))) (by kernel_rfl) hH0 (fun hHeld => ?_)
      refine wpAnyH_take (i := 0) (oi := _) (v := ?_) (by simp only [List.getElem?_toArray, List.getElem?_cons_succ, List.getElem?_cons_zero]; rfl) (by kernel_rfl) (by kernel_rfl) (by kernel_rfl) (fun _ _ _ h => h) (Or.inl ⟨by rfl, ?_⟩) (by assumption) ?_
      rotate_left
      · (intro w hSw; (try dsimp only at hSw); go_simp; (try with_reducible rfl))
      (try simp only [Act.put, List.setIfInBounds_toArray, List.set_cons_zero, List.set_cons_succ])
      refine wpAnyH_take (i := 1) (oi := _) (v := ?_) (by simp only [List.getElem?_toArray, List.getElem?_cons_succ, List.getElem?_cons_zero]; rfl) (by kernel_rfl) (by kernel_rfl) (by kernel_rfl) (fun _ _ _ h => h) (Or.inl ⟨by rfl, ?_⟩) (by assumption) ?_
      rotate_left
      · (intro w hSw; (try dsimp only at hSw); go_simp; (try with_reducible rfl))
      (try simp only [Act.put, List.setIfInBounds_toArray, List.set_cons_zero, List.set_cons_succ])
      refine wpAnyH_take (i := 2) (oi := _) (v := ?_) (by simp only [List.getElem?_toArray, List.getElem?_cons_succ, List.getElem?_cons_zero]; rfl) (by kernel_rfl) (by kernel_rfl) (by kernel_rfl) (fun _ _ _ h => h) (Or.inl ⟨by rfl, ?_⟩) (by assumption) ?_
      rotate_left
      · (intro w hSw; (try dsimp only at hSw); go_simp; (try with_reducible rfl))
      (try simp only [Act.put, List.setIfInBounds_toArray, List.set_cons_zero, List.set_cons_succ])
      refine wpAnyH_take (i := 3) (oi := _) (v := ?_) (by simp only [List.getElem?_toArray, List.getElem?_cons_succ, List.getElem?_cons_zero]; rfl) (by kernel_rfl) (by kernel_rfl) (by kernel_rfl) (fun _ _ _ h => h) (Or.inl ⟨by rfl, ?_⟩) (by assumption) ?_
      rotate_left
      · (intro w hSw; (try dsimp only at hSw); go_simp; (try with_reducible rfl))
      (try simp only [Act.put, List.setIfInBounds_toArray, List.set_cons_zero, List.set_cons_succ])
      refine wpAnyH_take (i := 5) (oi := _) (v := ?_) (by simp only [List.getElem?_toArray, List.getElem?_cons_succ, List.getElem?_cons_zero]; rfl) (by kernel_rfl) (by kernel_rfl) (by kernel_rfl) (fun _ _ _ h => h) (Or.inl ⟨by rfl, ?_⟩) (by assumption) ?_
      rotate_left
      · (intro w hSw; (try dsimp only at hSw); go_simp; (try with_reducible rfl))
      (try simp only [Act.put, List.setIfInBounds_toArray, List.set_cons_zero, List.set_cons_succ])
      refine wpAnyH_ready (rs := [4, 6]) (by kernel_rfl) (by simp) ?_
      refine AllReadyH.cons (o := _) (by simp only [List.getElem?_toArray, List.getElem?_cons_succ, List.getElem?_cons_zero]; rfl) (fun K hK => ?_) (AllReadyH.cons (o := _) (by simp only [List.getElem?_toArray, List.getElem?_cons_succ, List.getElem?_cons_zero]; rfl) (fun K hK => ?_) AllReadyH.nil)
      · go_simp
        refine hK.out _ _ (by first | exact hHeld) (fun hHeld => ?_)
        clear hK K
        (try simp only [Act.put, List.setIfInBounds_toArray, List.set_cons_zero, List.set_cons_succ])
        refine wpAnyH_ready (rs := [6]) (by kernel_rfl) (by simp) ?_
        refine AllReadyH.cons (o := _) (by simp only [List.getElem?_toArray, List.getElem?_cons_succ, List.getElem?_cons_zero]; rfl) (fun K hK => ?_) AllReadyH.nil
        go_simp
        refine hK.out _ _ (SA.out _ _ ((Keep.same Nothing _).alloc _) (by first | exact hHeld)) (fun hHeld => ?_)
        clear hK K
        (try simp only [Act.put, List.setIfInBounds_toArray, List.set_cons_zero, List.set_cons_succ])
        refine wpAnyH_ready (rs := [7]) (by kernel_rfl) (by simp) ?_
        refine AllReadyH.cons (o := _) (by simp only [List.getElem?_toArray, List.getElem?_cons_succ, List.getElem?_cons_zero]; rfl) (fun K hK => ?_) AllReadyH.nil
        go_simp
        refine HI.out.mono ?_
        rintro e2 w8 ⟨A8, c8, rfl, hr8, hk8, ho8⟩
        have TK := Lib.hid (d_take (D' := ⟨x, D.ba, D.sn, putE D.es (setB e x)⟩) (Holds.second WA.out) STB.out hk8 hr8 ho8)
        obtain ⟨v8, hb8⟩ := TK.out.1
        obtain ⟨r0, g0, r1, g1, r2, g2, r3, g3, q0, q1, q2, q3, p0, p1, p2⟩ := store4 hb8 (.int .i64 x) (.int .i64 D.ba) (.string D.sn) (.slice A8 (putE D.es (setB e x)).length c8)
        have hH8 := SA.out _ _ hk8 (SA.out _ _ (((Keep.same Nothing _).alloc (.cells #[.int .i64 2, .int .i64 0, .int .i64 e.a, .int .i64 x, .int .i64 e.c.k, .int .i64 e.c.s, .int .i64 e.c.q, .string e.c.nm, .int .i64 e.c.n] 62)).drew) hH0)
        have HH8 := Lib.hid hH8
        (try dsimp only at hH8)
        clear hr8 hk8 ho8 hb8
        (try go_wp2_with fail)
        refine hK.out _ _ (hH8) (fun hHeld => ?_)
        clear hK K
        (try simp only [Act.put, List.setIfInBounds_toArray, List.set_cons_zero, List.set_cons_succ])
        refine wpAnyH_take (i := 8) (oi := _) (v := ?_) (by simp only [List.getElem?_toArray, List.getElem?_cons_succ, List.getElem?_cons_zero]; rfl) (by kernel_rfl) (by kernel_rfl) (by kernel_rfl) (fun _ _ _ h => h) (Or.inl ⟨by rfl, ?_⟩) (by assumption) ?_
        rotate_left
        · (intro w hSw; (try dsimp only at hSw); go_simp; (try with_reducible rfl))
        (try simp only [Act.put, List.setIfInBounds_toArray, List.set_cons_zero, List.set_cons_succ])
        refine wpAnyH_take (i := 9) (oi := _) (v := ?_) (by simp only [List.getElem?_toArray, List.getElem?_cons_succ, List.getElem?_cons_zero]; rfl) (by kernel_rfl) (by kernel_rfl) (by kernel_rfl) (fun _ _ _ h => h) (Or.inl ⟨by rfl, ?_⟩) (by assumption) ?_
        rotate_left
        · (intro w hSw; (try dsimp only at hSw); go_simp; (try with_reducible rfl))
        (try simp only [Act.put, List.setIfInBounds_toArray, List.set_cons_zero, List.set_cons_succ])
        refine wpAnyH_ready (rs := [10]) (by kernel_rfl) (by simp) ?_
        refine AllReadyH.cons (o := _) (by simp only [List.getElem?_toArray, List.getElem?_cons_succ, List.getElem?_cons_zero]; rfl) (fun K hK => ?_) AllReadyH.nil
        go_simp
        refine hK.out _ _ (SF.out _ 3 _ (SF.out _ 2 _ (SF.out _ 1 _ (SF.out _ 0 _ HH8.out)))) (fun hHeld => ?_)
        clear hK K
        (try simp only [Act.put, List.setIfInBounds_toArray, List.set_cons_zero, List.set_cons_succ])
        refine wpAnyH_done (by kernel_rfl) ?_ _
        refine NoPanic.normal ?_
        have HT := Lib.hid (SF.out _ 3 (.slice A8 (putE D.es (setB e x)).length c8) (SF.out _ 2 (.string D.sn) (SF.out _ 1 (.int .i64 D.ba) (SF.out _ 0 (.int .i64 x) HH8.out))))
        obtain ⟨t0, t1, t2, t3, t4, t5, t6, t7, t8⟩ := HT.out
        have H10 := Lib.hid TK.out.2
        obtain ⟨LL, hLL⟩ : ∃ LL, recP D x ++ [(⟨2, 0, setB e x⟩ : Rc)] = LL := ⟨_, rfl⟩
        have HADD := Lib.hid (x_add (Holds.second (Holds.second H10.out).drop) ((SD.out _).star ((SB.out _ _ _).star SQ.out)) (by unfold recP; split <;> simp) ⟨2, 0, setB e x⟩)
        rw [hLL] at HADD E
        clear hLL
        unfold Rc.val Rc.cs setB at HADD
        clear r0 g0 r1 g1 r2 g2 r3 g3 q0 q1 q2 q3 p0 p1 p2 a0 a1 a2 a3 d0 d1 d2 d3 hH0 hH8
        go_wp2_with fail
        refine HADD.out.mono ?_
        rintro e2 w10 ⟨rfl, h10⟩
        obtain ⟨A7, c7, a7, h8⟩ := rc_open h10
        have h9 := Holds.second (Holds.third h8)
        have BO := blk_at h9
        obtain ⟨r0, g0, r1, g1, r2, g2, r3, g3, q0, q1, q2, q3, p0, p1, p2⟩ := store4 BO (.slice A7 LL.length c7) (.bool false) (.slice none 0 0) (.slice none 0 0)
        have H9 := Lib.hid (Holds.second (held4 h9 ((SD.out _).star ((SR.out _ _ _ _ _).star SQ.out)) (.slice A7 LL.length c7) (.bool false) (.slice none 0 0) (.slice none 0 0)).drop)
        clear h10 h8 h9 BO t0 t1 t2 t3 t4 t5 t6 t7 t8
        go_wp2_with fail
        refine bodyPost_ret (v := .tuple #[outV A7 LL.length c7, .bool true]) (by simp [results, Try.results12, go_sem, hu, p0, p1, p2, q0, q1, q2, q3]) rfl ?_
        rw [E.out]
        exact ⟨A7, c7, rfl, H9.out⟩
      · go_simp
        refine hK.out _ _ (SA.out _ _ ((Keep.same Nothing _).alloc _) (by first | exact hHeld)) (fun hHeld => ?_)
        clear hK K
        (try simp only [Act.put, List.setIfInBounds_toArray, List.set_cons_zero, List.set_cons_succ])
        refine wpAnyH_ready (rs := [4]) (by kernel_rfl) (by simp) ?_
        refine AllReadyH.cons (o := _) (by simp only [List.getElem?_toArray, List.getElem?_cons_succ, List.getElem?_cons_zero]; rfl) (fun K hK => ?_) AllReadyH.nil
        go_simp
        refine hK.out _ _ (by first | exact hHeld) (fun hHeld => ?_)
        clear hK K
        (try simp only [Act.put, List.setIfInBounds_toArray, List.set_cons_zero, List.set_cons_succ])
        refine wpAnyH_ready (rs := [7]) (by kernel_rfl) (by simp) ?_
        refine AllReadyH.cons (o := _) (by simp only [List.getElem?_toArray, List.getElem?_cons_succ, List.getElem?_cons_zero]; rfl) (fun K hK => ?_) AllReadyH.nil
        go_simp
        refine HI.out.mono ?_
        rintro e2 w8 ⟨A8, c8, rfl, hr8, hk8, ho8⟩
        have TK := Lib.hid (d_take (D' := ⟨x, D.ba, D.sn, putE D.es (setB e x)⟩) (Holds.second WA.out) STB.out hk8 hr8 ho8)
        obtain ⟨v8, hb8⟩ := TK.out.1
        obtain ⟨r0, g0, r1, g1, r2, g2, r3, g3, q0, q1, q2, q3, p0, p1, p2⟩ := store4 hb8 (.int .i64 x) (.int .i64 D.ba) (.string D.sn) (.slice A8 (putE D.es (setB e x)).length c8)
        have hH8 := SA.out _ _ hk8 (SA.out _ _ (((Keep.same Nothing _).alloc (.cells #[.int .i64 2, .int .i64 0, .int .i64 e.a, .int .i64 x, .int .i64 e.c.k, .int .i64 e.c.s, .int .i64 e.c.q, .string e.c.nm, .int .i64 e.c.n] 62)).drew) hH0)
        have HH8 := Lib.hid hH8
        (try dsimp only at hH8)
        clear hr8 hk8 ho8 hb8
        (try go_wp2_with fail)
        refine hK.out _ _ (hH8) (fun hHeld => ?_)
        clear hK K
        (try simp only [Act.put, List.setIfInBounds_toArray, List.set_cons_zero, List.set_cons_succ])
        refine wpAnyH_take (i := 8) (oi := _) (v := ?_) (by simp only [List.getElem?_toArray, List.getElem?_cons_succ, List.getElem?_cons_zero]; rfl) (by kernel_rfl) (by kernel_rfl) (by kernel_rfl) (fun _ _ _ h => h) (Or.inl ⟨by rfl, ?_⟩) (by assumption) ?_
        rotate_left
        · (intro w hSw; (try dsimp only at hSw); go_simp; (try with_reducible rfl))
        (try simp only [Act.put, List.setIfInBounds_toArray, List.set_cons_zero, List.set_cons_succ])
        refine wpAnyH_take (i := 9) (oi := _) (v := ?_) (by simp only [List.getElem?_toArray, List.getElem?_cons_succ, List.getElem?_cons_zero]; rfl) (by kernel_rfl) (by kernel_rfl) (by kernel_rfl) (fun _ _ _ h => h) (Or.inl ⟨by rfl, ?_⟩) (by assumption) ?_
        rotate_left
        · (intro w hSw; (try dsimp only at hSw); go_simp; (try with_reducible rfl))
        (try simp only [Act.put, List.setIfInBounds_toArray, List.set_cons_zero, List.set_cons_succ])
        refine wpAnyH_ready (rs := [10]) (by kernel_rfl) (by simp) ?_
        refine AllReadyH.cons (o := _) (by simp only [List.getElem?_toArray, List.getElem?_cons_succ, List.getElem?_cons_zero]; rfl) (fun K hK => ?_) AllReadyH.nil
        go_simp
        refine hK.out _ _ (SF.out _ 3 _ (SF.out _ 2 _ (SF.out _ 1 _ (SF.out _ 0 _ HH8.out)))) (fun hHeld => ?_)
        clear hK K
        (try simp only [Act.put, List.setIfInBounds_toArray, List.set_cons_zero, List.set_cons_succ])
        refine wpAnyH_done (by kernel_rfl) ?_ _
        refine NoPanic.normal ?_
        have HT := Lib.hid (SF.out _ 3 (.slice A8 (putE D.es (setB e x)).length c8) (SF.out _ 2 (.string D.sn) (SF.out _ 1 (.int .i64 D.ba) (SF.out _ 0 (.int .i64 x) HH8.out))))
        obtain ⟨t0, t1, t2, t3, t4, t5, t6, t7, t8⟩ := HT.out
        have H10 := Lib.hid TK.out.2
        obtain ⟨LL, hLL⟩ : ∃ LL, recP D x ++ [(⟨2, 0, setB e x⟩ : Rc)] = LL := ⟨_, rfl⟩
        have HADD := Lib.hid (x_add (Holds.second (Holds.second H10.out).drop) ((SD.out _).star ((SB.out _ _ _).star SQ.out)) (by unfold recP; split <;> simp) ⟨2, 0, setB e x⟩)
        rw [hLL] at HADD E
        clear hLL
        unfold Rc.val Rc.cs setB at HADD
        clear r0 g0 r1 g1 r2 g2 r3 g3 q0 q1 q2 q3 p0 p1 p2 a0 a1 a2 a3 d0 d1 d2 d3 hH0 hH8
        go_wp2_with fail
        refine HADD.out.mono ?_
        rintro e2 w10 ⟨rfl, h10⟩
        obtain ⟨A7, c7, a7, h8⟩ := rc_open h10
        have h9 := Holds.second (Holds.third h8)
        have BO := blk_at h9
        obtain ⟨r0, g0, r1, g1, r2, g2, r3, g3, q0, q1, q2, q3, p0, p1, p2⟩ := store4 BO (.slice A7 LL.length c7) (.bool false) (.slice none 0 0) (.slice none 0 0)
        have H9 := Lib.hid (Holds.second (held4 h9 ((SD.out _).star ((SR.out _ _ _ _ _).star SQ.out)) (.slice A7 LL.length c7) (.bool false) (.slice none 0 0) (.slice none 0 0)).drop)
        clear h10 h8 h9 BO t0 t1 t2 t3 t4 t5 t6 t7 t8
        go_wp2_with fail
        refine bodyPost_ret (v := .tuple #[outV A7 LL.length c7, .bool true]) (by simp [results, Try.results12, go_sem, hu, p0, p1, p2, q0, q1, q2, q3]) rfl ?_
        rw [E.out]
        exact ⟨A7, c7, rfl, H9.out⟩
    · rw [hb, hq2, Bool.and_self, Bool.not_true, Bool.and_false] at E
      have hq2' : eqE old ⟨e.a, x, e.c⟩ = true := hq2
      simp only [hq2', Bool.not_true] at hq
      clear hq2 hq2'
      go_wp2_with fail
      go_quiet (fail)
      have hN := ((H6.out.alloc ST.out (.cells old.cs 37)).drewN ST.out nq).drop
      obtain ⟨A7, c7, a7, h8⟩ := rc_open hN.second
      have h9 := Holds.second (Holds.third h8)
      have BO := blk_at h9
      obtain ⟨r0, g0, r1, g1, r2, g2, r3, g3, q0, q1, q2, q3, p0, p1, p2⟩ := store4 BO (.slice A7 (recP D x).length c7) (.bool false) (.slice none 0 0) (.slice none 0 0)
      have H9 := Lib.hid (Holds.second (held4 h9 ((SD.out _).star ((SR.out _ _ _ _ _).star SQ.out)) (.slice A7 (recP D x).length c7) (.bool false) (.slice none 0 0) (.slice none 0 0)).drop)
      clear hN h8 h9 BO y0 y1 y2 y3 y4 y5 y6 z0 z1 z2 z3 z4 z5 z6 d1'
      go_wp2_with fail
      refine bodyPost_ret (v := .tuple #[outV A7 (recP D x).length c7, .bool true]) (by simp [results, Try.results12, go_sem, hu, p0, p1, p2, q0, q1, q2, q3]) rfl ?_
      rw [E.out]
      exact ⟨A7, c7, rfl, H9.out⟩
    · rw [hb, hq2, Bool.and_false, Bool.not_false, Bool.and_self] at E
      have hq2' : eqE old ⟨e.a, x, e.c⟩ = false := hq2
      simp only [hq2', Bool.not_false] at hq
      clear hq2 hq2'
      go_wp2_with fail
      go_quiet (fail)
      have W9 := Lib.hid (((H6.out.alloc ST.out (.cells old.cs 37)).drewN ST.out nq).alloc ST.out (.cells #[.int .i64 2, .int .i64 0, .int .i64 e.a, .int .i64 x, .int .i64 e.c.k, .int .i64 e.c.s, .int .i64 e.c.q, .string e.c.nm, .int .i64 e.c.n] 62))
      have Z9 := Blk.fresh ((w5.alloc (.cells old.cs 37)).drewN nq) 62 #[.int .i64 2, .int .i64 0, .int .i64 e.a, .int .i64 x, .int .i64 e.c.k, .int .i64 e.c.s, .int .i64 e.c.q, .string e.c.nm, .int .i64 e.c.n]
      rw [show ((w5.alloc (.cells old.cs 37)).drewN nq).heap.size = w5.heap.size + 1 from size_alloc _ _] at Z9
      have ZH := Lib.hid Z9
      obtain ⟨F9, v9, hb9, hr9, hF9⟩ := (Holds.second W9.out).left
      obtain ⟨A9, c9, rfl, _, _⟩ := hr9.form
      have hb9a := hb9.alloc (.cells #[.int .i64 2, .int .i64 0, .int .i64 e.a, .int .i64 x, .int .i64 e.c.k, .int .i64 e.c.s, .int .i64 e.c.q, .string e.c.nm, .int .i64 e.c.n] 62)
      have hr9a := Lib.hid ((hr9.alloc (.cells #[.int .i64 2, .int .i64 0, .int .i64 e.a, .int .i64 x, .int .i64 e.c.k, .int .i64 e.c.s, .int .i64 e.c.q, .string e.c.nm, .int .i64 e.c.n] 62)).keep ((Keep.same Nothing _).drew) (fun _ _ h => h))
      have LB := Lib.hid (show b < w5.heap.size from (by
        obtain ⟨_, _, hbb, _⟩ := (Holds.second H6.out).left
        exact hbb.lt))
      have WA := Lib.hid ((W9.out.alloc ST.out (.cells #[.int .i64 2, .int .i64 0, .int .i64 e.a, .int .i64 x, .int .i64 e.c.k, .int .i64 e.c.s, .int .i64 e.c.q, .string e.c.nm, .int .i64 e.c.n] 62)).kept ST.out ((Keep.same Nothing _).drew))
      have SRC := Lib.hid (show U.Src ((((w5.alloc (.cells old.cs 37)).drewN nq).alloc (.cells #[.int .i64 2, .int .i64 0, .int .i64 e.a, .int .i64 x, .int .i64 e.c.k, .int .i64 e.c.s, .int .i64 e.c.q, .string e.c.nm, .int .i64 e.c.n] 62)).alloc (.cells #[.int .i64 2, .int .i64 0, .int .i64 e.a, .int .i64 x, .int .i64 e.c.k, .int .i64 e.c.s, .int .i64 e.c.q, .string e.c.nm, .int .i64 e.c.n] 62)).drew (some ⟨(((w5.alloc (.cells old.cs 37)).drewN nq).alloc (.cells #[.int .i64 2, .int .i64 0, .int .i64 e.a, .int .i64 x, .int .i64 e.c.k, .int .i64 e.c.s, .int .i64 e.c.q, .string e.c.nm, .int .i64 e.c.n] 62)).heap.size, 0, none⟩) 9 1 (recs [⟨2, 0, setB e x⟩]) from U.Src.fresh (((w5.alloc (.cells old.cs 37)).drewN nq).alloc (.cells #[.int .i64 2, .int .i64 0, .int .i64 e.a, .int .i64 x, .int .i64 e.c.k, .int .i64 e.c.s, .int .i64 e.c.q, .string e.c.nm, .int .i64 e.c.n] 62)) #[.int .i64 2, .int .i64 0, .int .i64 e.a, .int .i64 x, .int .i64 e.c.k, .int .i64 e.c.s, .int .i64 e.c.q, .string e.c.nm, .int .i64 e.c.n] 62 9 1 rfl)
      rw [show (((w5.alloc (.cells old.cs 37)).drewN nq).alloc (.cells #[.int .i64 2, .int .i64 0, .int .i64 e.a, .int .i64 x, .int .i64 e.c.k, .int .i64 e.c.s, .int .i64 e.c.q, .string e.c.nm, .int .i64 e.c.n] 62)).heap.size = w5.heap.size + 1 + 1 by rw [size_alloc]; show (w5.alloc (.cells old.cs 37)).heap.size + 1 = _; rw [size_alloc]] at SRC
      have EQ := Lib.hid (show foldL ⟨x, D.ba, D.sn, D.es⟩ [⟨2, 0, setB e x⟩] = ⟨x, D.ba, D.sn, putE D.es (setB e x)⟩ by
        have h3 : ¬ (setB e x).a ≤ D.ba := by have := of_decide_eq_true hb; show ¬ e.a ≤ D.ba; omega
        simp [foldL, foldR, mx, setB, h3] at h3 ⊢
        intro h4
        omega)
      have HI := Lib.hid (fold26 _ ⟨x, D.ba, D.sn, D.es⟩ A9 c9 hr9a.out.src (by show D.es.length ≤ 500000; omega) HR.out (some ⟨w5.heap.size + 1 + 1, 0, none⟩) 1 1 [⟨2, 0, setB e x⟩] SRC.out (by omega))
      rw [EQ.out] at HI
      have d0 := hb9.cell 0
      have d1 := hb9.cell 1
      have d2 := hb9.cell 2
      have d3 := hb9.cell 3
      have a0 := hb9a.cell 0
      have a1 := hb9a.cell 1
      have a2 := hb9a.cell 2
      have a3 := hb9a.cell 3
      have hH0 : (fun w' => w'.cell? ⟨w5.heap.size + 1, 0, none⟩ = some (.int .i64 2) ∧ w'.cell? ⟨w5.heap.size + 1, 1, none⟩ = some (.int .i64 0) ∧ w'.cell? ⟨w5.heap.size + 1, 2, none⟩ = some (.int .i64 e.a) ∧ w'.cell? ⟨w5.heap.size + 1, 3, none⟩ = some (.int .i64 x) ∧ w'.cell? ⟨w5.heap.size + 1, 4, none⟩ = some (.int .i64 e.c.k) ∧ w'.cell? ⟨w5.heap.size + 1, 5, none⟩ = some (.int .i64 e.c.s) ∧ w'.cell? ⟨w5.heap.size + 1, 6, none⟩ = some (.int .i64 e.c.q) ∧ w'.cell? ⟨w5.heap.size + 1, 7, none⟩ = some (.string e.c.nm) ∧ w'.cell? ⟨w5.heap.size + 1, 8, none⟩ = some (.int .i64 e.c.n)) (((w5.alloc (.cells old.cs 37)).drewN nq).alloc (.cells #[.int .i64 2, .int .i64 0, .int .i64 e.a, .int .i64 x, .int .i64 e.c.k, .int .i64 e.c.s, .int .i64 e.c.q, .string e.c.nm, .int .i64 e.c.n] 62)) := ⟨Z9.cell 0, Z9.cell 1, Z9.cell 2, Z9.cell 3, Z9.cell 4, Z9.cell 5, Z9.cell 6, Z9.cell 7, Z9.cell 8⟩
      have NB := Lib.hid (show w5.heap.size + 1 ≠ b from fun h => by have := LB.out; omega)
      have SF := Lib.hid (show ∀ (X : World) (i : Nat) (u : Value), (fun w' => w'.cell? ⟨w5.heap.size + 1, 0, none⟩ = some (.int .i64 2) ∧ w'.cell? ⟨w5.heap.size + 1, 1, none⟩ = some (.int .i64 0) ∧ w'.cell? ⟨w5.heap.size + 1, 2, none⟩ = some (.int .i64 e.a) ∧ w'.cell? ⟨w5.heap.size + 1, 3, none⟩ = some (.int .i64 x) ∧ w'.cell? ⟨w5.heap.size + 1, 4, none⟩ = some (.int .i64 e.c.k) ∧ w'.cell? ⟨w5.heap.size + 1, 5, none⟩ = some (.int .i64 e.c.s) ∧ w'.cell? ⟨w5.heap.size + 1, 6, none⟩ = some (.int .i64 e.c.q) ∧ w'.cell? ⟨w5.heap.size + 1, 7, none⟩ = some (.string e.c.nm) ∧ w'.cell? ⟨w5.heap.size + 1, 8, none⟩ = some (.int .i64 e.c.n)) X → (fun w' => w'.cell? ⟨w5.heap.size + 1, 0, none⟩ = some (.int .i64 2) ∧ w'.cell? ⟨w5.heap.size + 1, 1, none⟩ = some (.int .i64 0) ∧ w'.cell? ⟨w5.heap.size + 1, 2, none⟩ = some (.int .i64 e.a) ∧ w'.cell? ⟨w5.heap.size + 1, 3, none⟩ = some (.int .i64 x) ∧ w'.cell? ⟨w5.heap.size + 1, 4, none⟩ = some (.int .i64 e.c.k) ∧ w'.cell? ⟨w5.heap.size + 1, 5, none⟩ = some (.int .i64 e.c.s) ∧ w'.cell? ⟨w5.heap.size + 1, 6, none⟩ = some (.int .i64 e.c.q) ∧ w'.cell? ⟨w5.heap.size + 1, 7, none⟩ = some (.string e.c.nm) ∧ w'.cell? ⟨w5.heap.size + 1, 8, none⟩ = some (.int .i64 e.c.n)) (X.setCell ⟨b, i, none⟩ u) from fun X i u h => ⟨(cell_far X b i u _ _ NB.out).trans h.1, (cell_far X b i u _ _ NB.out).trans h.2.1, (cell_far X b i u _ _ NB.out).trans h.2.2.1, (cell_far X b i u _ _ NB.out).trans h.2.2.2.1, (cell_far X b i u _ _ NB.out).trans h.2.2.2.2.1, (cell_far X b i u _ _ NB.out).trans h.2.2.2.2.2.1, (cell_far X b i u _ _ NB.out).trans h.2.2.2.2.2.2.1, (cell_far X b i u _ _ NB.out).trans h.2.2.2.2.2.2.2.1, (cell_far X b i u _ _ NB.out).trans h.2.2.2.2.2.2.2.2⟩)
      have SA := Lib.hid (show ∀ (X Y : World), Keep Nothing X Y → (fun w' => w'.cell? ⟨w5.heap.size + 1, 0, none⟩ = some (.int .i64 2) ∧ w'.cell? ⟨w5.heap.size + 1, 1, none⟩ = some (.int .i64 0) ∧ w'.cell? ⟨w5.heap.size + 1, 2, none⟩ = some (.int .i64 e.a) ∧ w'.cell? ⟨w5.heap.size + 1, 3, none⟩ = some (.int .i64 x) ∧ w'.cell? ⟨w5.heap.size + 1, 4, none⟩ = some (.int .i64 e.c.k) ∧ w'.cell? ⟨w5.heap.size + 1, 5, none⟩ = some (.int .i64 e.c.s) ∧ w'.cell? ⟨w5.heap.size + 1, 6, none⟩ = some (.int .i64 e.c.q) ∧ w'.cell? ⟨w5.heap.size + 1, 7, none⟩ = some (.string e.c.nm) ∧ w'.cell? ⟨w5.heap.size + 1, 8, none⟩ = some (.int .i64 e.c.n)) X → (fun w' => w'.cell? ⟨w5.heap.size + 1, 0, none⟩ = some (.int .i64 2) ∧ w'.cell? ⟨w5.heap.size + 1, 1, none⟩ = some (.int .i64 0) ∧ w'.cell? ⟨w5.heap.size + 1, 2, none⟩ = some (.int .i64 e.a) ∧ w'.cell? ⟨w5.heap.size + 1, 3, none⟩ = some (.int .i64 x) ∧ w'.cell? ⟨w5.heap.size + 1, 4, none⟩ = some (.int .i64 e.c.k) ∧ w'.cell? ⟨w5.heap.size + 1, 5, none⟩ = some (.int .i64 e.c.s) ∧ w'.cell? ⟨w5.heap.size + 1, 6, none⟩ = some (.int .i64 e.c.q) ∧ w'.cell? ⟨w5.heap.size + 1, 7, none⟩ = some (.string e.c.nm) ∧ w'.cell? ⟨w5.heap.size + 1, 8, none⟩ = some (.int .i64 e.c.n)) Y from fun X Y k h => ⟨k.cell h.1 (fun h => h), k.cell h.2.1 (fun h => h), k.cell h.2.2.1 (fun h => h), k.cell h.2.2.2.1 (fun h => h), k.cell h.2.2.2.2.1 (fun h => h), k.cell h.2.2.2.2.2.1 (fun h => h), k.cell h.2.2.2.2.2.2.1 (fun h => h), k.cell h.2.2.2.2.2.2.2.1 (fun h => h), k.cell h.2.2.2.2.2.2.2.2 (fun h => h)⟩)
      dsimp only at hH0
      clear hb9 hr9 hF9 hb9a d1' Z9 hb z0 z1 z2 z3 z4 z5 z6
      unfold Ent.cs at *
      go_wp2_with fail
      clear y0 y1 y2 y3 y4 y5 y6
      refine wp_region_noPanic ?_
      refine wp_region_held_drew (S := (fun w' => w'.cell? ⟨w5.heap.size + 1, 0, none⟩ = some (.int .i64 2) ∧ w'.cell? ⟨w5.heap.size + 1, 1, none⟩ = some (.int .i64 0) ∧ w'.cell? ⟨w5.heap.size + 1, 2, none⟩ = some (.int .i64 e.a) ∧ w'.cell? ⟨w5.heap.size + 1, 3, none⟩ = some (.int .i64 x) ∧ w'.cell? ⟨w5.heap.size + 1, 4, none⟩ = some (.int .i64 e.c.k) ∧ w'.cell? ⟨w5.heap.size + 1, 5, none⟩ = some (.int .i64 e.c.s) ∧ w'.cell? ⟨w5.heap.size + 1, 6, none⟩ = some (.int .i64 e.c.q) ∧ w'.cell? ⟨w5.heap.size + 1, 7, none⟩ = some (.string e.c.nm) ∧ w'.cell? ⟨w5.heap.size + 1, 8, none⟩ = some (.int .i64 e.c.n))) (by kernel_rfl) hH0 (fun hHeld => ?_)
      refine wpAnyH_take (i := 0) (oi := _) (v := ?_) (by simp only [List.getElem?_toArray, List.getElem?_cons_succ, List.getElem?_cons_zero]; rfl) (by kernel_rfl) (by kernel_rfl) (by kernel_rfl) (fun _ _ _ h => h) (Or.inl ⟨by rfl, ?_⟩) (by assumption) ?_
      rotate_left
      · (intro w hSw; (try dsimp only at hSw); go_simp; (try with_reducible rfl))
      (try simp only [Act.put, List.setIfInBounds_toArray, List.set_cons_zero, List.set_cons_succ])
      refine wpAnyH_take (i := 1) (oi := _) (v := ?_) (by simp only [List.getElem?_toArray, List.getElem?_cons_succ, List.getElem?_cons_zero]; rfl) (by kernel_rfl) (by kernel_rfl) (by kernel_rfl) (fun _ _ _ h => h) (Or.inl ⟨by rfl, ?_⟩) (by assumption) ?_
      rotate_left
      · (intro w hSw; (try dsimp only at hSw); go_simp; (try with_reducible rfl))
      (try simp only [Act.put, List.setIfInBounds_toArray, List.set_cons_zero, List.set_cons_succ])
      refine wpAnyH_take (i := 2) (oi := _) (v := ?_) (by simp only [List.getElem?_toArray, List.getElem?_cons_succ, List.getElem?_cons_zero]; rfl) (by kernel_rfl) (by kernel_rfl) (by kernel_rfl) (fun _ _ _ h => h) (Or.inl ⟨by rfl, ?_⟩) (by assumption) ?_
      rotate_left
      · (intro w hSw; (try dsimp only at hSw); go_simp; (try with_reducible rfl))
      (try simp only [Act.put, List.setIfInBounds_toArray, List.set_cons_zero, List.set_cons_succ])
      refine wpAnyH_take (i := 3) (oi := _) (v := ?_) (by simp only [List.getElem?_toArray, List.getElem?_cons_succ, List.getElem?_cons_zero]; rfl) (by kernel_rfl) (by kernel_rfl) (by kernel_rfl) (fun _ _ _ h => h) (Or.inl ⟨by rfl, ?_⟩) (by assumption) ?_
      rotate_left
      · (intro w hSw; (try dsimp only at hSw); go_simp; (try with_reducible rfl))
      (try simp only [Act.put, List.setIfInBounds_toArray, List.set_cons_zero, List.set_cons_succ])
      refine wpAnyH_take (i := 5) (oi := _) (v := ?_) (by simp only [List.getElem?_toArray, List.getElem?_cons_succ, List.getElem?_cons_zero]; rfl) (by kernel_rfl) (by kernel_rfl) (by kernel_rfl) (fun _ _ _ h => h) (Or.inl ⟨by rfl, ?_⟩) (by assumption) ?_
      rotate_left
      · (intro w hSw; (try dsimp only at hSw); go_simp; (try with_reducible rfl))
      (try simp only [Act.put, List.setIfInBounds_toArray, List.set_cons_zero, List.set_cons_succ])
      refine wpAnyH_ready (rs := [4, 6]) (by kernel_rfl) (by simp) ?_
      refine AllReadyH.cons (o := _) (by simp only [List.getElem?_toArray, List.getElem?_cons_succ, List.getElem?_cons_zero]; rfl) (fun K hK => ?_) (AllReadyH.cons (o := _) (by simp only [List.getElem?_toArray, List.getElem?_cons_succ, List.getElem?_cons_zero]; rfl) (fun K hK => ?_) AllReadyH.nil)
      · go_simp
        refine hK.out _ _ (by first | exact hHeld) (fun hHeld => ?_)
        clear hK K
        (try simp only [Act.put, List.setIfInBounds_toArray, List.set_cons_zero, List.set_cons_succ])
        refine wpAnyH_ready (rs := [6]) (by kernel_rfl) (by simp) ?_
        refine AllReadyH.cons (o := _) (by simp only [List.getElem?_toArray, List.getElem?_cons_succ, List.getElem?_cons_zero]; rfl) (fun K hK => ?_) AllReadyH.nil
        go_simp
        refine hK.out _ _ (SA.out _ _ ((Keep.same Nothing _).alloc _) (by first | exact hHeld)) (fun hHeld => ?_)
        clear hK K
        (try simp only [Act.put, List.setIfInBounds_toArray, List.set_cons_zero, List.set_cons_succ])
        refine wpAnyH_ready (rs := [7]) (by kernel_rfl) (by simp) ?_
        refine AllReadyH.cons (o := _) (by simp only [List.getElem?_toArray, List.getElem?_cons_succ, List.getElem?_cons_zero]; rfl) (fun K hK => ?_) AllReadyH.nil
        go_simp
        refine HI.out.mono ?_
        rintro e2 w8 ⟨A8, c8, rfl, hr8, hk8, ho8⟩
        have TK := Lib.hid (d_take (D' := ⟨x, D.ba, D.sn, putE D.es (setB e x)⟩) (Holds.second WA.out) STB.out hk8 hr8 ho8)
        obtain ⟨v8, hb8⟩ := TK.out.1
        obtain ⟨r0, g0, r1, g1, r2, g2, r3, g3, q0, q1, q2, q3, p0, p1, p2⟩ := store4 hb8 (.int .i64 x) (.int .i64 D.ba) (.string D.sn) (.slice A8 (putE D.es (setB e x)).length c8)
        have hH8 := SA.out _ _ hk8 (SA.out _ _ (((Keep.same Nothing _).alloc (.cells #[.int .i64 2, .int .i64 0, .int .i64 e.a, .int .i64 x, .int .i64 e.c.k, .int .i64 e.c.s, .int .i64 e.c.q, .string e.c.nm, .int .i64 e.c.n] 62)).drew) hH0)
        have HH8 := Lib.hid hH8
        (try dsimp only at hH8)
        clear hr8 hk8 ho8 hb8
        (try go_wp2_with fail)
        refine hK.out _ _ (hH8) (fun hHeld => ?_)
        clear hK K
        (try simp only [Act.put, List.setIfInBounds_toArray, List.set_cons_zero, List.set_cons_succ])
        refine wpAnyH_take (i := 8) (oi := _) (v := ?_) (by simp only [List.getElem?_toArray, List.getElem?_cons_succ, List.getElem?_cons_zero]; rfl) (by kernel_rfl) (by kernel_rfl) (by kernel_rfl) (fun _ _ _ h => h) (Or.inl ⟨by rfl, ?_⟩) (by assumption) ?_
        rotate_left
        · (intro w hSw; (try dsimp only at hSw); go_simp; (try with_reducible rfl))
        (try simp only [Act.put, List.setIfInBounds_toArray, List.set_cons_zero, List.set_cons_succ])
        refine wpAnyH_take (i := 9) (oi := _) (v := ?_) (by simp only [List.getElem?_toArray, List.getElem?_cons_succ, List.getElem?_cons_zero]; rfl) (by kernel_rfl) (by kernel_rfl) (by kernel_rfl) (fun _ _ _ h => h) (Or.inl ⟨by rfl, ?_⟩) (by assumption) ?_
        rotate_left
        · (intro w hSw; (try dsimp only at hSw); go_simp; (try with_reducible rfl))
        (try simp only [Act.put, List.setIfInBounds_toArray, List.set_cons_zero, List.set_cons_succ])
        refine wpAnyH_ready (rs := [10]) (by kernel_rfl) (by simp) ?_
        refine AllReadyH.cons (o := _) (by simp only [List.getElem?_toArray, List.getElem?_cons_succ, List.getElem?_cons_zero]; rfl) (fun K hK => ?_) AllReadyH.nil
        go_simp
        refine hK.out _ _ (SF.out _ 3 _ (SF.out _ 2 _ (SF.out _ 1 _ (SF.out _ 0 _ HH8.out)))) (fun hHeld => ?_)
        clear hK K
        (try simp only [Act.put, List.setIfInBounds_toArray, List.set_cons_zero, List.set_cons_succ])
        refine wpAnyH_done (by kernel_rfl) ?_ _
        refine NoPanic.normal ?_
        have HT := Lib.hid (SF.out _ 3 (.slice A8 (putE D.es (setB e x)).length c8) (SF.out _ 2 (.string D.sn) (SF.out _ 1 (.int .i64 D.ba) (SF.out _ 0 (.int .i64 x) HH8.out))))
        obtain ⟨t0, t1, t2, t3, t4, t5, t6, t7, t8⟩ := HT.out
        have H10 := Lib.hid TK.out.2
        obtain ⟨LL, hLL⟩ : ∃ LL, recP D x ++ [(⟨2, 0, setB e x⟩ : Rc)] = LL := ⟨_, rfl⟩
        have HADD := Lib.hid (x_add (Holds.second (Holds.second H10.out).drop) ((SD.out _).star ((SB.out _ _ _).star SQ.out)) (by unfold recP; split <;> simp) ⟨2, 0, setB e x⟩)
        rw [hLL] at HADD E
        clear hLL
        unfold Rc.val Rc.cs setB at HADD
        clear r0 g0 r1 g1 r2 g2 r3 g3 q0 q1 q2 q3 p0 p1 p2 a0 a1 a2 a3 d0 d1 d2 d3 hH0 hH8
        go_wp2_with fail
        refine HADD.out.mono ?_
        rintro e2 w10 ⟨rfl, h10⟩
        obtain ⟨A7, c7, a7, h8⟩ := rc_open h10
        have h9 := Holds.second (Holds.third h8)
        have BO := blk_at h9
        obtain ⟨r0, g0, r1, g1, r2, g2, r3, g3, q0, q1, q2, q3, p0, p1, p2⟩ := store4 BO (.slice A7 LL.length c7) (.bool false) (.slice none 0 0) (.slice none 0 0)
        have H9 := Lib.hid (Holds.second (held4 h9 ((SD.out _).star ((SR.out _ _ _ _ _).star SQ.out)) (.slice A7 LL.length c7) (.bool false) (.slice none 0 0) (.slice none 0 0)).drop)
        clear h10 h8 h9 BO t0 t1 t2 t3 t4 t5 t6 t7 t8
        go_wp2_with fail
        refine bodyPost_ret (v := .tuple #[outV A7 LL.length c7, .bool true]) (by simp [results, Try.results12, go_sem, hu, p0, p1, p2, q0, q1, q2, q3]) rfl ?_
        rw [E.out]
        exact ⟨A7, c7, rfl, H9.out⟩
      · go_simp
        refine hK.out _ _ (SA.out _ _ ((Keep.same Nothing _).alloc _) (by first | exact hHeld)) (fun hHeld => ?_)
        clear hK K
        (try simp only [Act.put, List.setIfInBounds_toArray, List.set_cons_zero, List.set_cons_succ])
        refine wpAnyH_ready (rs := [4]) (by kernel_rfl) (by simp) ?_
        refine AllReadyH.cons (o := _) (by simp only [List.getElem?_toArray, List.getElem?_cons_succ, List.getElem?_cons_zero]; rfl) (fun K hK => ?_) AllReadyH.nil
        go_simp
        refine hK.out _ _ (by first | exact hHeld) (fun hHeld => ?_)
        clear hK K
        (try simp only [Act.put, List.setIfInBounds_toArray, List.set_cons_zero, List.set_cons_succ])
        refine wpAnyH_ready (rs := [7]) (by kernel_rfl) (by simp) ?_
        refine AllReadyH.cons (o := _) (by simp only [List.getElem?_toArray, List.getElem?_cons_succ, List.getElem?_cons_zero]; rfl) (fun K hK => ?_) AllReadyH.nil
        go_simp
        refine HI.out.mono ?_
        rintro e2 w8 ⟨A8, c8, rfl, hr8, hk8, ho8⟩
        have TK := Lib.hid (d_take (D' := ⟨x, D.ba, D.sn, putE D.es (setB e x)⟩) (Holds.second WA.out) STB.out hk8 hr8 ho8)
        obtain ⟨v8, hb8⟩ := TK.out.1
        obtain ⟨r0, g0, r1, g1, r2, g2, r3, g3, q0, q1, q2, q3, p0, p1, p2⟩ := store4 hb8 (.int .i64 x) (.int .i64 D.ba) (.string D.sn) (.slice A8 (putE D.es (setB e x)).length c8)
        have hH8 := SA.out _ _ hk8 (SA.out _ _ (((Keep.same Nothing _).alloc (.cells #[.int .i64 2, .int .i64 0, .int .i64 e.a, .int .i64 x, .int .i64 e.c.k, .int .i64 e.c.s, .int .i64 e.c.q, .string e.c.nm, .int .i64 e.c.n] 62)).drew) hH0)
        have HH8 := Lib.hid hH8
        (try dsimp only at hH8)
        clear hr8 hk8 ho8 hb8
        (try go_wp2_with fail)
        refine hK.out _ _ (hH8) (fun hHeld => ?_)
        clear hK K
        (try simp only [Act.put, List.setIfInBounds_toArray, List.set_cons_zero, List.set_cons_succ])
        refine wpAnyH_take (i := 8) (oi := _) (v := ?_) (by simp only [List.getElem?_toArray, List.getElem?_cons_succ, List.getElem?_cons_zero]; rfl) (by kernel_rfl) (by kernel_rfl) (by kernel_rfl) (fun _ _ _ h => h) (Or.inl ⟨by rfl, ?_⟩) (by assumption) ?_
        rotate_left
        · (intro w hSw; (try dsimp only at hSw); go_simp; (try with_reducible rfl))
        (try simp only [Act.put, List.setIfInBounds_toArray, List.set_cons_zero, List.set_cons_succ])
        refine wpAnyH_take (i := 9) (oi := _) (v := ?_) (by simp only [List.getElem?_toArray, List.getElem?_cons_succ, List.getElem?_cons_zero]; rfl) (by kernel_rfl) (by kernel_rfl) (by kernel_rfl) (fun _ _ _ h => h) (Or.inl ⟨by rfl, ?_⟩) (by assumption) ?_
        rotate_left
        · (intro w hSw; (try dsimp only at hSw); go_simp; (try with_reducible rfl))
        (try simp only [Act.put, List.setIfInBounds_toArray, List.set_cons_zero, List.set_cons_succ])
        refine wpAnyH_ready (rs := [10]) (by kernel_rfl) (by simp) ?_
        refine AllReadyH.cons (o := _) (by simp only [List.getElem?_toArray, List.getElem?_cons_succ, List.getElem?_cons_zero]; rfl) (fun K hK => ?_) AllReadyH.nil
        go_simp
        refine hK.out _ _ (SF.out _ 3 _ (SF.out _ 2 _ (SF.out _ 1 _ (SF.out _ 0 _ HH8.out)))) (fun hHeld => ?_)
        clear hK K
        (try simp only [Act.put, List.setIfInBounds_toArray, List.set_cons_zero, List.set_cons_succ])
        refine wpAnyH_done (by kernel_rfl) ?_ _
        refine NoPanic.normal ?_
        have HT := Lib.hid (SF.out _ 3 (.slice A8 (putE D.es (setB e x)).length c8) (SF.out _ 2 (.string D.sn) (SF.out _ 1 (.int .i64 D.ba) (SF.out _ 0 (.int .i64 x) HH8.out))))
        obtain ⟨t0, t1, t2, t3, t4, t5, t6, t7, t8⟩ := HT.out
        have H10 := Lib.hid TK.out.2
        obtain ⟨LL, hLL⟩ : ∃ LL, recP D x ++ [(⟨2, 0, setB e x⟩ : Rc)] = LL := ⟨_, rfl⟩
        have HADD := Lib.hid (x_add (Holds.second (Holds.second H10.out).drop) ((SD.out _).star ((SB.out _ _ _).star SQ.out)) (by unfold recP; split <;> simp) ⟨2, 0, setB e x⟩)
        rw [hLL] at HADD E
        clear hLL
        unfold Rc.val Rc.cs setB at HADD
        clear r0 g0 r1 g1 r2 g2 r3 g3 q0 q1 q2 q3 p0 p1 p2 a0 a1 a2 a3 d0 d1 d2 d3 hH0 hH8
        go_wp2_with fail
        refine HADD.out.mono ?_
        rintro e2 w10 ⟨rfl, h10⟩
        obtain ⟨A7, c7, a7, h8⟩ := rc_open h10
        have h9 := Holds.second (Holds.third h8)
        have BO := blk_at h9
        obtain ⟨r0, g0, r1, g1, r2, g2, r3, g3, q0, q1, q2, q3, p0, p1, p2⟩ := store4 BO (.slice A7 LL.length c7) (.bool false) (.slice none 0 0) (.slice none 0 0)
        have H9 := Lib.hid (Holds.second (held4 h9 ((SD.out _).star ((SR.out _ _ _ _ _).star SQ.out)) (.slice A7 LL.length c7) (.bool false) (.slice none 0 0) (.slice none 0 0)).drop)
        clear h10 h8 h9 BO t0 t1 t2 t3 t4 t5 t6 t7 t8
        go_wp2_with fail
        refine bodyPost_ret (v := .tuple #[outV A7 LL.length c7, .bool true]) (by simp [results, Try.results12, go_sem, hu, p0, p1, p2, q0, q1, q2, q3]) rfl ?_
        rw [E.out]
        exact ⟨A7, c7, rfl, H9.out⟩
end
end Go.Proofs.Ytnbllckmeehhjaa.A
