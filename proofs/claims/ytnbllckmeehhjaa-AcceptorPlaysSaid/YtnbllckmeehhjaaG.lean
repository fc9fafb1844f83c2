/-
  durable.Fold.
-/
import Derived.Test.YtnbllckmeehhjaaF
namespace Go.Proofs.Ytnbllckmeehhjaa.A
open Go.RowKit Go.Proofs.Ytnbllckmeehhjaa.U
set_option linter.unusedVariables false
set_option linter.unusedSimpArgs false
set_option maxRecDepth 100000

/-! ### Rows of records -/
def recs (l : List Rc) : List Value := l.flatMap Rc.cl
theorem recs_app (l m : List Rc) : recs (l ++ m) = recs l ++ recs m := by simp [recs]
theorem recs_one1 (x : Rc) : recs [x] = x.cl := by simp [recs]
theorem recs_len (l : List Rc) : (recs l).length = l.length * 9 := by
  induction l with
  | nil => rfl
  | cons x l ih => rw [show recs (x :: l) = x.cl ++ recs l from rfl, List.length_append, ih, List.length_cons]; simp only [List.length_cons, List.length_nil]; omega
theorem recs_one (l : List Rc) : ∀ u ∈ recs l, u.oneCell' = true := by
  intro u hu
  obtain ⟨x, _, h⟩ := List.mem_flatMap.1 hu
  simp only [Rc.cl, Ent.cl, List.mem_cons, List.not_mem_nil, or_false] at h
  rcases h with rfl | rfl | rfl | rfl | rfl | rfl | rfl | rfl | rfl <;> rfl
theorem recs_drop (l : List Rc) : ∀ k, (recs l).drop (k * 9) = recs (l.drop k) := by
  induction l with
  | nil => intro k; simp [recs]
  | cons x l ih =>
    intro k
    cases k with
    | zero => simp
    | succ k => rw [show recs (x :: l) = x.cl ++ recs l from rfl, List.drop_succ_cons, ← ih k, List.drop_append, List.drop_eq_nil_of_le (by simp; omega), List.nil_append]; congr 1; simp only [List.length_cons, List.length_nil]; omega
theorem recs_get {l : List Rc} {k : Nat} {x : Rc} (h : l[k]? = some x) (j : Nat) (hj : j < 9) : (recs l)[k * 9 + j]? = x.cl[j]? := by
  obtain ⟨hk, he⟩ := List.getElem?_eq_some_iff.1 h
  rw [← List.getElem?_drop, recs_drop, List.drop_eq_getElem_cons hk, he, show recs (x :: l.drop (k + 1)) = x.cl ++ recs (l.drop (k + 1)) from rfl, List.getElem?_append_left (by simp; omega)]
theorem rsrc_len {w : World} {A : Option Addr} {l : List Rc} {n : Nat} (h : U.Src w A 9 n (recs l)) : l.length = n := by
  have := h.1
  rw [recs_len] at this
  omega
def RecAt (w : World) (p : Addr) (x : Rc) : Prop :=
  w.cell? p = some (.int .i64 x.k) ∧ w.cell? ⟨p.block, p.off + 1, none⟩ = some (.int .i64 x.n) ∧ w.cell? ⟨p.block, p.off + 2, none⟩ = some (.int .i64 x.e.a) ∧ w.cell? ⟨p.block, p.off + 3, none⟩ = some (.int .i64 x.e.b) ∧ w.cell? ⟨p.block, p.off + 4, none⟩ = some (.int .i64 x.e.c.k) ∧
  w.cell? ⟨p.block, p.off + 5, none⟩ = some (.int .i64 x.e.c.s) ∧ w.cell? ⟨p.block, p.off + 6, none⟩ = some (.int .i64 x.e.c.q) ∧ w.cell? ⟨p.block, p.off + 7, none⟩ = some (.string x.e.c.nm) ∧ w.cell? ⟨p.block, p.off + 8, none⟩ = some (.int .i64 x.e.c.n)
theorem rec_at {w : World} {A : Option Addr} {l : List Rc} {n k : Nat} (h : U.Src w A 9 n (recs l)) (hk : k < n) : ∃ (ad : Addr) (x : Rc), A = some ad ∧ l[k]? = some x ∧ RecAt w (ad.add (k * 9)) x := by
  have hl := rsrc_len h
  obtain ⟨ad, rfl, hc⟩ := h.2 (by omega)
  have hx : l[k]? = some (l[k]'(by omega)) := List.getElem?_eq_getElem (by omega)
  refine ⟨ad, _, rfl, hx, ?_⟩
  have g : ∀ j u, (l[k]'(by omega)).cl[j]? = some u → w.cell? (ad.add (k * 9 + j)) = some u := fun j u hu => hc _ _ (by
    rw [recs_get hx j (by have := (List.getElem?_eq_some_iff.1 hu).1; simpa using this)]; exact hu)
  have g' : ∀ j u, 0 < j → (l[k]'(by omega)).cl[j]? = some u → w.cell? ⟨(ad.add (k * 9)).block, (ad.add (k * 9)).off + j, none⟩ = some u := fun j u hj hu => by
    rw [← addLater ad (k * 9) j hj]; exact g j u hu
  exact ⟨g 0 _ rfl, g' 1 _ (by omega) rfl, g' 2 _ (by omega) rfl, g' 3 _ (by omega) rfl, g' 4 _ (by omega) rfl, g' 5 _ (by omega) rfl, g' 6 _ (by omega) rfl, g' 7 _ (by omega) rfl, g' 8 _ (by omega) rfl⟩
theorem RecAt.keep {w w' : World} {p : Addr} {x : Rc} {S : Nat → Prop} (h : RecAt w p x) (hk : Keep S w w') (hn : ¬ S p.block) : RecAt w' p x := by
  obtain ⟨h0, h1, h2, h3, h4, h5, h6, h7, h8⟩ := h
  exact ⟨hk.cell h0 hn, hk.cell h1 hn, hk.cell h2 hn, hk.cell h3 hn, hk.cell h4 hn, hk.cell h5 hn, hk.cell h6 hn, hk.cell h7 hn, hk.cell h8 hn⟩
/-! ### A state, closed and opened -/
theorem d_close {B : Nat} {w0 w : World} {Q : SP} {b t : Nat} {D : DS} {v : Value} (h : Holds B w0 w (star (blkP b t #[.int .i64 D.pr, .int .i64 D.ba, .string D.sn, v]) (star (rowP 37 7 v D.es.length (ents D.es)) Q))) : Holds B w0 w (star (dP t b D) Q) :=
  h.imp fun F ⟨F1, F2, ⟨hb, hf⟩, ⟨F3, F4, ⟨hr, hf3⟩, hq, h3, h4⟩, h5, h6⟩ =>
    ⟨fun k => k = b ∨ v.ownBlock = some k, F4, ⟨v, hb, hr, fun _ => Iff.rfl⟩, hq, fun k hk hk' => by
      rcases hk with hk | hk
      · exact h5 k ((hf k).2 hk) ((h4 k).2 (.inr hk'))
      · exact h3 k ((hf3 k).2 hk) hk', fun k => by rw [h6, h4, hf, hf3, or_assoc]⟩
theorem d_open {B : Nat} {w0 w : World} {Q : SP} {b t : Nat} {D : DS} (ht : 37 ≠ t) (h : Holds B w0 w (star (dP t b D) Q)) : ∃ A c, Holds B w0 w (star (blkP b t #[.int .i64 D.pr, .int .i64 D.ba, .string D.sn, .slice A D.es.length c]) (star (rowP 37 7 (.slice A D.es.length c) D.es.length (ents D.es)) Q)) := by
  obtain ⟨F, ⟨F1, F2, ⟨v, hb, hr, hF1⟩, hq, h3, h4⟩, hbl, hB, hF⟩ := h
  obtain ⟨A, c, rfl, _, _⟩ := hr.form
  have ap := hr.apart hb ht
  exact ⟨A, c, F, ⟨fun k => k = b, fun k => (Value.slice A D.es.length c).ownBlock = some k ∨ F2 k, ⟨hb, fun _ => Iff.rfl⟩, ⟨fun k => (Value.slice A D.es.length c).ownBlock = some k, F2, ⟨hr, fun _ => Iff.rfl⟩, hq, fun k hk hk' => h3 k ((hF1 k).2 (.inr hk)) hk', fun _ => Iff.rfl⟩,
    fun k hk hk' => by
      rcases hk' with hk' | hk'
      · exact ap (by rw [hk', hk])
      · exact h3 k ((hF1 k).2 (.inl hk)) hk', fun k => by rw [h4, hF1, or_assoc]⟩, hbl, hB, hF⟩
theorem folder43 (w : World) (b : Nat) : Calls Try.prog 43 #[.pointer (some ⟨b, 0, none⟩)] w (fun e w' => e = .returned (.func (.func 44) #[] #[.pointer (some ⟨w.heap.size, 0, none⟩)]) ∧ w' = w.alloc (.cells #[.pointer (some ⟨b, 0, none⟩)] 79)) := by
  go_enter Try.func43, Try.ntmps43
  go_wp2_with fail
  go_ret
  exact ⟨rfl, rfl⟩
/-- A record put to a state, beside the cell that names it and other things. -/
theorem x_put {B : Nat} {w0 w : World} {Q : SP} {b q : Nat} {D : DS} (h : Holds B w0 w (star (dP 24 b D) (star (blkP q 79 #[.pointer (some ⟨b, 0, none⟩)]) Q))) (hQ : Stable Q) (hR : Rise D.es) (hL : D.es.length ≤ 1000000) (r : Rc) :
    Calls Try.prog 44 #[r.val, .pointer (some ⟨q, 0, none⟩)] w (fun e w' => unit_ e ∧ Holds B w0 w' (star (dP 24 b (foldR D r)) (star (blkP q 79 #[.pointer (some ⟨b, 0, none⟩)]) Q))) := by
  have hqb := blk_at h.turn
  refine h.on_left (post := unit_) ((blkP_stable _ _ _).star hQ) fun F hd => ?_
  obtain ⟨v, hb, hr, hF⟩ := hd
  exact put44 w b q F D ⟨v, hb, hr, hF⟩ (hqb.cell 0) (fun hq => by
    rcases (hF q).1 hq with e | e
    · subst e; exact hqb.apart hb (by decide) rfl
    · exact hr.apart hqb (by decide) e) hR hL r
theorem foldL_rise : ∀ (l : List Rc) {D : DS}, Rise D.es → Rise (foldL D l).es
  | [], D, h => h
  | r :: l, D, h => foldL_rise l (D := foldR D r) (foldR_rise h r)
theorem foldL_len : ∀ (l : List Rc) (D : DS), (foldL D l).es.length ≤ D.es.length + l.length
  | [], D => Nat.le_refl _
  | r :: l, D => by
    have h1 := foldL_len l (foldR D r)
    have h2 := foldR_len D r
    show (foldL (foldR D r) l).es.length ≤ _
    simp only [List.length_cons]
    omega
theorem foldL_next {D : DS} {l : List Rc} {k : Nat} {r : Rc} (h : l[k]? = some r) : foldL D (l.take (k + 1)) = foldR (foldL D (l.take k)) r := by
  rw [List.take_add_one, h, foldL_app]; rfl
theorem own_le {B : Nat} {w0 w : World} {e : TypeId} {size n : Nat} {v : Value} {xs : List Value} {Q : SP} (h : Holds B w0 w (star (rowP e size v n xs) Q)) : ∀ k, v.ownBlock = some k → B ≤ k := by
  obtain ⟨F, ⟨F1, F2, ⟨_, hf⟩, _, _, h4⟩, _, _, hF⟩ := h
  exact fun k hk => hF k ((h4 k).2 (.inl ((hf k).2 hk)))
theorem size_set (X : World) (p : Addr) (u : Value) : (X.setCell p u).heap.size = X.heap.size := by simp [World.setCell]
set_option maxHeartbeats 6400000 in
theorem fold26 (w : World) (D : DS) (A : Option Addr) (c : Nat) (h : U.Src w A 7 D.es.length (ents D.es)) (hL : D.es.length ≤ 500000) (hR : Rise D.es) (Ar : Option Addr) (n cr : Nat) (l : List Rc) (hl : U.Src w Ar 9 n (recs l)) (hn : n ≤ 400000) :
    Calls Try.prog 26 #[dval D A c, .slice Ar n cr] w (FreshD (foldL D l) w) := by
  have hu := Try.underlying24
  have hu2 := Try.underlying62
  have HL := Lib.hid hl
  have LN := Lib.hid (rsrc_len hl)
  have HR := Lib.hid hR
  have H0 := Lib.hid (Holds.start w)
  have SN := Lib.hid none_stable
  have SB := Lib.hid blkP_stable
  have SD := Lib.hid dP_stable
  have SR := Lib.hid rowP_stable
  have H1 := Lib.hid (Holds.newBlk H0.out SN.out 24 #[.int .i64 D.pr, .int .i64 D.ba, .string D.sn, .slice A D.es.length c])
  have H2' := Holds.newBlk H1.out ((SB.out _ _ _).star SN.out) 24 zd4
  rw [show (w.alloc (.cells #[.int .i64 D.pr, .int .i64 D.ba, .string D.sn, .slice A D.es.length c] 24)).heap.size = w.heap.size + 1 by simp] at H2'
  have H2 := Lib.hid H2'
  have K2 := Lib.hid (((Keep.same Nothing w).alloc (.cells #[.int .i64 D.pr, .int .i64 D.ba, .string D.sn, .slice A D.es.length c] 24)).alloc (.cells zd4 24))
  have HC := Lib.hid (clone42 _ D A c (src_keptE h K2.out) (by omega))
  obtain ⟨b1, hb1⟩ : ∃ b1, w.heap.size = b1 := ⟨_, rfl⟩
  have HB1 := Lib.hid hb1
  have X1 := blk_at H2.out.turn
  have x0 := X1.cell 0
  have x1 := X1.cell 1
  have x2 := X1.cell 2
  have x3 := X1.cell 3
  clear hl hR H2' X1 h hb1
  go_enter Try.func26, Try.ntmps26
  go_wp2_with fail
  refine HC.out.mono ?_
  rintro e w3 ⟨A3, c3, rfl, hr3, hk3, ho3⟩
  have H3 := Lib.hid (Holds.newRow H2.out ((SB.out _ _ _).star ((SB.out _ _ _).star SN.out)) hr3 hk3 ho3)
  have H3b := Lib.hid (Holds.inner (Holds.assoc H3.out.turn.turn) fun F => star_second)
  have SQ := Lib.hid ((SR.out 37 7 (.slice A3 D.es.length c3) D.es.length (ents D.es)).star (SN.out.star (SB.out (w.heap.size + 1) 24 zd4)))
  have H4' := held4 H3b.out SQ.out (.int .i64 D.pr) (.int .i64 D.ba) (.string D.sn) (.slice A3 D.es.length c3)
  have H4 := Lib.hid (d_close (D := D) H4')
  have B3 := blk_at H3b.out
  obtain ⟨r0, g0, r1, g1, r2, g2, r3, g3, q0, q1, q2, q3, p0, p1, p2⟩ := store4 B3 (.int .i64 D.pr) (.int .i64 D.ba) (.string D.sn) (.slice A3 D.es.length c3)
  clear hr3 hk3 ho3 H4' B3 x0 x1 x2 x3
  go_wp2_with fail
  refine (folder43 _ _).mono ?_
  rintro e w4 ⟨rfl, hw4⟩
  have H5' := Holds.second (Holds.newBlk H4.out ((SD.out _ _ _).star (SN.out.star (SB.out _ _ _))) 79 #[.pointer (some ⟨w.heap.size, 0, none⟩)])
  rw [← hw4, size_set, size_set, size_set, size_set] at H5'
  have H5 := Lib.hid H5'
  clear hw4 H5' r0 g0 r1 g1 r2 g2 r3 g3 q0 q1 q2 q3 p0 p1 p2
  go_wp2_with fail
  go_loopw [13] (fun v wr => ∃ k : Nat, k ≤ n ∧ v = .int .i64 k ∧ Holds w.heap.size w wr (star (dP 24 w.heap.size (foldL D (l.take k))) (star (blkP w3.heap.size 79 #[.pointer (some ⟨w.heap.size, 0, none⟩)]) (star none_ (blkP (w.heap.size + 1) 24 zd4))))) (fun v _ => n - (intOf v).toNat)
  case atStart => exact ⟨0, by omega, by simp, H5.out⟩
  case round =>
    obtain ⟨k, hk, rfl, hh⟩ := hrel
    have H := Lib.hid hh
    clear hh
    have ST := Lib.hid ((SD.out 24 w.heap.size (foldL D (l.take k))).star ((SB.out w3.heap.size 79 #[.pointer (some ⟨w.heap.size, 0, none⟩)]).star (SN.out.star (SB.out (w.heap.size + 1) 24 zd4))))
    have RI := Lib.hid (foldL_rise (l.take k) HR.out)
    have hfl := foldL_len (l.take k) D
    rw [List.length_take] at hfl
    have hfl2 : (foldL D (l.take k)).es.length ≤ 1000000 := by omega
    clear hfl
    by_cases hlt : k < n
    · obtain ⟨ad, x, rfl, hx, he⟩ := rec_at HL.out hlt
      obtain ⟨c0, c1, c2, c3', c4, c5, c6, c7, c8⟩ := he.keep (Keep.of_below H.out.below Nothing) (fun h => h)
      have FN := Lib.hid (foldL_next (D := D) hx)
      have HP := Lib.hid (x_put (H.out.alloc ST.out (.cells x.cs 62)) (SN.out.star (SB.out _ _ _)) RI.out hfl2 x)
      have Z := Blk.fresh wr 62 x.cs
      unfold Rc.cs at Z HP
      have z0 := Z.cell 0
      have z1 := Z.cell 1
      have z2 := Z.cell 2
      have z3 := Z.cell 3
      have z4 := Z.cell 4
      have z5 := Z.cell 5
      have z6 := Z.cell 6
      have z7 := Z.cell 7
      have z8 := Z.cell 8
      clear hx he Z
      go_wp2_with fail
      refine HP.out.mono ?_
      rintro e w7 ⟨rfl, h7⟩
      have H7 := Lib.hid h7
      clear h7 c0 c1 c2 c3' c4 c5 c6 c7 c8 z0 z1 z2 z3 z4 z5 z6 z7 z8
      go_wp2_with fail
      go_roundw
      case rel => exact ⟨k + 1, by omega, by go_num, by rw [FN.out]; exact H7.out⟩
      case measure => simp [intOf]; omega
    · have e : l.take k = l := List.take_of_length_le (by have := LN.out; omega)
      rw [e] at H
      obtain ⟨A9, c9, h9⟩ := d_open (by decide) H.out
      have B9 := blk_at h9
      have x0 := B9.cell 0
      have x1 := B9.cell 1
      have x2 := B9.cell 2
      have x3 := B9.cell 3
      have R9 := Lib.hid h9.second.row
      have h10 := (Holds.assoc h9.drop.turn.drop).drop
      have B10 := blk_at h10
      obtain ⟨r0, g0, r1, g1, r2, g2, r3, g3, q0, q1, q2, q3, p0, p1, p2⟩ := store4 B10 (.int .i64 (foldL D l).pr) (.int .i64 (foldL D l).ba) (.string (foldL D l).sn) (.slice A9 (foldL D l).es.length c9)
      have H11 := Lib.hid (held4 h10 (SR.out _ _ _ _ _) (.int .i64 (foldL D l).pr) (.int .i64 (foldL D l).ba) (.string (foldL D l).sn) (.slice A9 (foldL D l).es.length c9))
      clear B9 B10 h9 h10 e
      go_wp2_with fail
      refine bodyPost_ret (v := dval (foldL D l) A9 c9) (by simp [results, Try.results26, go_sem, hu, p0, p1, p2, q0, q1, q2, q3]) rfl ?_
      exact ⟨A9, c9, rfl, H11.out.swap.row, Keep.of_below H11.out.below Nothing, own_le H11.out.swap⟩
end Go.Proofs.Ytnbllckmeehhjaa.A
