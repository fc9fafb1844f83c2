/-
  The reference's Fold (chapter 13).
-/
import Derived.Test.YtnbllckmeehhjaaV3
namespace Go.Proofs.Ytnbllckmeehhjaa.A
open Go.RowKit Go.Proofs.Ytnbllckmeehhjaa.U
set_option linter.unusedVariables false
set_option linter.unusedSimpArgs false
set_option maxRecDepth 100000

theorem d_set3 {B : Nat} {w0 w w8 : World} {Q : SP} {t b : Nat} {D : DS} {A8 : Option Addr} {c8 : Nat} {es' : List Ent} (h : Holds B w0 w (star (dP t b D) Q)) (hQ : Stable Q) (ht : 37 ≠ t) (hk : Keep Nothing w w8)
    (hr : Row w8 37 7 (.slice A8 es'.length c8) es'.length (ents es')) (ho : ∀ k, (Value.slice A8 es'.length c8).ownBlock = some k → w.heap.size ≤ k) :
    Holds B w0 (w8.setCell ⟨b, 3, none⟩ (.slice A8 es'.length c8)) (star (dP t b ⟨D.pr, D.ba, D.sn, es'⟩) Q) ∧ ∃ v, Blk w8 b t #[.int .i64 D.pr, .int .i64 D.ba, .string D.sn, v] := by
  refine ⟨h.did_left hQ fun F ⟨v, hb, hr0, hF⟩ => dP_step (D' := ⟨D.pr, D.ba, D.sn, es'⟩) hF ((hk.wider (fun i h => h.elim)).set (p := ⟨b, 3, none⟩) (.inl (.inl rfl)) _) ((hb.keep hk (fun h => h)).put 3 _) (hr.far (p := ⟨b, 3, none⟩) (fun e => by have := ho b e; have := hb.lt; omega) _) (fun k hk => .inr (ho k hk)), ?_⟩
  obtain ⟨F, v, hb, hr0, hF⟩ := h.left
  exact ⟨v, hb.keep hk (fun h => h)⟩
theorem mx_le_cases (a b : Int) : mx a b = a ∨ mx a b = b := by
  unfold mx; split
  · exact .inr rfl
  · exact .inl rfl
set_option maxHeartbeats 12800000 in
theorem fold14 (w : World) (D : DS) (A : Option Addr) (c : Nat) (h : U.Src w A 7 D.es.length (ents D.es)) (hL : D.es.length ≤ 500000) (Ar : Option Addr) (n cr : Nat) (l : List Rc) (hl : U.Src w Ar 9 n (recs l)) (hn : n ≤ 400000) :
    Calls Try.prog 14 #[dval D A c, .slice Ar n cr] w (FreshD (foldL D l) w) := by
  have hu := Try.underlying24
  have hu2 := Try.underlying62
  have hu37 := Try.underlying37
  have HL := Lib.hid hl
  have LN := Lib.hid (rsrc_len hl)
  have H0 := Lib.hid (Holds.start w)
  have SN := Lib.hid none_stable
  have SB := Lib.hid blkP_stable
  have SD := Lib.hid dP_stable
  have SR := Lib.hid rowP_stable
  have hb : ∀ w', Below w.heap.size w w' → Keep Nothing w w' := fun w' h => Keep.of_below h _
  have H1 := Lib.hid (Holds.newBlk H0.out SN.out 24 #[.int .i64 D.pr, .int .i64 D.ba, .string D.sn, .slice A D.es.length c])
  have H2' := Holds.newBlk H1.out ((SB.out _ _ _).star SN.out) 24 zd4
  rw [size_alloc] at H2'
  have H2 := Lib.hid H2'
  have K2 := Lib.hid (((Keep.same Nothing w).alloc (.cells #[.int .i64 D.pr, .int .i64 D.ba, .string D.sn, .slice A D.es.length c] 24)).alloc (.cells zd4 24))
  have HC := Lib.hid (copy30 _ D A c (src_keptE h K2.out) (by omega))
  have X1 := blk_at H2.out.turn
  have x0 := X1.cell 0
  have x1 := X1.cell 1
  have x2 := X1.cell 2
  have x3 := X1.cell 3
  clear hl H2' X1 h
  go_enter Try.func14, Try.ntmps14
  go_wp2_with fail
  refine HC.out.mono ?_
  rintro e w3 ⟨A3, c3, rfl, hr3, hk3, ho3⟩
  have H3 := Lib.hid (Holds.newRow H2.out ((SB.out _ _ _).star ((SB.out _ _ _).star SN.out)) hr3 hk3 ho3)
  have H3b := Lib.hid (Holds.inner (Holds.third H3.out).second fun F => star_second)
  have SQ := Lib.hid ((SR.out 37 7 (.slice A3 D.es.length c3) D.es.length (ents D.es)).star ((SB.out (w.heap.size + 1) 24 zd4).star SN.out))
  have H4' := held4 H3b.out SQ.out (.int .i64 D.pr) (.int .i64 D.ba) (.string D.sn) (.slice A3 D.es.length c3)
  have H4 := Lib.hid (d_close (D := D) H4')
  have B3 := blk_at H3b.out
  obtain ⟨r0, g0, r1, g1, r2, g2, r3, g3, q0, q1, q2, q3, p0, p1, p2⟩ := store4 B3 (.int .i64 D.pr) (.int .i64 D.ba) (.string D.sn) (.slice A3 D.es.length c3)
  clear hr3 hk3 ho3 H4' B3 x0 x1 x2 x3
  go_wp2_with fail
  clear r0 g0 r1 g1 r2 g2 r3 g3 q0 q1 q2 q3 p0 p1 p2
  have SZ := Lib.hid ((SB.out (w.heap.size + 1) 24 zd4).star SN.out)
  go_loopw [5] (fun v wr => ∃ k : Nat, k ≤ n ∧ v = .int .i64 k ∧ Holds w.heap.size w wr (star (dP 24 w.heap.size (foldL D (l.take k))) (star (blkP (w.heap.size + 1) 24 zd4) none_))) (fun v _ => n - (intOf v).toNat)
  case atStart => exact ⟨0, by omega, by simp, H4.out⟩
  case round =>
    obtain ⟨k, hk, rfl, hh⟩ := hrel
    have H := Lib.hid hh
    clear hh
    have hfl := foldL_len (l.take k) D
    rw [List.length_take] at hfl
    by_cases hlt : k < n
    · obtain ⟨ad, x, rfl, hx, he⟩ := rec_at HL.out hlt
      have HE := Lib.hid he
      have FN := Lib.hid (foldL_next (D := D) hx)
      obtain ⟨E0, hE0⟩ : ∃ E0, foldL D (l.take k) = E0 := ⟨_, rfl⟩
      rw [hE0] at H FN hfl
      have hfl2 : E0.es.length ≤ 1000000 := by omega
      obtain ⟨c0, c1, c2, c3', c4, c5, c6, c7, c8⟩ := he.keep (hb _ H.out.below) (fun h => h)
      obtain ⟨A9, c9, d0, d1, d2, d3, fr, hrow, hcc⟩ := d_cells H.out
      have f0 := fr 0
      have f3 := fr 3
      have RW := Lib.hid hrow
      have SDZ := Lib.hid ((SD.out 24 w.heap.size E0).star SZ.out)
      have hadb : ad.block < w.heap.size := by
        have := World.block_lt_of_cell? w _ he.1
        rwa [addBlock] at this
      clear hx he hE0 fr hrow hfl
      rcases (show x.k = 1 ∨ (¬ x.k = 1 ∧ x.k = 2) ∨ (¬ x.k = 1 ∧ ¬ x.k = 2) by omega) with h1 | ⟨h1, h2⟩ | ⟨h1, h2⟩
      · have E := Lib.hid (show foldR E0 x = ⟨mx E0.pr x.n, E0.ba, E0.sn, E0.es⟩ by unfold foldR; rw [if_pos h1])
        have g1 : (x.k == 1) = true := by rw [beq_iff_eq]; exact h1
        have FIN := Lib.hid (show ∀ (V : Int) (w' : World), V = mx E0.pr x.n → w' = wr.drew.setCell ⟨w.heap.size, 0, none⟩ (.int .i64 V) → Holds w.heap.size w w' (star (dP 24 w.heap.size (foldL D (l.take (k + 1)))) (star (blkP (w.heap.size + 1) 24 zd4) none_)) from fun V w' hV e => by
          rw [FN.out, E.out, e, ← hV]
          exact d_setpr (H.out.kept SDZ.out ((Keep.same Nothing _).drew)) SZ.out (by decide) V)
        clear h1
        rcases Int.lt_trichotomy E0.pr x.n with hm | hm | hm
        all_goals go_wp2_with fail
        all_goals refine region_tail 9 (by kernel_rfl) (by kernel_rfl) ?_
        all_goals simp only [List.take_succ_cons, List.take_zero, List.drop_succ_cons, List.drop_zero]
        all_goals repeat still_step
        all_goals refine wpStill_nil ?_
        all_goals go_wp2_with fail
        all_goals go_roundw
        all_goals first | exact ⟨k + 1, by omega, by go_num, FIN.out _ _ (by unfold mx; split <;> omega) rfl⟩ | (simp [intOf]; omega)
      · have g1 : (x.k == 1) = false := by rw [beq_eq_false_iff_ne]; exact h1
        have g2 : (x.k == 2) = true := by rw [beq_iff_eq]; exact h2
        have E := Lib.hid (show foldR E0 x = ⟨mx E0.pr x.e.b, E0.ba, E0.sn, if x.e.a ≤ E0.ba then E0.es else putE E0.es x.e⟩ by unfold foldR; rw [if_neg h1, if_pos h2])
        clear h1 h2
        have nb : (ad.add (k * 9)).block ≠ w.heap.size := by rw [addBlock]; omega
        have far := fun (X : World) (u : Value) (j : Nat) => cell_far X w.heap.size 0 u (ad.add (k * 9)).block j nb
        have bs1 := fun (u : Value) => (show (wr.setCell ⟨w.heap.size, 0, none⟩ u).cell? ⟨w.heap.size, 1, none⟩ = some (.int .i64 E0.ba) by
          obtain ⟨F, v, hbb, _⟩ := H.out.left
          exact (hbb.put 0 u).cell 1)
        have bs3 := fun (u : Value) => (show (wr.setCell ⟨w.heap.size, 0, none⟩ u).cell? ⟨w.heap.size, 3, none⟩ = some (.slice A9 E0.es.length c9) by
          obtain ⟨F, v, hbb, _⟩ := H.out.left
          have e := hbb.cell 3
          rw [d3] at e
          refine ((hbb.put 0 u).cell 3).trans e.symm)
        have HW := Lib.hid (show ∀ (V : Int) (m : Nat), Holds w.heap.size w ((wr.setCell ⟨w.heap.size, 0, none⟩ (.int .i64 V)).drewN m) (star (dP 24 w.heap.size ⟨V, E0.ba, E0.sn, E0.es⟩) (star (blkP (w.heap.size + 1) 24 zd4) none_)) from
          fun V m => (d_setpr H.out SZ.out (by decide) V).drewN ((SD.out _ _ _).star SZ.out) m)
        have HP := Lib.hid (show ∀ (V : Int) (m : Nat), Calls Try.prog 31 #[.slice A9 E0.es.length c9, x.e.val] ((wr.setCell ⟨w.heap.size, 0, none⟩ (.int .i64 V)).drewN m) (FreshEnts (putE E0.es x.e) ((wr.setCell ⟨w.heap.size, 0, none⟩ (.int .i64 V)).drewN m)) from
          fun V m => put31 _ x.e A9 c9 E0.es (by
            obtain ⟨F, v, hbb, hrr, _⟩ := H.out.left
            have hap := RW.out.apart hbb (by decide)
            exact ((RW.out.far (p := ⟨w.heap.size, 0, none⟩) hap (.int .i64 V)).drewN m).src) hfl2 hcc)
        have SX := Lib.hid (show ∀ (V : Int) (m : Nat), (fun w' => w'.cell? ⟨(ad.add (k * 9)).block, (ad.add (k * 9)).off + 2, none⟩ = some (.int .i64 x.e.a) ∧ w'.cell? ⟨(ad.add (k * 9)).block, (ad.add (k * 9)).off + 3, none⟩ = some (.int .i64 x.e.b) ∧ w'.cell? ⟨(ad.add (k * 9)).block, (ad.add (k * 9)).off + 4, none⟩ = some (.int .i64 x.e.c.k) ∧ w'.cell? ⟨(ad.add (k * 9)).block, (ad.add (k * 9)).off + 5, none⟩ = some (.int .i64 x.e.c.s) ∧ w'.cell? ⟨(ad.add (k * 9)).block, (ad.add (k * 9)).off + 6, none⟩ = some (.int .i64 x.e.c.q) ∧ w'.cell? ⟨(ad.add (k * 9)).block, (ad.add (k * 9)).off + 7, none⟩ = some (.string x.e.c.nm) ∧ w'.cell? ⟨(ad.add (k * 9)).block, (ad.add (k * 9)).off + 8, none⟩ = some (.int .i64 x.e.c.n)) ((wr.setCell ⟨w.heap.size, 0, none⟩ (.int .i64 V)).drewN m) from
          fun V m => ⟨(far _ _ _).trans c2, (far _ _ _).trans c3', (far _ _ _).trans c4, (far _ _ _).trans c5, (far _ _ _).trans c6, (far _ _ _).trans c7, (far _ _ _).trans c8⟩)
        have SX1 := Lib.hid (show ∀ (V : Int) (m : Nat), (fun w' => w'.cell? ⟨(ad.add (k * 9)).block, (ad.add (k * 9)).off + 2, none⟩ = some (.int .i64 x.e.a) ∧ w'.cell? ⟨(ad.add (k * 9)).block, (ad.add (k * 9)).off + 3, none⟩ = some (.int .i64 x.e.b) ∧ w'.cell? ⟨(ad.add (k * 9)).block, (ad.add (k * 9)).off + 4, none⟩ = some (.int .i64 x.e.c.k) ∧ w'.cell? ⟨(ad.add (k * 9)).block, (ad.add (k * 9)).off + 5, none⟩ = some (.int .i64 x.e.c.s) ∧ w'.cell? ⟨(ad.add (k * 9)).block, (ad.add (k * 9)).off + 6, none⟩ = some (.int .i64 x.e.c.q) ∧ w'.cell? ⟨(ad.add (k * 9)).block, (ad.add (k * 9)).off + 7, none⟩ = some (.string x.e.c.nm) ∧ w'.cell? ⟨(ad.add (k * 9)).block, (ad.add (k * 9)).off + 8, none⟩ = some (.int .i64 x.e.c.n)) ((wr.setCell ⟨w.heap.size, 0, none⟩ (.int .i64 V)).drewN m).drew from fun V m => SX.out V m)
        have SK := Lib.hid (show ∀ (V : Int) (m : Nat) (w8 : World), Keep Nothing ((wr.setCell ⟨w.heap.size, 0, none⟩ (.int .i64 V)).drewN m) w8 → (fun w' => w'.cell? ⟨(ad.add (k * 9)).block, (ad.add (k * 9)).off + 2, none⟩ = some (.int .i64 x.e.a) ∧ w'.cell? ⟨(ad.add (k * 9)).block, (ad.add (k * 9)).off + 3, none⟩ = some (.int .i64 x.e.b) ∧ w'.cell? ⟨(ad.add (k * 9)).block, (ad.add (k * 9)).off + 4, none⟩ = some (.int .i64 x.e.c.k) ∧ w'.cell? ⟨(ad.add (k * 9)).block, (ad.add (k * 9)).off + 5, none⟩ = some (.int .i64 x.e.c.s) ∧ w'.cell? ⟨(ad.add (k * 9)).block, (ad.add (k * 9)).off + 6, none⟩ = some (.int .i64 x.e.c.q) ∧ w'.cell? ⟨(ad.add (k * 9)).block, (ad.add (k * 9)).off + 7, none⟩ = some (.string x.e.c.nm) ∧ w'.cell? ⟨(ad.add (k * 9)).block, (ad.add (k * 9)).off + 8, none⟩ = some (.int .i64 x.e.c.n)) w8 from
          fun V m w8 hk => ⟨hk.cell (SX.out V m).1 (fun h => h), hk.cell (SX.out V m).2.1 (fun h => h), hk.cell (SX.out V m).2.2.1 (fun h => h), hk.cell (SX.out V m).2.2.2.1 (fun h => h), hk.cell (SX.out V m).2.2.2.2.1 (fun h => h), hk.cell (SX.out V m).2.2.2.2.2.1 (fun h => h), hk.cell (SX.out V m).2.2.2.2.2.2 (fun h => h)⟩)
        have SF := Lib.hid (show ∀ (X : World) (u : Value), (fun w' => w'.cell? ⟨(ad.add (k * 9)).block, (ad.add (k * 9)).off + 2, none⟩ = some (.int .i64 x.e.a) ∧ w'.cell? ⟨(ad.add (k * 9)).block, (ad.add (k * 9)).off + 3, none⟩ = some (.int .i64 x.e.b) ∧ w'.cell? ⟨(ad.add (k * 9)).block, (ad.add (k * 9)).off + 4, none⟩ = some (.int .i64 x.e.c.k) ∧ w'.cell? ⟨(ad.add (k * 9)).block, (ad.add (k * 9)).off + 5, none⟩ = some (.int .i64 x.e.c.s) ∧ w'.cell? ⟨(ad.add (k * 9)).block, (ad.add (k * 9)).off + 6, none⟩ = some (.int .i64 x.e.c.q) ∧ w'.cell? ⟨(ad.add (k * 9)).block, (ad.add (k * 9)).off + 7, none⟩ = some (.string x.e.c.nm) ∧ w'.cell? ⟨(ad.add (k * 9)).block, (ad.add (k * 9)).off + 8, none⟩ = some (.int .i64 x.e.c.n)) X → (fun w' => w'.cell? ⟨(ad.add (k * 9)).block, (ad.add (k * 9)).off + 2, none⟩ = some (.int .i64 x.e.a) ∧ w'.cell? ⟨(ad.add (k * 9)).block, (ad.add (k * 9)).off + 3, none⟩ = some (.int .i64 x.e.b) ∧ w'.cell? ⟨(ad.add (k * 9)).block, (ad.add (k * 9)).off + 4, none⟩ = some (.int .i64 x.e.c.k) ∧ w'.cell? ⟨(ad.add (k * 9)).block, (ad.add (k * 9)).off + 5, none⟩ = some (.int .i64 x.e.c.s) ∧ w'.cell? ⟨(ad.add (k * 9)).block, (ad.add (k * 9)).off + 6, none⟩ = some (.int .i64 x.e.c.q) ∧ w'.cell? ⟨(ad.add (k * 9)).block, (ad.add (k * 9)).off + 7, none⟩ = some (.string x.e.c.nm) ∧ w'.cell? ⟨(ad.add (k * 9)).block, (ad.add (k * 9)).off + 8, none⟩ = some (.int .i64 x.e.c.n)) (X.setCell ⟨w.heap.size, 3, none⟩ u) from
          fun X u h => ⟨(cell_far X w.heap.size 3 u _ _ nb).trans h.1, (cell_far X w.heap.size 3 u _ _ nb).trans h.2.1, (cell_far X w.heap.size 3 u _ _ nb).trans h.2.2.1, (cell_far X w.heap.size 3 u _ _ nb).trans h.2.2.2.1, (cell_far X w.heap.size 3 u _ _ nb).trans h.2.2.2.2.1, (cell_far X w.heap.size 3 u _ _ nb).trans h.2.2.2.2.2.1, (cell_far X w.heap.size 3 u _ _ nb).trans h.2.2.2.2.2.2⟩)
        have NBH := Lib.hid nb
        clear nb
        rcases Int.lt_trichotomy E0.pr x.e.b with hm | hm | hm
        all_goals
          go_wp2_with fail
          refine region_tail 10 (by kernel_rfl) (by kernel_rfl) ?_
          simp only [List.take_succ_cons, List.take_zero, List.drop_succ_cons, List.drop_zero]
          repeat still_step
          refine wpStill_nil ?_
        all_goals
          go_wp2_with fail
          go_quiet (fail)
          by_cases hle : x.e.a ≤ E0.ba
          · have HR := Lib.hid (show ∀ V (m : Nat), Hid (V = mx E0.pr x.e.b) → Holds w.heap.size w ((wr.setCell ⟨w.heap.size, 0, none⟩ (.int .i64 V)).drewN m) (star (dP 24 w.heap.size (foldL D (l.take (k + 1)))) (star (blkP (w.heap.size + 1) 24 zd4) none_)) from fun V m hV => by
              rw [FN.out, E.out, if_pos hle, ← hV.out]; exact HW.out V m)
            go_wp2_with fail
            go_roundw
            case rel => exact ⟨k + 1, by omega, by go_num, HR.out _ _ (Lib.hid (by unfold mx; split <;> omega))⟩
            case measure => simp [intOf]; omega
          · have hle' : decide (x.e.a ≤ E0.ba) = false := decide_eq_false hle
            have HQ := Lib.hid (show ∀ V w', Holds w.heap.size w w' (star (dP 24 w.heap.size ⟨V, E0.ba, E0.sn, putE E0.es x.e⟩) (star (blkP (w.heap.size + 1) 24 zd4) none_)) → Hid (V = mx E0.pr x.e.b) → Holds w.heap.size w w' (star (dP 24 w.heap.size (foldL D (l.take (k + 1)))) (star (blkP (w.heap.size + 1) 24 zd4) none_)) from fun V w' hw hV => by rw [FN.out, E.out, if_neg hle, ← hV.out]; exact hw)
            go_wp2_with fail
            refine wp_region_noPanic ?_
            refine wp_region_held_drew (S := (fun w' => w'.cell? ⟨(ad.add (k * 9)).block, (ad.add (k * 9)).off + 2, none⟩ = some (.int .i64 x.e.a) ∧ w'.cell? ⟨(ad.add (k * 9)).block, (ad.add (k * 9)).off + 3, none⟩ = some (.int .i64 x.e.b) ∧ w'.cell? ⟨(ad.add (k * 9)).block, (ad.add (k * 9)).off + 4, none⟩ = some (.int .i64 x.e.c.k) ∧ w'.cell? ⟨(ad.add (k * 9)).block, (ad.add (k * 9)).off + 5, none⟩ = some (.int .i64 x.e.c.s) ∧ w'.cell? ⟨(ad.add (k * 9)).block, (ad.add (k * 9)).off + 6, none⟩ = some (.int .i64 x.e.c.q) ∧ w'.cell? ⟨(ad.add (k * 9)).block, (ad.add (k * 9)).off + 7, none⟩ = some (.string x.e.c.nm) ∧ w'.cell? ⟨(ad.add (k * 9)).block, (ad.add (k * 9)).off + 8, none⟩ = some (.int .i64 x.e.c.n))) (by kernel_rfl) (by first | exact SX.out _ _ | exact SX1.out _ _) (fun hHeld => ?_)
            refine wpAnyH_take (i := 0) (oi := _) (v := ?_) (by simp only [List.getElem?_toArray, List.getElem?_cons_succ, List.getElem?_cons_zero]; rfl) (by kernel_rfl) (by kernel_rfl) (by kernel_rfl) (fun _ _ _ h => h) (Or.inl ⟨by rfl, ?_⟩) (by assumption) ?_
            rotate_left
            · (intro w hSw; (try dsimp only at hSw); go_simp; (try with_reducible rfl))
            (try simp only [Act.put, List.setIfInBounds_toArray, List.set_cons_zero, List.set_cons_succ])
            refine wpAnyH_take (i := 2) (oi := _) (v := ?_) (by simp only [List.getElem?_toArray, List.getElem?_cons_succ, List.getElem?_cons_zero]; rfl) (by kernel_rfl) (by kernel_rfl) (by kernel_rfl) (fun _ _ _ h => h) (Or.inl ⟨by rfl, ?_⟩) (by assumption) ?_
            rotate_left
            · (intro w hSw; (try dsimp only at hSw); go_simp; (try with_reducible rfl))
            (try simp only [Act.put, List.setIfInBounds_toArray, List.set_cons_zero, List.set_cons_succ])
            refine wpAnyH_take (i := 3) (oi := _) (v := ?_) (by simp only [List.getElem?_toArray, List.getElem?_cons_succ, List.getElem?_cons_zero]; rfl) (by kernel_rfl) (by kernel_rfl) (by kernel_rfl) (fun _ _ _ h => h) (Or.inl ⟨by rfl, ?_⟩) (by assumption) ?_
            rotate_left
            · (intro w hSw; (try dsimp only at hSw); go_simp; (try with_reducible rfl))
            (try simp only [Act.put, List.setIfInBounds_toArray, List.set_cons_zero, List.set_cons_succ])
            refine wpAnyH_take (i := 4) (oi := _) (v := ?_) (by simp only [List.getElem?_toArray, List.getElem?_cons_succ, List.getElem?_cons_zero]; rfl) (by kernel_rfl) (by kernel_rfl) (by kernel_rfl) (fun _ _ _ h => h) (Or.inl ⟨by rfl, ?_⟩) (by assumption) ?_
            rotate_left
            · (intro w hSw; (try dsimp only at hSw); go_simp; (try with_reducible rfl))
            (try simp only [Act.put, List.setIfInBounds_toArray, List.set_cons_zero, List.set_cons_succ])
            refine wpAnyH_take (i := 5) (oi := _) (v := ?_) (by simp only [List.getElem?_toArray, List.getElem?_cons_succ, List.getElem?_cons_zero]; rfl) (by kernel_rfl) (by kernel_rfl) (by kernel_rfl) (fun _ _ _ h => h) (Or.inl ⟨by rfl, ?_⟩) (by assumption) ?_
            rotate_left
            · (intro w hSw; (try dsimp only at hSw); go_simp; (try with_reducible rfl))
            (try simp only [Act.put, List.setIfInBounds_toArray, List.set_cons_zero, List.set_cons_succ])
            refine wpAnyH_take (i := 6) (oi := _) (v := ?_) (by simp only [List.getElem?_toArray, List.getElem?_cons_succ, List.getElem?_cons_zero]; rfl) (by kernel_rfl) (by kernel_rfl) (by kernel_rfl) (fun _ _ _ h => h) (Or.inl ⟨by rfl, ?_⟩) (by assumption) ?_
            rotate_left
            · (intro w hSw; (try dsimp only at hSw); obtain ⟨s2, s3, s4, s5, s6, s7, s8⟩ := hSw; go_simp; (try with_reducible rfl))
            (try simp only [Act.put, List.setIfInBounds_toArray, List.set_cons_zero, List.set_cons_succ])
            refine wpAnyH_ready (rs := [1]) (by kernel_rfl) (by simp) ?_
            refine AllReadyH.cons (o := _) (by simp only [List.getElem?_toArray, List.getElem?_cons_succ, List.getElem?_cons_zero]; rfl) (fun K hK => ?_) AllReadyH.nil
            go_simp
            refine hK.out _ _ (by first | exact hHeld | exact SX.out _ _ | exact SX1.out _ _) (fun hHeld => ?_)
            clear hK K
            (try simp only [Act.put, List.setIfInBounds_toArray, List.set_cons_zero, List.set_cons_succ])
            refine wpAnyH_ready (rs := [7]) (by kernel_rfl) (by simp) ?_
            refine AllReadyH.cons (o := _) (by simp only [List.getElem?_toArray, List.getElem?_cons_succ, List.getElem?_cons_zero]; rfl) (fun K hK => ?_) AllReadyH.nil
            go_simp
            refine (HP.out _ _).mono ?_
            rintro e2 w8 ⟨A8, c8, rfl, hr8, hk8, ho8⟩
            have TK := Lib.hid (d_set3 (HW.out _ _) SZ.out (by decide) hk8 hr8 ho8)
            obtain ⟨v8, hb8⟩ := TK.out.2
            have b83 := hb8.cell 3
            have f83 := hb8.free 3
            (try go_wp2_with fail)
            refine hK.out _ _ (SK.out _ _ _ hk8) (fun hHeld => ?_)
            clear hK K
            (try simp only [Act.put, List.setIfInBounds_toArray, List.set_cons_zero, List.set_cons_succ])
            refine wpAnyH_take (i := 8) (oi := _) (v := ?_) (by simp only [List.getElem?_toArray, List.getElem?_cons_succ, List.getElem?_cons_zero]; rfl) (by kernel_rfl) (by kernel_rfl) (by kernel_rfl) (fun _ _ _ h => h) (Or.inl ⟨by rfl, ?_⟩) (by assumption) ?_
            rotate_left
            · (intro w hSw; (try dsimp only at hSw); go_simp; (try with_reducible rfl))
            (try simp only [Act.put, List.setIfInBounds_toArray, List.set_cons_zero, List.set_cons_succ])
            refine wpAnyH_ready (rs := [9]) (by kernel_rfl) (by simp) ?_
            refine AllReadyH.cons (o := _) (by simp only [List.getElem?_toArray, List.getElem?_cons_succ, List.getElem?_cons_zero]; rfl) (fun K hK => ?_) AllReadyH.nil
            go_simp
            refine hK.out _ _ (SF.out _ _ hHeld) (fun hHeld => ?_)
            clear hK K
            (try simp only [Act.put, List.setIfInBounds_toArray, List.set_cons_zero, List.set_cons_succ])
            refine wpAnyH_done (by kernel_rfl) ?_ _
            refine NoPanic.normal ?_
            have HK := Lib.hid TK.out.1
            go_wp2_with fail
            go_roundw
            case rel => exact ⟨k + 1, by omega, by go_num, HQ.out _ _ HK.out (Lib.hid (by unfold mx; split <;> omega))⟩
            case measure => simp [intOf]; omega
      · have g1 : (x.k == 1) = false := by rw [beq_eq_false_iff_ne]; exact h1
        have g2 : (x.k == 2) = false := by rw [beq_eq_false_iff_ne]; exact h2
        have E := Lib.hid (show foldR E0 x = E0 by unfold foldR; rw [if_neg h1, if_neg h2])
        clear h1 h2
        go_wp2_with fail
        go_roundw
        case rel => exact ⟨k + 1, by omega, by go_num, by rw [FN.out, E.out]; exact H.out⟩
        case measure => simp [intOf]; omega
    · have e : l.take k = l := List.take_of_length_le (by have := LN.out; omega)
      rw [e] at H
      obtain ⟨A9, c9, h9⟩ := d_open (by decide) H.out
      have B9 := blk_at h9
      have x0 := B9.cell 0
      have x1 := B9.cell 1
      have x2 := B9.cell 2
      have x3 := B9.cell 3
      have h10 := Holds.second h9.drop
      have R9 := Lib.hid h10.second.row
      have B10 := blk_at h10
      obtain ⟨r0, g0, r1, g1, r2, g2, r3, g3, q0, q1, q2, q3, p0, p1, p2⟩ := store4 B10 (.int .i64 (foldL D l).pr) (.int .i64 (foldL D l).ba) (.string (foldL D l).sn) (.slice A9 (foldL D l).es.length c9)
      have H11 := Lib.hid (held4 h10 ((SR.out _ _ _ _ _).star SN.out) (.int .i64 (foldL D l).pr) (.int .i64 (foldL D l).ba) (.string (foldL D l).sn) (.slice A9 (foldL D l).es.length c9))
      clear B9 B10 h9 h10 e
      go_wp2_with fail
      refine bodyPost_ret (v := dval (foldL D l) A9 c9) (by simp [results, Try.results14, go_sem, hu, p0, p1, p2, q0, q1, q2, q3]) rfl ?_
      exact ⟨A9, c9, rfl, H11.out.second.row, hb _ H11.out.below, own_le H11.out.second⟩
end Go.Proofs.Ytnbllckmeehhjaa.A
