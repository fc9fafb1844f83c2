/-
  The reference's New, Prepare, Cut.
-/
import Derived.Test.YtnbllckmeehhjaaV7
namespace Go.Proofs.Ytnbllckmeehhjaa.A
open Go.RowKit Go.Proofs.Ytnbllckmeehhjaa.U
set_option linter.unusedVariables false
set_option linter.unusedSimpArgs false
set_option maxRecDepth 100000

theorem d_takeT {B t : Nat} {w0 w : World} {Q : SP} {b : Nat} {D : DS} {w9 : World} {D' : DS} (h : Holds B w0 w (star (dP t b D) Q)) (hQ : Stable Q) (hk : Keep Nothing w w9) {A : Option Addr} {c : Nat} (hr : Row w9 37 7 (.slice A D'.es.length c) D'.es.length (ents D'.es)) (ho : ∀ k, (Value.slice A D'.es.length c).ownBlock = some k → w.heap.size ≤ k) :
    (∃ v, Blk w9 b t #[.int .i64 D.pr, .int .i64 D.ba, .string D.sn, v]) ∧ Holds B w0 ((((w9.setCell ⟨b, 0, none⟩ (.int .i64 D'.pr)).setCell ⟨b, 1, none⟩ (.int .i64 D'.ba)).setCell ⟨b, 2, none⟩ (.string D'.sn)).setCell ⟨b, 3, none⟩ (.slice A D'.es.length c)) (star (dP t b D') Q) := by
  obtain ⟨F, ⟨F1, F2, ⟨v, hb, hrv, hF1⟩, h2, h3, h4⟩, hbl, hB, hF⟩ := h
  have H0 : Holds B w0 w (star (dP t b D) Q) := ⟨F, ⟨F1, F2, ⟨v, hb, hrv, hF1⟩, h2, h3, h4⟩, hbl, hB, hF⟩
  have hb9 := hb.keep hk (fun h => h)
  have KZ := (blks4 hb9 (.int .i64 D'.pr) (.int .i64 D'.ba) (.string D'.sn) (.slice A D'.es.length c))
  have hlt := hb.lt
  refine ⟨⟨v, hb9⟩, H0.step (fun k hk => hF k ((h4 k).2 hk)) (Step.star (dP_step (D' := D') hF1 ?_ KZ.1 (hr.keep KZ.2 (fun g hg e => by have := ho g hg; omega)) (fun k hk => .inr (ho k hk))) hQ h2 h3)⟩
  exact (hk.wider (fun i h => h.elim)).trans KZ.2 (fun i hi => .inl (.inl hi))
theorem cell_farA (X : World) (b i : Nat) (u : Value) (p : Addr) (h : p.block ≠ b) : (X.setCell ⟨b, i, none⟩ u).cell? p = X.cell? p :=
  World.cell?_of_block (Below.heap_setCell X ⟨b, i, none⟩ u p.block h)
/-- What the reference's New knows behind the first k entries. -/
def newT (d : DS) (k : Nat) : DS := foldL ⟨d.pr, d.ba, d.sn, []⟩ ((d.es.take k).map recOf)
theorem newT_next {d : DS} {k : Nat} {e : Ent} (h : d.es[k]? = some e) : newT d (k + 1) = foldL (newT d k) [⟨2, 0, e⟩] := by
  unfold newT
  rw [List.take_add_one, h, ← foldL_app]
  simp [recOf]
theorem newT_len (d : DS) (k : Nat) : (newT d k).es.length ≤ k := by
  have h := foldL_len ((d.es.take k).map recOf) ⟨d.pr, d.ba, d.sn, []⟩
  have h3 : (d.es.take k).length ≤ k := by rw [List.length_take]; omega
  simp only [List.length_map, List.length_nil] at h
  unfold newT
  omega
theorem newT_sane {d : DS} (h : saneB d = true) : (newT d d.es.length).es = d.es := by
  have h1 := newS_sane h d.es.length (Nat.le_refl _)
  unfold saneB at h
  simp only [Bool.and_eq_true, decide_eq_true_eq] at h
  obtain ⟨_, hb⟩ := okFrom_rise h.1.1.1
  have e : newS d d.es.length = newT d d.es.length := by
    unfold newS newT
    rw [List.take_length, List.filter_eq_self.2 (fun x hx => decide_eq_true (hb x hx).1)]
  rw [← e, h1, List.take_length]
theorem newT_whole {d : DS} (h : saneB d = true) : (⟨d.pr, (newT d d.es.length).ba, (newT d d.es.length).sn, (newT d d.es.length).es⟩ : DS) = d := by
  have h2 := foldL_ba ((d.es.take d.es.length).map recOf) ⟨d.pr, d.ba, d.sn, []⟩
  rw [newT_sane h, show (newT d d.es.length).ba = d.ba from h2.1, show (newT d d.es.length).sn = d.sn from h2.2]
set_option maxHeartbeats 12800000 in
theorem new19 (w : World) (d : DS) (A : Option Addr) (c : Nat) (h : U.Src w A 7 d.es.length (ents d.es)) (hsn : saneB d = true) :
    Calls Try.prog 19 #[dval d A c] w (fun e w' => ∃ a, e = .returned (.pointer (some ⟨a, 0, none⟩)) ∧ Holds w.heap.size w w' (star (dP 74 a d) none_)) := by
  have hu37 := Try.underlying37
  have hu74 := Try.underlying74
  have hu24 := Try.underlying24
  have hu62 := Try.underlying62
  have HS := Lib.hid h
  have HSN := Lib.hid hsn
  have hdl := (saneB_len hsn).1
  have SZ := Lib.hid (show Stable (star (blkP w.heap.size 24 #[.int .i64 d.pr, .int .i64 d.ba, .string d.sn, .slice A d.es.length c]) none_) from (by repeat (first | exact none_stable | exact dP_stable _ _ _ | exact blkP_stable _ _ _ | exact rowP_stable _ _ _ _ _ | apply Stable.star)))
  have h1 := Holds.newBlk (Holds.start w) none_stable 24 #[.int .i64 d.pr, .int .i64 d.ba, .string d.sn, .slice A d.es.length c]
  have h2 : Holds w.heap.size w ((w.alloc (.cells #[.int .i64 d.pr, .int .i64 d.ba, .string d.sn, .slice A d.es.length c] 24)).alloc (.cells #[.int .i64 d.pr, .int .i64 d.ba, .string d.sn, .slice none 0 0] 74)) (star (dP 74 (w.heap.size + 1) ⟨d.pr, d.ba, d.sn, []⟩) (star (blkP w.heap.size 24 #[.int .i64 d.pr, .int .i64 d.ba, .string d.sn, .slice A d.es.length c]) none_)) :=
    h1.more SZ.out (F := fun k => k = w.heap.size + 1) ⟨.slice none 0 0, (by
      have := Blk.fresh (w.alloc (.cells #[.int .i64 d.pr, .int .i64 d.ba, .string d.sn, .slice A d.es.length c] 24)) 74 #[.int .i64 d.pr, .int .i64 d.ba, .string d.sn, .slice none 0 0]
      rw [size_alloc] at this
      exact this), Row.nil _ 37 7, fun k => by simp [Value.ownBlock]⟩ ((Keep.same _ _).alloc _) (fun k hk => by rw [size_alloc]; omega)
  have H2 := Lib.hid h2
  have BX := blk_at h1
  have x0 := BX.cell 0
  have x1 := BX.cell 1
  have x2 := BX.cell 2
  clear h h1 h2 BX hsn
  go_enter Try.func19, Try.ntmps19
  go_wp2_with fail
  obtain ⟨a, ha⟩ : ∃ a, w.heap.size + 1 = a := ⟨_, rfl⟩
  rw [ha] at H2
  rw [ha]
  have NB := Lib.hid (show w.heap.size ≠ a by omega)
  have HAA := Lib.hid ha
  clear ha x0 x1 x2
  go_loopw [4] (fun v wr => ∃ k : Nat, k ≤ d.es.length ∧ v = .int .i64 k ∧ Holds w.heap.size w wr (star (dP 74 a (newT d k)) (star (blkP w.heap.size 24 #[.int .i64 d.pr, .int .i64 d.ba, .string d.sn, .slice A d.es.length c]) none_))) (fun v _ => d.es.length - (intOf v).toNat)
  case atStart => exact ⟨0, by omega, by simp, H2.out⟩
  case round =>
    obtain ⟨k, hk, rfl, hh⟩ := hrel
    have H := Lib.hid hh
    have BX := blk_at hh.second
    have x0 := BX.cell 0
    have x3 := BX.cell 3
    have hel := newT_len d k
    clear hh BX
    by_cases hlt : k < d.es.length
    · obtain ⟨ad, y, rfl, hx, he⟩ := ent_at HS.out hlt
      obtain ⟨c0, c1, c2, c3, c4, c5, c6⟩ := he.keep (Keep.of_below H.out.below Nothing) (fun h => h)
      have NX := Lib.hid (newT_next hx)
      have NA := Lib.hid (show (ad.add (k * 7)).block ≠ a from by
        have h1 := World.block_lt_of_cell? w _ he.1
        have h2 := HAA.out
        omega)
      obtain ⟨E0, hE0⟩ : ∃ E0, newT d k = E0 := ⟨_, rfl⟩
      rw [hE0] at H NX hel
      have hfl : E0.es.length ≤ 500000 := by omega
      clear hE0 hx he
      obtain ⟨F9, v9, hb9, hr9, hF9⟩ := H.out.left
      obtain ⟨A9, c9, rfl, _, _⟩ := hr9.form
      have hba := hb9.alloc (.cells #[.int .i64 2, .int .i64 0, .int .i64 y.a, .int .i64 y.b, .int .i64 y.c.k, .int .i64 y.c.s, .int .i64 y.c.q, .string y.c.nm, .int .i64 y.c.n] 62)
      have ST := Lib.hid (show Stable (star (dP 74 a E0) (star (blkP w.heap.size 24 #[.int .i64 d.pr, .int .i64 d.ba, .string d.sn, .slice (some ad) d.es.length c]) none_)) from (by repeat (first | exact none_stable | exact dP_stable _ _ _ | exact blkP_stable _ _ _ | exact rowP_stable _ _ _ _ _ | apply Stable.star)))
      have hra := Lib.hid ((hr9.alloc (.cells #[.int .i64 2, .int .i64 0, .int .i64 y.a, .int .i64 y.b, .int .i64 y.c.k, .int .i64 y.c.s, .int .i64 y.c.q, .string y.c.nm, .int .i64 y.c.n] 62)).keep ((Keep.same Nothing _).drew) (fun _ _ h => h))
      have WA := Lib.hid ((H.out.alloc ST.out (.cells #[.int .i64 2, .int .i64 0, .int .i64 y.a, .int .i64 y.b, .int .i64 y.c.k, .int .i64 y.c.s, .int .i64 y.c.q, .string y.c.nm, .int .i64 y.c.n] 62)).kept ST.out ((Keep.same Nothing _).drew))
      have SRC := Lib.hid (show U.Src ((wr.alloc (.cells #[.int .i64 2, .int .i64 0, .int .i64 y.a, .int .i64 y.b, .int .i64 y.c.k, .int .i64 y.c.s, .int .i64 y.c.q, .string y.c.nm, .int .i64 y.c.n] 62)).drew) (some ⟨wr.heap.size, 0, none⟩) 9 1 (recs [⟨2, 0, y⟩]) from U.Src.fresh wr #[.int .i64 2, .int .i64 0, .int .i64 y.a, .int .i64 y.b, .int .i64 y.c.k, .int .i64 y.c.s, .int .i64 y.c.q, .string y.c.nm, .int .i64 y.c.n] 62 9 1 rfl)
      have HI := Lib.hid (fold14 _ E0 A9 c9 hra.out.src hfl (some ⟨wr.heap.size, 0, none⟩) 1 1 [⟨2, 0, y⟩] SRC.out (by omega))
      have d0 := hb9.cell 0
      have d1 := hb9.cell 1
      have d2 := hb9.cell 2
      have d3 := hb9.cell 3
      have a0 := hba.cell 0
      have a1 := hba.cell 1
      have a2 := hba.cell 2
      have a3 := hba.cell 3
      have hH0 : (fun w' : World => w'.cell? ⟨w.heap.size, 3, none⟩ = some (.slice (some ad) d.es.length c) ∧ w'.cell? (ad.add (k * 7)) = some (.int .i64 y.a) ∧ w'.cell? ⟨(ad.add (k * 7)).block, (ad.add (k * 7)).off + 1, none⟩ = some (.int .i64 y.b) ∧ w'.cell? ⟨(ad.add (k * 7)).block, (ad.add (k * 7)).off + 2, none⟩ = some (.int .i64 y.c.k) ∧ w'.cell? ⟨(ad.add (k * 7)).block, (ad.add (k * 7)).off + 3, none⟩ = some (.int .i64 y.c.s) ∧ w'.cell? ⟨(ad.add (k * 7)).block, (ad.add (k * 7)).off + 4, none⟩ = some (.int .i64 y.c.q) ∧ w'.cell? ⟨(ad.add (k * 7)).block, (ad.add (k * 7)).off + 5, none⟩ = some (.string y.c.nm) ∧ w'.cell? ⟨(ad.add (k * 7)).block, (ad.add (k * 7)).off + 6, none⟩ = some (.int .i64 y.c.n)) wr := ⟨x3, c0, c1, c2, c3, c4, c5, c6⟩
      have SF := Lib.hid (show ∀ (X : World) (i : Nat) (u : Value), (fun w' : World => w'.cell? ⟨w.heap.size, 3, none⟩ = some (.slice (some ad) d.es.length c) ∧ w'.cell? (ad.add (k * 7)) = some (.int .i64 y.a) ∧ w'.cell? ⟨(ad.add (k * 7)).block, (ad.add (k * 7)).off + 1, none⟩ = some (.int .i64 y.b) ∧ w'.cell? ⟨(ad.add (k * 7)).block, (ad.add (k * 7)).off + 2, none⟩ = some (.int .i64 y.c.k) ∧ w'.cell? ⟨(ad.add (k * 7)).block, (ad.add (k * 7)).off + 3, none⟩ = some (.int .i64 y.c.s) ∧ w'.cell? ⟨(ad.add (k * 7)).block, (ad.add (k * 7)).off + 4, none⟩ = some (.int .i64 y.c.q) ∧ w'.cell? ⟨(ad.add (k * 7)).block, (ad.add (k * 7)).off + 5, none⟩ = some (.string y.c.nm) ∧ w'.cell? ⟨(ad.add (k * 7)).block, (ad.add (k * 7)).off + 6, none⟩ = some (.int .i64 y.c.n)) X → (fun w' : World => w'.cell? ⟨w.heap.size, 3, none⟩ = some (.slice (some ad) d.es.length c) ∧ w'.cell? (ad.add (k * 7)) = some (.int .i64 y.a) ∧ w'.cell? ⟨(ad.add (k * 7)).block, (ad.add (k * 7)).off + 1, none⟩ = some (.int .i64 y.b) ∧ w'.cell? ⟨(ad.add (k * 7)).block, (ad.add (k * 7)).off + 2, none⟩ = some (.int .i64 y.c.k) ∧ w'.cell? ⟨(ad.add (k * 7)).block, (ad.add (k * 7)).off + 3, none⟩ = some (.int .i64 y.c.s) ∧ w'.cell? ⟨(ad.add (k * 7)).block, (ad.add (k * 7)).off + 4, none⟩ = some (.int .i64 y.c.q) ∧ w'.cell? ⟨(ad.add (k * 7)).block, (ad.add (k * 7)).off + 5, none⟩ = some (.string y.c.nm) ∧ w'.cell? ⟨(ad.add (k * 7)).block, (ad.add (k * 7)).off + 6, none⟩ = some (.int .i64 y.c.n)) (X.setCell ⟨a, i, none⟩ u) from fun X i u h => ⟨(cell_farA X a i u _ NB.out).trans h.1, (cell_farA X a i u _ NA.out).trans h.2.1, (cell_far X a i u _ _ NA.out).trans h.2.2.1, (cell_far X a i u _ _ NA.out).trans h.2.2.2.1, (cell_far X a i u _ _ NA.out).trans h.2.2.2.2.1, (cell_far X a i u _ _ NA.out).trans h.2.2.2.2.2.1, (cell_far X a i u _ _ NA.out).trans h.2.2.2.2.2.2.1, (cell_far X a i u _ _ NA.out).trans h.2.2.2.2.2.2.2⟩)
      have SA := Lib.hid (show ∀ (X Y : World), Keep Nothing X Y → (fun w' : World => w'.cell? ⟨w.heap.size, 3, none⟩ = some (.slice (some ad) d.es.length c) ∧ w'.cell? (ad.add (k * 7)) = some (.int .i64 y.a) ∧ w'.cell? ⟨(ad.add (k * 7)).block, (ad.add (k * 7)).off + 1, none⟩ = some (.int .i64 y.b) ∧ w'.cell? ⟨(ad.add (k * 7)).block, (ad.add (k * 7)).off + 2, none⟩ = some (.int .i64 y.c.k) ∧ w'.cell? ⟨(ad.add (k * 7)).block, (ad.add (k * 7)).off + 3, none⟩ = some (.int .i64 y.c.s) ∧ w'.cell? ⟨(ad.add (k * 7)).block, (ad.add (k * 7)).off + 4, none⟩ = some (.int .i64 y.c.q) ∧ w'.cell? ⟨(ad.add (k * 7)).block, (ad.add (k * 7)).off + 5, none⟩ = some (.string y.c.nm) ∧ w'.cell? ⟨(ad.add (k * 7)).block, (ad.add (k * 7)).off + 6, none⟩ = some (.int .i64 y.c.n)) X → (fun w' : World => w'.cell? ⟨w.heap.size, 3, none⟩ = some (.slice (some ad) d.es.length c) ∧ w'.cell? (ad.add (k * 7)) = some (.int .i64 y.a) ∧ w'.cell? ⟨(ad.add (k * 7)).block, (ad.add (k * 7)).off + 1, none⟩ = some (.int .i64 y.b) ∧ w'.cell? ⟨(ad.add (k * 7)).block, (ad.add (k * 7)).off + 2, none⟩ = some (.int .i64 y.c.k) ∧ w'.cell? ⟨(ad.add (k * 7)).block, (ad.add (k * 7)).off + 3, none⟩ = some (.int .i64 y.c.s) ∧ w'.cell? ⟨(ad.add (k * 7)).block, (ad.add (k * 7)).off + 4, none⟩ = some (.int .i64 y.c.q) ∧ w'.cell? ⟨(ad.add (k * 7)).block, (ad.add (k * 7)).off + 5, none⟩ = some (.string y.c.nm) ∧ w'.cell? ⟨(ad.add (k * 7)).block, (ad.add (k * 7)).off + 6, none⟩ = some (.int .i64 y.c.n)) Y from fun X Y k h => ⟨k.cell h.1 (fun h => h), k.cell h.2.1 (fun h => h), k.cell h.2.2.1 (fun h => h), k.cell h.2.2.2.1 (fun h => h), k.cell h.2.2.2.2.1 (fun h => h), k.cell h.2.2.2.2.2.1 (fun h => h), k.cell h.2.2.2.2.2.2.1 (fun h => h), k.cell h.2.2.2.2.2.2.2 (fun h => h)⟩)
      dsimp only at hH0
      clear hb9 hr9 hF9 hba
      go_wp2_with fail
      clear c0 c1 c2 c3 c4 c5 c6 x0 x3
      refine wp_region_noPanic ?_
      refine wp_region_held_drew (S := (fun w' : World => w'.cell? ⟨w.heap.size, 3, none⟩ = some (.slice (some ad) d.es.length c) ∧ w'.cell? (ad.add (k * 7)) = some (.int .i64 y.a) ∧ w'.cell? ⟨(ad.add (k * 7)).block, (ad.add (k * 7)).off + 1, none⟩ = some (.int .i64 y.b) ∧ w'.cell? ⟨(ad.add (k * 7)).block, (ad.add (k * 7)).off + 2, none⟩ = some (.int .i64 y.c.k) ∧ w'.cell? ⟨(ad.add (k * 7)).block, (ad.add (k * 7)).off + 3, none⟩ = some (.int .i64 y.c.s) ∧ w'.cell? ⟨(ad.add (k * 7)).block, (ad.add (k * 7)).off + 4, none⟩ = some (.int .i64 y.c.q) ∧ w'.cell? ⟨(ad.add (k * 7)).block, (ad.add (k * 7)).off + 5, none⟩ = some (.string y.c.nm) ∧ w'.cell? ⟨(ad.add (k * 7)).block, (ad.add (k * 7)).off + 6, none⟩ = some (.int .i64 y.c.n))) (by kernel_rfl) hH0 (fun hHeld => ?_)
      refine wpAnyH_take (i := 0) (oi := _) (v := ?_) (by simp only [List.getElem?_toArray, List.getElem?_cons_succ, List.getElem?_cons_zero]; rfl) (by kernel_rfl) (by kernel_rfl) (by kernel_rfl) (fun _ _ _ h => h) (Or.inl ⟨by rfl, ?_⟩) (by assumption) ?_
      rotate_left
      · (intro w hSw; (try dsimp only at hSw); go_simp; (try with_reducible rfl))
      (try simp only [Act.put, List.setIfInBounds_toArray, List.set_cons_zero, List.set_cons_succ])
      refine wpAnyH_take (i := 1) (oi := _) (v := ?_) (by simp only [List.getElem?_toArray, List.getElem?_cons_succ, List.getElem?_cons_zero]; rfl) (by kernel_rfl) (by kernel_rfl) (by kernel_rfl) (fun _ _ _ h => h) (Or.inl ⟨by rfl, ?_⟩) (by assumption) ?_
      rotate_left
      · (intro w hSw; (try dsimp only at hSw); go_simp; (try with_reducible rfl))
      (try simp only [Act.put, List.setIfInBounds_toArray, List.set_cons_zero, List.set_cons_succ])
      refine wpAnyH_take (i := 2) (oi := _) (v := ?_) (by simp only [List.getElem?_toArray, List.getElem?_cons_succ, List.getElem?_cons_zero]; rfl) (by kernel_rfl) (by kernel_rfl) (by kernel_rfl) (fun _ _ _ h => h) (Or.inl ⟨by rfl, ?_⟩) (by assumption) ?_
      rotate_left
      · (intro w hSw; (try dsimp only at hSw); go_simp; (try with_reducible rfl))
      (try simp only [Act.put, List.setIfInBounds_toArray, List.set_cons_zero, List.set_cons_succ])
      refine wpAnyH_take (i := 3) (oi := _) (v := ?_) (by simp only [List.getElem?_toArray, List.getElem?_cons_succ, List.getElem?_cons_zero]; rfl) (by kernel_rfl) (by kernel_rfl) (by kernel_rfl) (fun _ _ _ h => h) (Or.inl ⟨by rfl, ?_⟩) (by assumption) ?_
      rotate_left
      · (intro w hSw; (try dsimp only at hSw); go_simp; (try with_reducible rfl))
      (try simp only [Act.put, List.setIfInBounds_toArray, List.set_cons_zero, List.set_cons_succ])
      refine wpAnyH_take (i := 5) (oi := _) (v := ?_) (by simp only [List.getElem?_toArray, List.getElem?_cons_succ, List.getElem?_cons_zero]; rfl) (by kernel_rfl) (by kernel_rfl) (by kernel_rfl) (fun _ _ _ h => h) (Or.inl ⟨by rfl, ?_⟩) (by assumption) ?_
      rotate_left
      · (intro w hSw; (try dsimp only at hSw); go_simp; (try with_reducible rfl))
      (try simp only [Act.put, List.setIfInBounds_toArray, List.set_cons_zero, List.set_cons_succ])
      refine wpAnyH_take (i := 6) (oi := _) (v := ?_) (by simp only [List.getElem?_toArray, List.getElem?_cons_succ, List.getElem?_cons_zero]; rfl) (by kernel_rfl) (by kernel_rfl) (by kernel_rfl) (fun _ _ _ h => h) (Or.inl ⟨by rfl, ?_⟩) (by assumption) ?_
      rotate_left
      · (intro w hSw; (try dsimp only at hSw); obtain ⟨s0, s1, s2, s3, s4, s5, s6, s7⟩ := hSw; go_simp; (try with_reducible rfl))
      (try simp only [Act.put, List.setIfInBounds_toArray, List.set_cons_zero, List.set_cons_succ])
      refine wpAnyH_take (i := 7) (oi := _) (v := ?_) (by simp only [List.getElem?_toArray, List.getElem?_cons_succ, List.getElem?_cons_zero]; rfl) (by kernel_rfl) (by kernel_rfl) (by kernel_rfl) (fun _ _ _ h => h) (Or.inl ⟨by rfl, ?_⟩) (by assumption) ?_
      rotate_left
      · (intro w hSw; (try dsimp only at hSw); go_simp; (try with_reducible rfl))
      (try simp only [Act.put, List.setIfInBounds_toArray, List.set_cons_zero, List.set_cons_succ])
      refine wpAnyH_take (i := 8) (oi := _) (v := ?_) (by simp only [List.getElem?_toArray, List.getElem?_cons_succ, List.getElem?_cons_zero]; rfl) (by kernel_rfl) (by kernel_rfl) (by kernel_rfl) (fun _ _ _ h => h) (Or.inl ⟨by rfl, ?_⟩) (by assumption) ?_
      rotate_left
      · (intro w hSw; (try dsimp only at hSw); go_simp; (try with_reducible rfl))
      (try simp only [Act.put, List.setIfInBounds_toArray, List.set_cons_zero, List.set_cons_succ])
      refine wpAnyH_take (i := 9) (oi := _) (v := ?_) (by simp only [List.getElem?_toArray, List.getElem?_cons_succ, List.getElem?_cons_zero]; rfl) (by kernel_rfl) (by kernel_rfl) (by kernel_rfl) (fun _ _ _ h => h) (Or.inl ⟨by rfl, ?_⟩) (by assumption) ?_
      rotate_left
      · (intro w hSw; (try dsimp only at hSw); obtain ⟨s0, s1, s2, s3, s4, s5, s6, s7⟩ := hSw; go_simp; (try with_reducible rfl))
      (try simp only [Act.put, List.setIfInBounds_toArray, List.set_cons_zero, List.set_cons_succ])
      refine wpAnyH_take (i := 10) (oi := _) (v := ?_) (by simp only [List.getElem?_toArray, List.getElem?_cons_succ, List.getElem?_cons_zero]; rfl) (by kernel_rfl) (by kernel_rfl) (by kernel_rfl) (fun _ _ _ h => h) (Or.inl ⟨by rfl, ?_⟩) (by assumption) ?_
      rotate_left
      · (intro w hSw; (try dsimp only at hSw); go_simp; (try with_reducible rfl))
      (try simp only [Act.put, List.setIfInBounds_toArray, List.set_cons_zero, List.set_cons_succ])
      refine wpAnyH_ready (rs := [4, 11]) (by kernel_rfl) (by simp) ?_
      refine AllReadyH.cons (o := _) (by simp only [List.getElem?_toArray, List.getElem?_cons_succ, List.getElem?_cons_zero]; rfl) (fun K hK => ?_) (AllReadyH.cons (o := _) (by simp only [List.getElem?_toArray, List.getElem?_cons_succ, List.getElem?_cons_zero]; rfl) (fun K hK => ?_) AllReadyH.nil)
      · go_simp
        refine hK.out _ _ (by first | exact hHeld) (fun hHeld => ?_)
        clear hK K
        (try simp only [Act.put, List.setIfInBounds_toArray, List.set_cons_zero, List.set_cons_succ])
        refine wpAnyH_ready (rs := [11]) (by kernel_rfl) (by simp) ?_
        refine AllReadyH.cons (o := _) (by simp only [List.getElem?_toArray, List.getElem?_cons_succ, List.getElem?_cons_zero]; rfl) (fun K hK => ?_) AllReadyH.nil
        go_simp
        refine hK.out _ _ (SA.out _ _ ((Keep.same Nothing _).alloc _) (by first | exact hHeld)) (fun hHeld => ?_)
        clear hK K
        (try simp only [Act.put, List.setIfInBounds_toArray, List.set_cons_zero, List.set_cons_succ])
        refine wpAnyH_ready (rs := [12]) (by kernel_rfl) (by simp) ?_
        refine AllReadyH.cons (o := _) (by simp only [List.getElem?_toArray, List.getElem?_cons_succ, List.getElem?_cons_zero]; rfl) (fun K hK => ?_) AllReadyH.nil
        go_simp
        refine HI.out.mono ?_
        rintro e2 w8 ⟨A8, c8, rfl, hr8, hk8, ho8⟩
        have TK := Lib.hid (d_takeT (D' := foldL E0 [⟨2, 0, y⟩]) WA.out SZ.out hk8 hr8 ho8)
        obtain ⟨v8, hb8⟩ := TK.out.1
        obtain ⟨r0, g0, r1, g1, r2, g2, r3, g3, q0, q1, q2, q3, p0, p1, p2⟩ := store4 hb8 (.int .i64 (foldL E0 [⟨2, 0, y⟩]).pr) (.int .i64 (foldL E0 [⟨2, 0, y⟩]).ba) (.string (foldL E0 [⟨2, 0, y⟩]).sn) (.slice A8 (foldL E0 [⟨2, 0, y⟩]).es.length c8)
        have hH8 := SA.out _ _ hk8 (SA.out _ _ (((Keep.same Nothing _).alloc (.cells #[.int .i64 2, .int .i64 0, .int .i64 y.a, .int .i64 y.b, .int .i64 y.c.k, .int .i64 y.c.s, .int .i64 y.c.q, .string y.c.nm, .int .i64 y.c.n] 62)).drew) hH0)
        have HH8 := Lib.hid hH8
        (try dsimp only at hH8)
        clear hr8 hk8 ho8 hb8
        (try go_wp2_with fail)
        refine hK.out _ _ (hH8) (fun hHeld => ?_)
        clear hK K
        (try simp only [Act.put, List.setIfInBounds_toArray, List.set_cons_zero, List.set_cons_succ])
        refine wpAnyH_take (i := 13) (oi := _) (v := ?_) (by simp only [List.getElem?_toArray, List.getElem?_cons_succ, List.getElem?_cons_zero]; rfl) (by kernel_rfl) (by kernel_rfl) (by kernel_rfl) (fun _ _ _ h => h) (Or.inl ⟨by rfl, ?_⟩) (by assumption) ?_
        rotate_left
        · (intro w hSw; (try dsimp only at hSw); go_simp; (try with_reducible rfl))
        (try simp only [Act.put, List.setIfInBounds_toArray, List.set_cons_zero, List.set_cons_succ])
        refine wpAnyH_take (i := 14) (oi := _) (v := ?_) (by simp only [List.getElem?_toArray, List.getElem?_cons_succ, List.getElem?_cons_zero]; rfl) (by kernel_rfl) (by kernel_rfl) (by kernel_rfl) (fun _ _ _ h => h) (Or.inl ⟨by rfl, ?_⟩) (by assumption) ?_
        rotate_left
        · (intro w hSw; (try dsimp only at hSw); go_simp; (try with_reducible rfl))
        (try simp only [Act.put, List.setIfInBounds_toArray, List.set_cons_zero, List.set_cons_succ])
        refine wpAnyH_ready (rs := [15]) (by kernel_rfl) (by simp) ?_
        refine AllReadyH.cons (o := _) (by simp only [List.getElem?_toArray, List.getElem?_cons_succ, List.getElem?_cons_zero]; rfl) (fun K hK => ?_) AllReadyH.nil
        go_simp
        refine hK.out _ _ (SF.out _ 3 _ (SF.out _ 2 _ (SF.out _ 1 _ (SF.out _ 0 _ HH8.out)))) (fun hHeld => ?_)
        clear hK K
        (try simp only [Act.put, List.setIfInBounds_toArray, List.set_cons_zero, List.set_cons_succ])
        refine wpAnyH_done (by kernel_rfl) ?_ _
        refine NoPanic.normal ?_
        have H10 := Lib.hid TK.out.2
        clear r0 g0 r1 g1 r2 g2 r3 g3 q0 q1 q2 q3 p0 p1 p2 a0 a1 a2 a3 d0 d1 d2 d3 hH0 hH8
        go_wp2_with fail
        go_roundw
        case rel => exact ⟨k + 1, by omega, by go_num, by rw [NX.out]; exact H10.out⟩
        case measure => simp [intOf]; omega
      · go_simp
        refine hK.out _ _ (SA.out _ _ ((Keep.same Nothing _).alloc _) (by first | exact hHeld)) (fun hHeld => ?_)
        clear hK K
        (try simp only [Act.put, List.setIfInBounds_toArray, List.set_cons_zero, List.set_cons_succ])
        refine wpAnyH_ready (rs := [4]) (by kernel_rfl) (by simp) ?_
        refine AllReadyH.cons (o := _) (by simp only [List.getElem?_toArray, List.getElem?_cons_succ, List.getElem?_cons_zero]; rfl) (fun K hK => ?_) AllReadyH.nil
        go_simp
        refine hK.out _ _ (by first | exact hHeld) (fun hHeld => ?_)
        clear hK K
        (try simp only [Act.put, List.setIfInBounds_toArray, List.set_cons_zero, List.set_cons_succ])
        refine wpAnyH_ready (rs := [12]) (by kernel_rfl) (by simp) ?_
        refine AllReadyH.cons (o := _) (by simp only [List.getElem?_toArray, List.getElem?_cons_succ, List.getElem?_cons_zero]; rfl) (fun K hK => ?_) AllReadyH.nil
        go_simp
        refine HI.out.mono ?_
        rintro e2 w8 ⟨A8, c8, rfl, hr8, hk8, ho8⟩
        have TK := Lib.hid (d_takeT (D' := foldL E0 [⟨2, 0, y⟩]) WA.out SZ.out hk8 hr8 ho8)
        obtain ⟨v8, hb8⟩ := TK.out.1
        obtain ⟨r0, g0, r1, g1, r2, g2, r3, g3, q0, q1, q2, q3, p0, p1, p2⟩ := store4 hb8 (.int .i64 (foldL E0 [⟨2, 0, y⟩]).pr) (.int .i64 (foldL E0 [⟨2, 0, y⟩]).ba) (.string (foldL E0 [⟨2, 0, y⟩]).sn) (.slice A8 (foldL E0 [⟨2, 0, y⟩]).es.length c8)
        have hH8 := SA.out _ _ hk8 (SA.out _ _ (((Keep.same Nothing _).alloc (.cells #[.int .i64 2, .int .i64 0, .int .i64 y.a, .int .i64 y.b, .int .i64 y.c.k, .int .i64 y.c.s, .int .i64 y.c.q, .string y.c.nm, .int .i64 y.c.n] 62)).drew) hH0)
        have HH8 := Lib.hid hH8
        (try dsimp only at hH8)
        clear hr8 hk8 ho8 hb8
        (try go_wp2_with fail)
        refine hK.out _ _ (hH8) (fun hHeld => ?_)
        clear hK K
        (try simp only [Act.put, List.setIfInBounds_toArray, List.set_cons_zero, List.set_cons_succ])
        refine wpAnyH_take (i := 13) (oi := _) (v := ?_) (by simp only [List.getElem?_toArray, List.getElem?_cons_succ, List.getElem?_cons_zero]; rfl) (by kernel_rfl) (by kernel_rfl) (by kernel_rfl) (fun _ _ _ h => h) (Or.inl ⟨by rfl, ?_⟩) (by assumption) ?_
        rotate_left
        · (intro w hSw; (try dsimp only at hSw); go_simp; (try with_reducible rfl))
        (try simp only [Act.put, List.setIfInBounds_toArray, List.set_cons_zero, List.set_cons_succ])
        refine wpAnyH_take (i := 14) (oi := _) (v := ?_) (by simp only [List.getElem?_toArray, List.getElem?_cons_succ, List.getElem?_cons_zero]; rfl) (by kernel_rfl) (by kernel_rfl) (by kernel_rfl) (fun _ _ _ h => h) (Or.inl ⟨by rfl, ?_⟩) (by assumption) ?_
        rotate_left
        · (intro w hSw; (try dsimp only at hSw); go_simp; (try with_reducible rfl))
        (try simp only [Act.put, List.setIfInBounds_toArray, List.set_cons_zero, List.set_cons_succ])
        refine wpAnyH_ready (rs := [15]) (by kernel_rfl) (by simp) ?_
        refine AllReadyH.cons (o := _) (by simp only [List.getElem?_toArray, List.getElem?_cons_succ, List.getElem?_cons_zero]; rfl) (fun K hK => ?_) AllReadyH.nil
        go_simp
        refine hK.out _ _ (SF.out _ 3 _ (SF.out _ 2 _ (SF.out _ 1 _ (SF.out _ 0 _ HH8.out)))) (fun hHeld => ?_)
        clear hK K
        (try simp only [Act.put, List.setIfInBounds_toArray, List.set_cons_zero, List.set_cons_succ])
        refine wpAnyH_done (by kernel_rfl) ?_ _
        refine NoPanic.normal ?_
        have H10 := Lib.hid TK.out.2
        clear r0 g0 r1 g1 r2 g2 r3 g3 q0 q1 q2 q3 p0 p1 p2 a0 a1 a2 a3 d0 d1 d2 d3 hH0 hH8
        go_wp2_with fail
        go_roundw
        case rel => exact ⟨k + 1, by omega, by go_num, by rw [NX.out]; exact H10.out⟩
        case measure => simp [intOf]; omega
    · obtain rfl : k = d.es.length := by omega
      obtain ⟨A9, c9, y0, _, _, _, f0, _⟩ := d_cells H.out
      have f00 := f0 0
      have H9 := d_setpr H.out SZ.out (by decide) d.pr
      rw [newT_whole HSN.out] at H9
      have H10 := Lib.hid H9
      clear f0 H9
      go_wp2_with fail
      go_ret
      exact ⟨a, rfl, (Holds.second H10.out).drop⟩
theorem x_new19 {B : Nat} {w0 w : World} {Q : SP} (h : Holds B w0 w Q) (hQ : Stable Q) (d : DS) (A : Option Addr) (c : Nat) (hs : U.Src w A 7 d.es.length (ents d.es)) (hsn : saneB d = true) :
    Calls Try.prog 19 #[dval d A c] w (fun e w' => ∃ a, e = .returned (.pointer (some ⟨a, 0, none⟩)) ∧ Holds B w0 w' (star (dP 74 a d) Q)) := by
  refine (new19 w d A c hs hsn).mono fun e w' ⟨a, he, hh⟩ => ⟨a, he, ?_⟩
  obtain ⟨F, ⟨F1, F2, h1, h2, h3, h4⟩, hb, hB, hF⟩ := hh
  exact h.more hQ (F := F1) h1 (Keep.of_below hb Nothing) (fun k hk => hF k ((h4 k).2 (.inl hk)))
theorem recQ_P {D : DS} {x : Int} (h : low D x = false) : recQ D x = recP D x := by
  unfold low at h
  simp only [Bool.or_eq_false_iff, decide_eq_false_iff_not] at h
  unfold recQ recP
  by_cases e : x = D.pr
  · rw [if_pos e, if_neg (by omega)]
  · rw [if_neg e, if_pos (by omega)]
section
variable {B : Nat} {w0 w : World} {Q : SP} {b : Nat} {D : DS}
set_option maxHeartbeats 6400000 in
theorem x_prepare21 (h : Holds B w0 w (star (dP 74 b D) Q)) (hQ : Stable Q) (x : Int) :
    Calls Try.prog 21 #[.pointer (some ⟨b, 0, none⟩), .int .i64 x] w (GavePost B w0 Q 74 b (prep D x)) := by
  have hu := Try.underlying33
  have hu74 := Try.underlying74
  have hu24 := Try.underlying24
  have SQ := Lib.hid hQ
  have SD := Lib.hid (dP_stable 74 b)
  have SB := Lib.hid blkP_stable
  have SR := Lib.hid rowP_stable
  have H0 := Lib.hid h
  have H1 := Lib.hid (Holds.newBlk h ((SD.out D).star SQ.out) 33 zo4)
  obtain ⟨A, c, d0, _⟩ := d_cells H1.out.second
  clear h hQ
  cases hl : low D x with
  | true =>
    have E := Lib.hid (show prep D x = (D, false, []) by unfold prep; rw [hl]; rfl)
    have G := Lib.hid (show GavePost B w0 Q 74 b (prep D x) (.returned (.tuple #[outV none 0 0, .bool false])) (w.alloc (.cells zo4 33)) by
      rw [E.out]
      exact ⟨none, 0, rfl, Holds.newRow H1.out.drop ((SD.out D).star SQ.out) (Row.nil _ 62 9) (Keep.same _ _) (fun k hk => by simp [Value.ownBlock] at hk)⟩)
    unfold low at hl
    rcases (show decide (x < 1) = true ∨ (decide (x < 1) = false ∧ decide (x < D.pr) = true) by
      cases h1 : decide (x < 1) <;> cases h2 : decide (x < D.pr) <;> simp [h1, h2] at hl ⊢) with g1 | ⟨g1, g2⟩
    all_goals clear hl
    all_goals go_enter Try.func21, Try.ntmps21
    all_goals go_wp2_with fail
    all_goals refine bodyPost_ret (v := .tuple #[outV none 0 0, .bool false]) (by simp [results, Try.results21, go_sem, hu]) rfl ?_
    all_goals exact G.out
  | false =>
    have E := Lib.hid (show prep D x = (⟨x, D.ba, D.sn, D.es⟩, true, recP D x) by unfold prep; rw [hl]; rfl)
    have HP := x_promise39 H1.out.second ((SB.out _ _ _).star SQ.out) x
    rw [recQ_P hl] at HP
    have HP1 := Lib.hid HP
    unfold low at hl
    simp only [Bool.or_eq_false_iff] at hl
    obtain ⟨g1, g2⟩ := hl
    clear HP
    go_enter Try.func21, Try.ntmps21
    go_wp2_with fail
    refine HP1.out.mono ?_
    rintro e w4 ⟨A4, c4, rfl, h4⟩
    have H4 := Lib.hid (show Holds B w0 w4 (star (blkP w.heap.size 33 zo4) (star (rowP 62 9 (.slice A4 (recP D x).length c4) (recP D x).length (recs (recP D x))) (star (dP 74 b ⟨x, D.ba, D.sn, D.es⟩) Q))) from h4.perm (by ac_rfl))
    have B5 := blk_at H4.out
    obtain ⟨r0, f0, r1, f1, r2, f2, r3, f3, q0, q1, q2, q3, p0, p1, p2⟩ := store4 B5 (.slice A4 (recP D x).length c4) (.bool false) (.slice none 0 0) (.slice none 0 0)
    have H7 := Lib.hid (held4 H4.out ((SR.out _ _ _ _ _).star ((SD.out _).star SQ.out)) (.slice A4 (recP D x).length c4) (.bool false) (.slice none 0 0) (.slice none 0 0)).drop
    clear h4 B5
    go_wp2_with fail
    refine bodyPost_ret (v := .tuple #[outV A4 (recP D x).length c4, .bool true]) (by simp [results, Try.results21, go_sem, hu, p0, p1, p2, q0, q1, q2, q3]) rfl ?_
    rw [E.out]
    exact ⟨A4, c4, rfl, H7.out⟩
theorem above_from (L : List Ent) (s : Int) : above L s = from_ L (s + 1) := rfl
set_option maxHeartbeats 6400000 in
theorem x_cut24n (h : Holds B w0 w (star (dP 74 b D) Q)) (hQ : Stable Q) (hL : D.es.length ≤ 1000000) (s : Int) (hs1 : -9223372036854775808 ≤ s) (hs2 : s ≤ 9223372036854775807) (hmx0 : ¬ s = 9223372036854775807) (sn : ByteArray) :
    Calls Try.prog 24 #[.pointer (some ⟨b, 0, none⟩), .int .i64 s, .string sn] w (fun e w' => unit_ e ∧ Holds B w0 w' (star (dP 74 b (cut D s sn)) Q)) := by
  have hu := Try.underlying24
  have hu2 := Try.underlying74
  have H := Lib.hid h
  have SQ := Lib.hid hQ
  have SD := Lib.hid (dP_stable 74 b)
  obtain ⟨A, c, d0, d1, d2, d3, fr, hrow, _⟩ := d_cells h
  have FR := Lib.hid fr
  clear h hQ hrow fr
  by_cases hs : s ≤ D.ba
  · have E := Lib.hid (show cut D s sn = D by unfold cut; rw [if_pos hs])
    have g1 : decide (D.ba < s) = false := decide_eq_false (by omega)
    clear hs
    go_enter Try.func24, Try.ntmps24
    go_wp2_with fail
    go_end0
    exact ⟨rfl, by rw [E.out]; exact H.out⟩
  · have E := Lib.hid (show cut D s sn = ⟨D.pr, s, sn, above D.es s⟩ by unfold cut; rw [if_neg hs])
    have g1 : decide (D.ba < s) = true := decide_eq_true (by omega)
    have H2 := Lib.hid (show Holds B w0 ((w.setCell ⟨b, 1, none⟩ (.int .i64 s)).setCell ⟨b, 2, none⟩ (.string sn)) (star (dP 74 b ⟨D.pr, s, sn, D.es⟩) Q) from
      H.out.did_left SQ.out fun F ⟨v, hb, hr, hF⟩ => dP_step (D' := ⟨D.pr, s, sn, D.es⟩) hF ((((Keep.same _ w).set (p := ⟨b, 1, none⟩) (.inl (.inl rfl)) _)).set (p := ⟨b, 2, none⟩) (.inl (.inl rfl)) _) ((hb.put 1 _).put 2 _)
        ((hr.far (p := ⟨b, 1, none⟩) (hr.apart hb (by decide)) _).far (p := ⟨b, 2, none⟩) (hr.apart hb (by decide)) _) (fun k hk => .inl hk))
    have f1 := FR.out 1
    obtain ⟨d2', f2⟩ : (w.setCell ⟨b, 1, none⟩ (.int .i64 s)).cell? ⟨b, 2, none⟩ = some (.string D.sn) ∧ (w.setCell ⟨b, 1, none⟩ (.int .i64 s)).frozen? ⟨b, 2, none⟩ = false := by
      obtain ⟨F, v, hb, _⟩ := H.out.left
      exact ⟨(hb.put 1 _).cell 2, (hb.put 1 _).free 2⟩
    obtain ⟨A9, c9, e0, e1, e2, e3, fr, _⟩ := d_cells H2.out
    have f3 := fr 3
    have FR2 := Lib.hid fr
    clear hs fr
    by_cases hmx : s = 9223372036854775807
    · exact absurd hmx hmx0
    · have g2 : (s == 9223372036854775807) = false := by rw [beq_eq_false_iff_ne]; exact hmx
      have HF := Lib.hid (x_from38 H2.out (by exact hL) (s + 1))
      have hw : wrap64 (s + 1) = s + 1 := by unfold wrap64; omega
      clear hmx hmx0
      go_enter Try.func24, Try.ntmps24
      go_wp2_with fail
      refine HF.out.mono ?_
      rintro e w5 ⟨A5, c5, rfl, hr5, hk5, ho5⟩
      have H3 := Lib.hid (d_set3 H2.out SQ.out (by decide) hk5 hr5 ho5)
      obtain ⟨v5, hb5⟩ := H3.out.2
      have z3 := hb5.cell 3
      have f5 := hb5.free 3
      have EN := Lib.hid (above_from D.es s)
      clear hr5 hk5 ho5 hb5
      go_wp2_with fail
      go_end0
      exact ⟨rfl, by rw [E.out, EN.out]; exact H3.out.1⟩
set_option maxHeartbeats 6400000 in
theorem x_cut24m (h : Holds B w0 w (star (dP 74 b D) Q)) (hQ : Stable Q) (hm : ∀ x ∈ D.es, x.a ≤ 9223372036854775807) (sn : ByteArray) :
    Calls Try.prog 24 #[.pointer (some ⟨b, 0, none⟩), .int .i64 9223372036854775807, .string sn] w (fun e w' => unit_ e ∧ Holds B w0 w' (star (dP 74 b (cut D 9223372036854775807 sn)) Q)) := by
  have hu := Try.underlying24
  have hu2 := Try.underlying74
  have H := Lib.hid h
  have SQ := Lib.hid hQ
  obtain ⟨A, c, d0, d1, d2, d3, fr, hrow, _⟩ := d_cells h
  have FR := Lib.hid fr
  have HM := Lib.hid hm
  clear h hQ hrow fr hm
  by_cases hs : 9223372036854775807 ≤ D.ba
  · have E := Lib.hid (show cut D 9223372036854775807 sn = D by unfold cut; rw [if_pos hs])
    have g1 : decide (D.ba < 9223372036854775807) = false := decide_eq_false (by omega)
    clear hs
    go_enter Try.func24, Try.ntmps24
    go_wp2_with fail
    go_end0
    exact ⟨rfl, by rw [E.out]; exact H.out⟩
  · have E := Lib.hid (show cut D 9223372036854775807 sn = ⟨D.pr, 9223372036854775807, sn, []⟩ by
      unfold cut; rw [if_neg hs]
      congr 1
      unfold above
      rw [List.filter_eq_nil_iff]
      intro x hx
      have := HM.out x hx
      simp; omega)
    have g1 : decide (D.ba < 9223372036854775807) = true := decide_eq_true (by omega)
    have H2 := Lib.hid (show Holds B w0 ((w.setCell ⟨b, 1, none⟩ (.int .i64 9223372036854775807)).setCell ⟨b, 2, none⟩ (.string sn)) (star (dP 74 b ⟨D.pr, 9223372036854775807, sn, D.es⟩) Q) from
      H.out.did_left SQ.out fun F ⟨v, hb, hr, hF⟩ => dP_step (D' := ⟨D.pr, 9223372036854775807, sn, D.es⟩) hF ((((Keep.same _ w).set (p := ⟨b, 1, none⟩) (.inl (.inl rfl)) _)).set (p := ⟨b, 2, none⟩) (.inl (.inl rfl)) _) ((hb.put 1 _).put 2 _)
        ((hr.far (p := ⟨b, 1, none⟩) (hr.apart hb (by decide)) _).far (p := ⟨b, 2, none⟩) (hr.apart hb (by decide)) _) (fun k hk => .inl hk))
    have f1 := FR.out 1
    obtain ⟨d2', f2⟩ : (w.setCell ⟨b, 1, none⟩ (.int .i64 9223372036854775807)).cell? ⟨b, 2, none⟩ = some (.string D.sn) ∧ (w.setCell ⟨b, 1, none⟩ (.int .i64 9223372036854775807)).frozen? ⟨b, 2, none⟩ = false := by
      obtain ⟨F, v, hb, _⟩ := H.out.left
      exact ⟨(hb.put 1 _).cell 2, (hb.put 1 _).free 2⟩
    obtain ⟨A9, c9, e0, e1, e2, e3, fr, _⟩ := d_cells H2.out
    have f3 := fr 3
    have H3 := Lib.hid (d_set3 (es' := []) (A8 := none) (c8 := 0) H2.out SQ.out (by decide) (Keep.same Nothing _) (Row.nil _ 37 7) (fun k hk => by simp [Value.ownBlock] at hk)).1
    clear hs fr
    go_enter Try.func24, Try.ntmps24
    go_wp2_with fail
    go_end0
    exact ⟨rfl, by rw [E.out]; exact H3.out⟩
theorem x_cut24 (h : Holds B w0 w (star (dP 74 b D) Q)) (hQ : Stable Q) (hL : D.es.length ≤ 1000000) (hm : ∀ x ∈ D.es, x.a ≤ 9223372036854775807) (s : Int) (hs1 : -9223372036854775808 ≤ s) (hs2 : s ≤ 9223372036854775807) (sn : ByteArray) :
    Calls Try.prog 24 #[.pointer (some ⟨b, 0, none⟩), .int .i64 s, .string sn] w (fun e w' => unit_ e ∧ Holds B w0 w' (star (dP 74 b (cut D s sn)) Q)) := by
  by_cases h0 : s = 9223372036854775807
  · subst h0
    exact x_cut24m h hQ hm sn
  · exact x_cut24n h hQ hL s hs1 hs2 h0 sn
end
end Go.Proofs.Ytnbllckmeehhjaa.A
