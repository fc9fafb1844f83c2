/-
  The acceptor: New.
-/
import Derived.Test.YtnbllckmeehhjaaL
namespace Go.Proofs.Ytnbllckmeehhjaa.A
open Go.RowKit Go.Proofs.Ytnbllckmeehhjaa.U
set_option linter.unusedVariables false
set_option linter.unusedSimpArgs false
set_option maxRecDepth 100000

def recOf (e : Ent) : Rc := ⟨2, 0, e⟩
/-- What a new acceptor knows behind the first k entries. -/
def newS (d : DS) (k : Nat) : DS := foldL ⟨d.pr, d.ba, d.sn, []⟩ (((d.es.take k).filter fun e => decide (d.ba < e.a)).map recOf)
def newD (d : DS) : DS := ⟨d.pr, d.ba, d.sn, (newS d d.es.length).es⟩
theorem newS_in {d : DS} {k : Nat} {e : Ent} (h : d.es[k]? = some e) (hb : d.ba < e.a) : newS d (k + 1) = foldL (newS d k) [⟨2, 0, e⟩] := by
  unfold newS
  rw [List.take_add_one, h, ← foldL_app]
  simp [hb, recOf]
theorem newS_out {d : DS} {k : Nat} {e : Ent} (h : d.es[k]? = some e) (hb : ¬ d.ba < e.a) : newS d (k + 1) = newS d k := by
  unfold newS
  rw [List.take_add_one, h]
  simp [hb]
theorem foldR_ba (D : DS) (r : Rc) : (foldR D r).ba = D.ba ∧ (foldR D r).sn = D.sn := by
  unfold foldR
  split
  · exact ⟨rfl, rfl⟩
  · split <;> exact ⟨rfl, rfl⟩
theorem foldL_ba : ∀ (l : List Rc) (D : DS), (foldL D l).ba = D.ba ∧ (foldL D l).sn = D.sn
  | [], D => ⟨rfl, rfl⟩
  | r :: l, D => by
    have h := foldL_ba l (foldR D r)
    have h' := foldR_ba D r
    exact ⟨h.1.trans h'.1, h.2.trans h'.2⟩
theorem newS_rise (d : DS) (k : Nat) : Rise (newS d k).es := foldL_rise _ List.Pairwise.nil
theorem newS_len (d : DS) (k : Nat) : (newS d k).es.length ≤ k := by
  have h := foldL_len (((d.es.take k).filter fun e => decide (d.ba < e.a)).map recOf) ⟨d.pr, d.ba, d.sn, []⟩
  have h2 := List.length_filter_le (fun e : Ent => decide (d.ba < e.a)) (d.es.take k)
  have h3 : (d.es.take k).length ≤ k := by rw [List.length_take]; omega
  simp only [List.length_map, List.length_nil] at h
  unfold newS
  omega
theorem newS_whole {d : DS} {b : Nat} {w : World} {F : Nat → Prop} : dP 60 b ⟨d.pr, (newS d d.es.length).ba, (newS d d.es.length).sn, (newS d d.es.length).es⟩ w F → dP 60 b (newD d) w F := by
  have h := foldL_ba (((d.es.take d.es.length).filter fun e => decide (d.ba < e.a)).map recOf) ⟨d.pr, d.ba, d.sn, []⟩
  unfold newD
  rw [show (newS d d.es.length).ba = d.ba from h.1, show (newS d d.es.length).sn = d.sn from h.2]
  exact id
set_option maxHeartbeats 12800000 in
theorem new10 (w : World) (d : DS) (A : Option Addr) (c : Nat) (h : U.Src w A 7 d.es.length (ents d.es)) (hL : d.es.length ≤ 300000) :
    Calls Try.prog 10 #[dval d A c] w (fun e w' => ∃ a, e = .returned (.pointer (some ⟨a, 0, none⟩)) ∧ Holds w.heap.size w w' (star (dP 60 a (newD d)) none_)) := by
  have hu37 := Try.underlying37
  have hu60 := Try.underlying60
  have hu24 := Try.underlying24
  have hu62 := Try.underlying62
  have HS := Lib.hid h
  have H0 := Lib.hid (Holds.start w)
  have SN := Lib.hid none_stable
  have SB := Lib.hid blkP_stable
  have SD := Lib.hid (dP_stable 60)
  have h1 := Holds.newBlk H0.out SN.out 24 #[.int .i64 d.pr, .int .i64 d.ba, .string d.sn, .slice A d.es.length c]
  have h2 : Holds w.heap.size w ((w.alloc (.cells #[.int .i64 d.pr, .int .i64 d.ba, .string d.sn, .slice A d.es.length c] 24)).alloc (.cells #[.int .i64 d.pr, .int .i64 d.ba, .string d.sn, .slice none 0 0] 60)) (star (dP 60 (w.heap.size + 1) ⟨d.pr, d.ba, d.sn, []⟩) (star (blkP w.heap.size 24 #[.int .i64 d.pr, .int .i64 d.ba, .string d.sn, .slice A d.es.length c]) none_)) :=
    h1.more ((SB.out _ _ _).star SN.out) (F := fun k => k = w.heap.size + 1) ⟨.slice none 0 0, (by
      have := Blk.fresh (w.alloc (.cells #[.int .i64 d.pr, .int .i64 d.ba, .string d.sn, .slice A d.es.length c] 24)) 60 #[.int .i64 d.pr, .int .i64 d.ba, .string d.sn, .slice none 0 0]
      rw [size_alloc] at this
      exact this), Row.nil _ 37 7, fun k => by simp [Value.ownBlock]⟩ ((Keep.same _ _).alloc _) (fun k hk => by rw [size_alloc]; omega)
  have H2 := Lib.hid h2
  have BX := blk_at h1
  have x0 := BX.cell 0
  have x1 := BX.cell 1
  have x2 := BX.cell 2
  have BX2 := blk_at h2.second
  have x3 := BX2.cell 3
  clear h h1 h2 BX BX2
  go_enter Try.func10, Try.ntmps10
  go_wp2_with fail
  obtain ⟨a, ha⟩ : ∃ a, w.heap.size + 1 = a := ⟨_, rfl⟩
  have HA := Lib.hid ha
  rw [ha] at H2
  rw [ha]
  clear ha x0 x1 x2 x3
  go_loopw [18] (fun v wr => ∃ k : Nat, k ≤ d.es.length ∧ v = .int .i64 k ∧ Holds w.heap.size w wr (star (dP 60 a (newS d k)) (star (blkP w.heap.size 24 #[.int .i64 d.pr, .int .i64 d.ba, .string d.sn, .slice A d.es.length c]) none_))) (fun v _ => d.es.length - (intOf v).toNat)
  case atStart => exact ⟨0, by omega, by simp, H2.out⟩
  case round =>
    obtain ⟨k, hk, rfl, hh⟩ := hrel
    have H := Lib.hid hh
    have ST := Lib.hid ((SD.out a (newS d k)).star ((SB.out w.heap.size 24 #[.int .i64 d.pr, .int .i64 d.ba, .string d.sn, .slice A d.es.length c]).star SN.out))
    have STB := Lib.hid ((SB.out w.heap.size 24 #[.int .i64 d.pr, .int .i64 d.ba, .string d.sn, .slice A d.es.length c]).star SN.out)
    have BX := blk_at hh.second
    clear hh
    by_cases hlt : k < d.es.length
    · obtain ⟨ad, e, rfl, hx, he⟩ := ent_at HS.out hlt
      obtain ⟨c0, c1, c2, c3, c4, c5, c6⟩ := he.keep (Keep.of_below H.out.below Nothing) (fun h => h)
      have Z := Blk.fresh wr 37 e.cs
      unfold Ent.cs at Z
      have z0 := Z.cell 0
      have z1 := Z.cell 1
      have z2 := Z.cell 2
      have z3 := Z.cell 3
      have z4 := Z.cell 4
      have z5 := Z.cell 5
      have z6 := Z.cell 6
      have xa := (BX.alloc (.cells #[.int .i64 e.a, .int .i64 e.b, .int .i64 e.c.k, .int .i64 e.c.s, .int .i64 e.c.q, .string e.c.nm, .int .i64 e.c.n] 37)).cell 1
      have RI := Lib.hid (newS_rise d k)
      have hfl : (newS d k).es.length ≤ 500000 := by have := newS_len d k; omega
      clear he Z BX
      by_cases hb : d.ba < e.a
      · have NX := Lib.hid (newS_in hx hb)
        have hb' : decide (d.ba < e.a) = true := decide_eq_true hb
        clear hx hb
        obtain ⟨F9, v9, hb9, hr9, hF9⟩ := H.out.left
        obtain ⟨A9, c9, rfl, _, _⟩ := hr9.form
        have LB := Lib.hid hb9.lt
        have hbe := hb9.alloc (.cells #[.int .i64 e.a, .int .i64 e.b, .int .i64 e.c.k, .int .i64 e.c.s, .int .i64 e.c.q, .string e.c.nm, .int .i64 e.c.n] 37)
        have hba := hbe.alloc (.cells #[.int .i64 2, .int .i64 0, .int .i64 e.a, .int .i64 e.b, .int .i64 e.c.k, .int .i64 e.c.s, .int .i64 e.c.q, .string e.c.nm, .int .i64 e.c.n] 62)
        have hra := Lib.hid (((hr9.alloc (.cells #[.int .i64 e.a, .int .i64 e.b, .int .i64 e.c.k, .int .i64 e.c.s, .int .i64 e.c.q, .string e.c.nm, .int .i64 e.c.n] 37)).alloc (.cells #[.int .i64 2, .int .i64 0, .int .i64 e.a, .int .i64 e.b, .int .i64 e.c.k, .int .i64 e.c.s, .int .i64 e.c.q, .string e.c.nm, .int .i64 e.c.n] 62)).keep ((Keep.same Nothing _).drew) (fun _ _ h => h))
        have WA := Lib.hid ((H.out.alloc ST.out (.cells #[.int .i64 e.a, .int .i64 e.b, .int .i64 e.c.k, .int .i64 e.c.s, .int .i64 e.c.q, .string e.c.nm, .int .i64 e.c.n] 37)).alloc ST.out (.cells #[.int .i64 2, .int .i64 0, .int .i64 e.a, .int .i64 e.b, .int .i64 e.c.k, .int .i64 e.c.s, .int .i64 e.c.q, .string e.c.nm, .int .i64 e.c.n] 62) |>.kept ST.out ((Keep.same Nothing _).drew))
        have SRC := Lib.hid (show U.Src ((wr.alloc (.cells #[.int .i64 e.a, .int .i64 e.b, .int .i64 e.c.k, .int .i64 e.c.s, .int .i64 e.c.q, .string e.c.nm, .int .i64 e.c.n] 37)).alloc (.cells #[.int .i64 2, .int .i64 0, .int .i64 e.a, .int .i64 e.b, .int .i64 e.c.k, .int .i64 e.c.s, .int .i64 e.c.q, .string e.c.nm, .int .i64 e.c.n] 62)).drew (some ⟨(wr.alloc (.cells #[.int .i64 e.a, .int .i64 e.b, .int .i64 e.c.k, .int .i64 e.c.s, .int .i64 e.c.q, .string e.c.nm, .int .i64 e.c.n] 37)).heap.size, 0, none⟩) 9 1 (recs [⟨2, 0, e⟩]) from U.Src.fresh (wr.alloc (.cells #[.int .i64 e.a, .int .i64 e.b, .int .i64 e.c.k, .int .i64 e.c.s, .int .i64 e.c.q, .string e.c.nm, .int .i64 e.c.n] 37)) #[.int .i64 2, .int .i64 0, .int .i64 e.a, .int .i64 e.b, .int .i64 e.c.k, .int .i64 e.c.s, .int .i64 e.c.q, .string e.c.nm, .int .i64 e.c.n] 62 9 1 rfl)
        rw [size_alloc] at SRC
        have HI := Lib.hid (fold26 _ (newS d k) A9 c9 hra.out.src hfl RI.out (some ⟨wr.heap.size + 1, 0, none⟩) 1 1 [⟨2, 0, e⟩] SRC.out (by omega))
        have d0 := hbe.cell 0
        have d1 := hbe.cell 1
        have d2 := hbe.cell 2
        have d3 := hbe.cell 3
        have a0 := hba.cell 0
        have a1 := hba.cell 1
        have a2 := hba.cell 2
        have a3 := hba.cell 3
        have hH0 : (fun w' => w'.cell? ⟨wr.heap.size, 0, none⟩ = some (.int .i64 e.a) ∧ w'.cell? ⟨wr.heap.size, 1, none⟩ = some (.int .i64 e.b) ∧ w'.cell? ⟨wr.heap.size, 2, none⟩ = some (.int .i64 e.c.k) ∧ w'.cell? ⟨wr.heap.size, 3, none⟩ = some (.int .i64 e.c.s) ∧ w'.cell? ⟨wr.heap.size, 4, none⟩ = some (.int .i64 e.c.q) ∧ w'.cell? ⟨wr.heap.size, 5, none⟩ = some (.string e.c.nm) ∧ w'.cell? ⟨wr.heap.size, 6, none⟩ = some (.int .i64 e.c.n)) (wr.alloc (.cells #[.int .i64 e.a, .int .i64 e.b, .int .i64 e.c.k, .int .i64 e.c.s, .int .i64 e.c.q, .string e.c.nm, .int .i64 e.c.n] 37)) := ⟨z0, z1, z2, z3, z4, z5, z6⟩
        have NB := Lib.hid (show wr.heap.size ≠ a from fun h => by have := LB.out; omega)
        have SF := Lib.hid (show ∀ (X : World) (i : Nat) (u : Value), (fun w' => w'.cell? ⟨wr.heap.size, 0, none⟩ = some (.int .i64 e.a) ∧ w'.cell? ⟨wr.heap.size, 1, none⟩ = some (.int .i64 e.b) ∧ w'.cell? ⟨wr.heap.size, 2, none⟩ = some (.int .i64 e.c.k) ∧ w'.cell? ⟨wr.heap.size, 3, none⟩ = some (.int .i64 e.c.s) ∧ w'.cell? ⟨wr.heap.size, 4, none⟩ = some (.int .i64 e.c.q) ∧ w'.cell? ⟨wr.heap.size, 5, none⟩ = some (.string e.c.nm) ∧ w'.cell? ⟨wr.heap.size, 6, none⟩ = some (.int .i64 e.c.n)) X → (fun w' => w'.cell? ⟨wr.heap.size, 0, none⟩ = some (.int .i64 e.a) ∧ w'.cell? ⟨wr.heap.size, 1, none⟩ = some (.int .i64 e.b) ∧ w'.cell? ⟨wr.heap.size, 2, none⟩ = some (.int .i64 e.c.k) ∧ w'.cell? ⟨wr.heap.size, 3, none⟩ = some (.int .i64 e.c.s) ∧ w'.cell? ⟨wr.heap.size, 4, none⟩ = some (.int .i64 e.c.q) ∧ w'.cell? ⟨wr.heap.size, 5, none⟩ = some (.string e.c.nm) ∧ w'.cell? ⟨wr.heap.size, 6, none⟩ = some (.int .i64 e.c.n)) (X.setCell ⟨a, i, none⟩ u) from fun X i u h => ⟨(cell_far X a i u _ _ NB.out).trans h.1, (cell_far X a i u _ _ NB.out).trans h.2.1, (cell_far X a i u _ _ NB.out).trans h.2.2.1, (cell_far X a i u _ _ NB.out).trans h.2.2.2.1, (cell_far X a i u _ _ NB.out).trans h.2.2.2.2.1, (cell_far X a i u _ _ NB.out).trans h.2.2.2.2.2.1, (cell_far X a i u _ _ NB.out).trans h.2.2.2.2.2.2⟩)
        have SA := Lib.hid (show ∀ (X Y : World), Keep Nothing X Y → (fun w' => w'.cell? ⟨wr.heap.size, 0, none⟩ = some (.int .i64 e.a) ∧ w'.cell? ⟨wr.heap.size, 1, none⟩ = some (.int .i64 e.b) ∧ w'.cell? ⟨wr.heap.size, 2, none⟩ = some (.int .i64 e.c.k) ∧ w'.cell? ⟨wr.heap.size, 3, none⟩ = some (.int .i64 e.c.s) ∧ w'.cell? ⟨wr.heap.size, 4, none⟩ = some (.int .i64 e.c.q) ∧ w'.cell? ⟨wr.heap.size, 5, none⟩ = some (.string e.c.nm) ∧ w'.cell? ⟨wr.heap.size, 6, none⟩ = some (.int .i64 e.c.n)) X → (fun w' => w'.cell? ⟨wr.heap.size, 0, none⟩ = some (.int .i64 e.a) ∧ w'.cell? ⟨wr.heap.size, 1, none⟩ = some (.int .i64 e.b) ∧ w'.cell? ⟨wr.heap.size, 2, none⟩ = some (.int .i64 e.c.k) ∧ w'.cell? ⟨wr.heap.size, 3, none⟩ = some (.int .i64 e.c.s) ∧ w'.cell? ⟨wr.heap.size, 4, none⟩ = some (.int .i64 e.c.q) ∧ w'.cell? ⟨wr.heap.size, 5, none⟩ = some (.string e.c.nm) ∧ w'.cell? ⟨wr.heap.size, 6, none⟩ = some (.int .i64 e.c.n)) Y from fun X Y k h => ⟨k.cell h.1 (fun h => h), k.cell h.2.1 (fun h => h), k.cell h.2.2.1 (fun h => h), k.cell h.2.2.2.1 (fun h => h), k.cell h.2.2.2.2.1 (fun h => h), k.cell h.2.2.2.2.2.1 (fun h => h), k.cell h.2.2.2.2.2.2 (fun h => h)⟩)
        dsimp only at hH0
        clear hb9 hr9 hF9 hbe hba
        go_wp2_with fail
        clear c0 c1 c2 c3 c4 c5 c6 xa z0 z1 z2 z3 z4 z5 z6
        refine wp_region_noPanic ?_
        refine wp_region_held_drew (S := (fun w' => w'.cell? ⟨wr.heap.size, 0, none⟩ = some (.int .i64 e.a) ∧ w'.cell? ⟨wr.heap.size, 1, none⟩ = some (.int .i64 e.b) ∧ w'.cell? ⟨wr.heap.size, 2, none⟩ = some (.int .i64 e.c.k) ∧ w'.cell? ⟨wr.heap.size, 3, none⟩ = some (.int .i64 e.c.s) ∧ w'.cell? ⟨wr.heap.size, 4, none⟩ = some (.int .i64 e.c.q) ∧ w'.cell? ⟨wr.heap.size, 5, none⟩ = some (.string e.c.nm) ∧ w'.cell? ⟨wr.heap.size, 6, none⟩ = some (.int .i64 e.c.n))) (by kernel_rfl) hH0 (fun hHeld => ?_)
        refine wpAnyH_take (i := 0) (oi := _) (v := ?_) (by simp only [List.getElem?_toArray, List.getElem?_cons_succ, List.getElem?_cons_zero]; rfl) (by kernel_rfl) (by kernel_rfl) (by kernel_rfl) (fun _ _ _ h => h) (Or.inl ⟨by rfl, ?_⟩) (by assumption) ?_
        rotate_left
        · (intro w hSw; (try dsimp only at hSw); go_simp; (try with_reducible rfl))
        (try simp only [Act.put, List.setIfInBounds_toArray, List.set_cons_zero, List.set_cons_succ])
        refine wpAnyH_take (i := 1) (oi := _) (v := ?_) (by simp only [List.getElem?_toArray, List.getElem?_cons_succ, List.getElem?_cons_zero]; rfl) (by kernel_rfl) (by kernel_rfl) (by kernel_rfl) (fun _ _ _ h => h) (Or.inl ⟨by rfl, ?_⟩) (by assumption) ?_
        rotate_left
        · (intro w hSw; (try dsimp only at hSw); go_simp; (try with_reducible rfl))
        (try simp only [Act.put, List.setIfInBounds_toArray, List.set_cons_zero, List.set_cons_succ])
        refine wpAnyH_take (i := 2) (oi := _) (v := ?_) (by simp only [List.getElem?_toArray, List.getElem?_cons_succ, List.getElem?_cons_zero]; rfl) (by kernel_rfl) (by kernel_rfl) (by kernel_rfl) (fun _ _ _ h => h) (Or.inl ⟨by rfl, ?_⟩) (by assumption) ?_
        rotate_left
        · (intro w hSw; (try dsimp only at hSw); go_simp; (try with_reducible rfl))
        (try simp only [Act.put, List.setIfInBounds_toArray, List.set_cons_zero, List.set_cons_succ])
        refine wpAnyH_take (i := 3) (oi := _) (v := ?_) (by simp only [List.getElem?_toArray, List.getElem?_cons_succ, List.getElem?_cons_zero]; rfl) (by kernel_rfl) (by kernel_rfl) (by kernel_rfl) (fun _ _ _ h => h) (Or.inl ⟨by rfl, ?_⟩) (by assumption) ?_
        rotate_left
        · (intro w hSw; (try dsimp only at hSw); go_simp; (try with_reducible rfl))
        (try simp only [Act.put, List.setIfInBounds_toArray, List.set_cons_zero, List.set_cons_succ])
        refine wpAnyH_take (i := 5) (oi := _) (v := ?_) (by simp only [List.getElem?_toArray, List.getElem?_cons_succ, List.getElem?_cons_zero]; rfl) (by kernel_rfl) (by kernel_rfl) (by kernel_rfl) (fun _ _ _ h => h) (Or.inl ⟨by rfl, ?_⟩) (by assumption) ?_
        rotate_left
        · (intro w hSw; (try dsimp only at hSw); go_simp; (try with_reducible rfl))
        (try simp only [Act.put, List.setIfInBounds_toArray, List.set_cons_zero, List.set_cons_succ])
        refine wpAnyH_take (i := 6) (oi := _) (v := ?_) (by simp only [List.getElem?_toArray, List.getElem?_cons_succ, List.getElem?_cons_zero]; rfl) (by kernel_rfl) (by kernel_rfl) (by kernel_rfl) (fun _ _ _ h => h) (Or.inl ⟨by rfl, ?_⟩) (by assumption) ?_
        rotate_left
        · (intro w hSw; (try dsimp only at hSw); go_simp; (try with_reducible rfl))
        (try simp only [Act.put, List.setIfInBounds_toArray, List.set_cons_zero, List.set_cons_succ])
        refine wpAnyH_ready (rs := [4, 7]) (by kernel_rfl) (by simp) ?_
        refine AllReadyH.cons (o := _) (by simp only [List.getElem?_toArray, List.getElem?_cons_succ, List.getElem?_cons_zero]; rfl) (fun K hK => ?_) (AllReadyH.cons (o := _) (by simp only [List.getElem?_toArray, List.getElem?_cons_succ, List.getElem?_cons_zero]; rfl) (fun K hK => ?_) AllReadyH.nil)
        · go_simp
          refine hK.out _ _ (by first | exact hHeld) (fun hHeld => ?_)
          clear hK K
          (try simp only [Act.put, List.setIfInBounds_toArray, List.set_cons_zero, List.set_cons_succ])
          refine wpAnyH_ready (rs := [7]) (by kernel_rfl) (by simp) ?_
          refine AllReadyH.cons (o := _) (by simp only [List.getElem?_toArray, List.getElem?_cons_succ, List.getElem?_cons_zero]; rfl) (fun K hK => ?_) AllReadyH.nil
          go_simp
          refine hK.out _ _ (SA.out _ _ ((Keep.same Nothing _).alloc _) (by first | exact hHeld)) (fun hHeld => ?_)
          clear hK K
          (try simp only [Act.put, List.setIfInBounds_toArray, List.set_cons_zero, List.set_cons_succ])
          refine wpAnyH_ready (rs := [8]) (by kernel_rfl) (by simp) ?_
          refine AllReadyH.cons (o := _) (by simp only [List.getElem?_toArray, List.getElem?_cons_succ, List.getElem?_cons_zero]; rfl) (fun K hK => ?_) AllReadyH.nil
          go_simp
          refine HI.out.mono ?_
          rintro e2 w8 ⟨A8, c8, rfl, hr8, hk8, ho8⟩
          have TK := Lib.hid (d_take (D' := foldL (newS d k) [⟨2, 0, e⟩]) WA.out STB.out hk8 hr8 ho8)
          obtain ⟨v8, hb8⟩ := TK.out.1
          obtain ⟨r0, g0, r1, g1, r2, g2, r3, g3, q0, q1, q2, q3, p0, p1, p2⟩ := store4 hb8 (.int .i64 (foldL (newS d k) [⟨2, 0, e⟩]).pr) (.int .i64 (foldL (newS d k) [⟨2, 0, e⟩]).ba) (.string (foldL (newS d k) [⟨2, 0, e⟩]).sn) (.slice A8 (foldL (newS d k) [⟨2, 0, e⟩]).es.length c8)
          have hH8 := SA.out _ _ hk8 (SA.out _ _ (((Keep.same Nothing _).alloc (.cells #[.int .i64 2, .int .i64 0, .int .i64 e.a, .int .i64 e.b, .int .i64 e.c.k, .int .i64 e.c.s, .int .i64 e.c.q, .string e.c.nm, .int .i64 e.c.n] 62)).drew) hH0)
          have HH8 := Lib.hid hH8
          (try dsimp only at hH8)
          clear hr8 hk8 ho8 hb8
          (try go_wp2_with fail)
          refine hK.out _ _ (hH8) (fun hHeld => ?_)
          clear hK K
          (try simp only [Act.put, List.setIfInBounds_toArray, List.set_cons_zero, List.set_cons_succ])
          refine wpAnyH_take (i := 9) (oi := _) (v := ?_) (by simp only [List.getElem?_toArray, List.getElem?_cons_succ, List.getElem?_cons_zero]; rfl) (by kernel_rfl) (by kernel_rfl) (by kernel_rfl) (fun _ _ _ h => h) (Or.inl ⟨by rfl, ?_⟩) (by assumption) ?_
          rotate_left
          · (intro w hSw; (try dsimp only at hSw); go_simp; (try with_reducible rfl))
          (try simp only [Act.put, List.setIfInBounds_toArray, List.set_cons_zero, List.set_cons_succ])
          refine wpAnyH_take (i := 10) (oi := _) (v := ?_) (by simp only [List.getElem?_toArray, List.getElem?_cons_succ, List.getElem?_cons_zero]; rfl) (by kernel_rfl) (by kernel_rfl) (by kernel_rfl) (fun _ _ _ h => h) (Or.inl ⟨by rfl, ?_⟩) (by assumption) ?_
          rotate_left
          · (intro w hSw; (try dsimp only at hSw); go_simp; (try with_reducible rfl))
          (try simp only [Act.put, List.setIfInBounds_toArray, List.set_cons_zero, List.set_cons_succ])
          refine wpAnyH_ready (rs := [11]) (by kernel_rfl) (by simp) ?_
          refine AllReadyH.cons (o := _) (by simp only [List.getElem?_toArray, List.getElem?_cons_succ, List.getElem?_cons_zero]; rfl) (fun K hK => ?_) AllReadyH.nil
          go_simp
          refine hK.out _ _ (SF.out _ 3 _ (SF.out _ 2 _ (SF.out _ 1 _ (SF.out _ 0 _ HH8.out)))) (fun hHeld => ?_)
          clear hK K
          (try simp only [Act.put, List.setIfInBounds_toArray, List.set_cons_zero, List.set_cons_succ])
          refine wpAnyH_done (by kernel_rfl) ?_ _
          refine NoPanic.normal ?_
          have H10 := Lib.hid TK.out.2
          clear r0 g0 r1 g1 r2 g2 r3 g3 q0 q1 q2 q3 p0 p1 p2 a0 a1 a2 a3 d0 d1 d2 d3 hH0 hH8
          go_wp2_with fail
          go_roundw
          case rel => exact ⟨k + 1, by omega, by go_num, by rw [NX.out]; exact H10.out⟩
          case measure => simp [intOf]; omega
        · go_simp
          refine hK.out _ _ (SA.out _ _ ((Keep.same Nothing _).alloc _) (by first | exact hHeld)) (fun hHeld => ?_)
          clear hK K
          (try simp only [Act.put, List.setIfInBounds_toArray, List.set_cons_zero, List.set_cons_succ])
          refine wpAnyH_ready (rs := [4]) (by kernel_rfl) (by simp) ?_
          refine AllReadyH.cons (o := _) (by simp only [List.getElem?_toArray, List.getElem?_cons_succ, List.getElem?_cons_zero]; rfl) (fun K hK => ?_) AllReadyH.nil
          go_simp
          refine hK.out _ _ (by first | exact hHeld) (fun hHeld => ?_)
          clear hK K
          (try simp only [Act.put, List.setIfInBounds_toArray, List.set_cons_zero, List.set_cons_succ])
          refine wpAnyH_ready (rs := [8]) (by kernel_rfl) (by simp) ?_
          refine AllReadyH.cons (o := _) (by simp only [List.getElem?_toArray, List.getElem?_cons_succ, List.getElem?_cons_zero]; rfl) (fun K hK => ?_) AllReadyH.nil
          go_simp
          refine HI.out.mono ?_
          rintro e2 w8 ⟨A8, c8, rfl, hr8, hk8, ho8⟩
          have TK := Lib.hid (d_take (D' := foldL (newS d k) [⟨2, 0, e⟩]) WA.out STB.out hk8 hr8 ho8)
          obtain ⟨v8, hb8⟩ := TK.out.1
          obtain ⟨r0, g0, r1, g1, r2, g2, r3, g3, q0, q1, q2, q3, p0, p1, p2⟩ := store4 hb8 (.int .i64 (foldL (newS d k) [⟨2, 0, e⟩]).pr) (.int .i64 (foldL (newS d k) [⟨2, 0, e⟩]).ba) (.string (foldL (newS d k) [⟨2, 0, e⟩]).sn) (.slice A8 (foldL (newS d k) [⟨2, 0, e⟩]).es.length c8)
          have hH8 := SA.out _ _ hk8 (SA.out _ _ (((Keep.same Nothing _).alloc (.cells #[.int .i64 2, .int .i64 0, .int .i64 e.a, .int .i64 e.b, .int .i64 e.c.k, .int .i64 e.c.s, .int .i64 e.c.q, .string e.c.nm, .int .i64 e.c.n] 62)).drew) hH0)
          have HH8 := Lib.hid hH8
          (try dsimp only at hH8)
          clear hr8 hk8 ho8 hb8
          (try go_wp2_with fail)
          refine hK.out _ _ (hH8) (fun hHeld => ?_)
          clear hK K
          (try simp only [Act.put, List.setIfInBounds_toArray, List.set_cons_zero, List.set_cons_succ])
          refine wpAnyH_take (i := 9) (oi := _) (v := ?_) (by simp only [List.getElem?_toArray, List.getElem?_cons_succ, List.getElem?_cons_zero]; rfl) (by kernel_rfl) (by kernel_rfl) (by kernel_rfl) (fun _ _ _ h => h) (Or.inl ⟨by rfl, ?_⟩) (by assumption) ?_
          rotate_left
          · (intro w hSw; (try dsimp only at hSw); go_simp; (try with_reducible rfl))
          (try simp only [Act.put, List.setIfInBounds_toArray, List.set_cons_zero, List.set_cons_succ])
          refine wpAnyH_take (i := 10) (oi := _) (v := ?_) (by simp only [List.getElem?_toArray, List.getElem?_cons_succ, List.getElem?_cons_zero]; rfl) (by kernel_rfl) (by kernel_rfl) (by kernel_rfl) (fun _ _ _ h => h) (Or.inl ⟨by rfl, ?_⟩) (by assumption) ?_
          rotate_left
          · (intro w hSw; (try dsimp only at hSw); go_simp; (try with_reducible rfl))
          (try simp only [Act.put, List.setIfInBounds_toArray, List.set_cons_zero, List.set_cons_succ])
          refine wpAnyH_ready (rs := [11]) (by kernel_rfl) (by simp) ?_
          refine AllReadyH.cons (o := _) (by simp only [List.getElem?_toArray, List.getElem?_cons_succ, List.getElem?_cons_zero]; rfl) (fun K hK => ?_) AllReadyH.nil
          go_simp
          refine hK.out _ _ (SF.out _ 3 _ (SF.out _ 2 _ (SF.out _ 1 _ (SF.out _ 0 _ HH8.out)))) (fun hHeld => ?_)
          clear hK K
          (try simp only [Act.put, List.setIfInBounds_toArray, List.set_cons_zero, List.set_cons_succ])
          refine wpAnyH_done (by kernel_rfl) ?_ _
          refine NoPanic.normal ?_
          have H10 := Lib.hid TK.out.2
          clear r0 g0 r1 g1 r2 g2 r3 g3 q0 q1 q2 q3 p0 p1 p2 a0 a1 a2 a3 d0 d1 d2 d3 hH0 hH8
          go_wp2_with fail
          go_roundw
          case rel => exact ⟨k + 1, by omega, by go_num, by rw [NX.out]; exact H10.out⟩
          case measure => simp [intOf]; omega
      · have NX := Lib.hid (newS_out hx hb)
        have hb' : decide (d.ba < e.a) = false := decide_eq_false hb
        clear hx hb
        go_wp2_with fail
        go_roundw
        case rel => exact ⟨k + 1, by omega, by go_num, by rw [NX.out]; exact H.out.alloc ST.out _⟩
        case measure => simp [intOf]; omega
    · obtain rfl : k = d.es.length := by omega
      have x0 := BX.cell 0
      obtain ⟨A9, c9, y0, _, _, _, f0, _⟩ := d_cells H.out
      have f00 := f0 0
      have H9 := Lib.hid (Holds.imp (Q := star (dP 60 a (newD d)) (star (blkP w.heap.size 24 #[.int .i64 d.pr, .int .i64 d.ba, .string d.sn, .slice A d.es.length c]) none_)) (d_setpr H.out STB.out (by decide) d.pr) (fun F h => let ⟨F1, F2, h1, h2, h3, h4⟩ := h; ⟨F1, F2, newS_whole h1, h2, h3, h4⟩))
      clear f0 BX
      go_wp2_with fail
      go_ret
      exact ⟨a, rfl, (Holds.second H9.out).drop⟩
end Go.Proofs.Ytnbllckmeehhjaa.A
