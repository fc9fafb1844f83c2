/-
  The client: hold of a name that is not held. Printed by gen_e9.py.
-/
import Derived.Test.YthlfcinjmljbjaaE8
namespace Go.Proofs.Ythlfcinjmljbjaa.A
open Go.RowKit Go.Proofs.Ythlfcinjmljbjaa.U
set_option linter.unusedVariables false
set_option linter.unusedSimpArgs false
set_option maxRecDepth 100000

theorem cell_far (w : World) (a j : Nat) (u : Value) (g i : Nat) (h : g ≠ a) : (w.setCell ⟨a, j, none⟩ u).cell? ⟨g, i, none⟩ = w.cell? ⟨g, i, none⟩ := by
  have := Below.heap_setCell w ⟨a, j, none⟩ u g h
  unfold World.cell?
  rw [this]
set_option maxHeartbeats 3200000 in
theorem hold32new {B : Nat} {w0 w : World} {Q : SP} {b : Nat} {S : CS} (h : Holds B w0 w (star (cliP b S) Q)) (hQ : Stable Q) (hn : S.L.length ≤ 500000) (hr : Rise S.L) (x : Hd) (hl : lookH S.L x.nm = none) :
    Calls Try.prog 32 #[.pointer (some ⟨b, 0, none⟩), x.val] w (fun e w' => unit_ e ∧ Holds B w0 w' (star (cliP b (S.withL (holdL S.L x))) Q)) := by
  have hu := Try.underlying62
  have hu2 := Try.underlying46
  obtain ⟨p, A, c, h1⟩ := cli_open h
  have LB := Lib.hid ((blk_at h1).lt)
  have RL := Lib.hid ((show Holds B w0 _ (star (lrow S A c) (star (blkP b 62 (S.cs p A S.L.length c)) (star (opP p S.op) Q))) from h1.perm (by ac_rfl)).row.lt)
  have h1 := h1.alloc ((blkP_stable _ _ _).star ((opP_stable _ _).star ((rowP_stable _ _ _ _ _).star hQ))) (.cells x.cs 46)
  have B1 : Blk (w.alloc (.cells x.cs 46)) b 62 (S.cs p A S.L.length c) := blk_at h1
  have R1 : Row (w.alloc (.cells x.cs 46)) 46 3 (.slice A S.L.length c) S.L.length (hds S.L) := (show Holds B w0 _ (star (lrow S A c) (star (blkP b 62 (S.cs p A S.L.length c)) (star (opP p S.op) Q))) from h1.perm (by ac_rfl)).row
  have Z := Blk.fresh w 46 x.cs
  have HA := Lib.hid (at27 _ p A c B1 R1.src (by omega) hr x.nm)
  have HH := Lib.hid h1
  have HQ := Lib.hid hQ
  have RI := Lib.hid hr
  have R0 := Lib.hid R1
  have BB := Lib.hid B1
  have HN := Lib.hid hn
  have ZZ := Lib.hid Z
  have z0 := Z.cell 0
  clear h h1 B1 R1 hQ hr Z
  go_enter Try.func32, Try.ntmps32
  go_wp2_with fail
  refine HA.out.mono ?_
  rintro e w3 ⟨k, t, rfl, hk, h2, h3, h4⟩
  have G3 := Lib.hid (HH.out.kept ((blkP_stable _ _ _).star ((opP_stable _ _).star ((rowP_stable _ _ _ _ _).star HQ.out))) h4)
  have B3 := Lib.hid (BB.out.keep h4 (fun h => h))
  have RR := Lib.hid (R0.out.keep h4 (fun _ _ h => h))
  have R3 := RR
  have Z3 := Lib.hid (ZZ.out.keep h4 (fun h => h))
  have F := found_look RI.out h2 h3
  have H2 := Lib.hid h2
  have H3 := Lib.hid h3
  have KK := Lib.hid h4
  clear h4 h3 h2 HH z0
  rcases F with ⟨rfl, y1, hy, he, hl'⟩ | ⟨rfl, hl'⟩
  · rw [hl] at hl'; cases hl'
  · have E := Lib.hid (hold_put (x := x) RI.out H2.out (fun z hz => by
      rcases H3.out with ⟨h, _⟩ | ⟨_, h | ⟨y, hy, hp⟩⟩
      · cases h
      · subst h; rw [List.getElem?_eq_none (by omega)] at hz; cases hz
      · rw [hz] at hy; injection hy with e; subst e; exact hp))
    have EL := Lib.hid (show hds (S.L.take k ++ x :: S.L.drop k) = (hds S.L).take (k * 3) ++ x.cl ++ (hds S.L).drop (k * 3) by
      rw [hds_app, hds_cons, hds_drop, List.append_assoc]
      congr 1
      have : hds S.L = hds (S.L.take k) ++ hds (S.L.drop k) := by rw [← hds_app, List.take_append_drop]
      rw [this]
      exact (List.take_left' (by rw [hds_len, List.length_take]; omega)).symm)
    have GG := Lib.hid (show Holds B w0 w3 (star (lrow S A c) (star (blkP b 62 (S.cs p A S.L.length c)) (star (opP p S.op) Q))) from G3.out.perm (by ac_rfl))
    have SQ := Lib.hid ((blkP_stable b 62 (S.cs p A S.L.length c)).star ((opP_stable p S.op).star HQ.out))
    have b11 := B3.out.cell 11
    have y0 := Z3.out.cell 0
    have y1 := Z3.out.cell 1
    have y2 := Z3.out.cell 2
    clear hl hl' hn
    have SRC := Lib.hid (RR.out.keep (((Keep.same Nothing w3).alloc (.cells #[.string x.nm, .bool x.rd, .int .u64 x.tk] 46)).drew) (fun _ _ h => h))
    have VB := Lib.hid (((Blk.fresh w3 46 #[.string x.nm, .bool x.rd, .int .u64 x.tk]).keep ((Keep.same Nothing _).drew) (fun h => h) : Blk ((w3.alloc (.cells #[.string x.nm, .bool x.rd, .int .u64 x.tk] 46)).drew) w3.heap.size 46 #[.string x.nm, .bool x.rd, .int .u64 x.tk]))
    have HI := Lib.hid (ih_insert _ (.slice A S.L.length c) S.L.length (hds S.L) SRC.out k hk w3.heap.size #[.string x.nm, .bool x.rd, .int .u64 x.tk] VB.out rfl (fun e => by have := R3.out.lt _ e; omega) (hds_one S.L) (by simp [Value.oneCell']) (by have := HN.out; omega))
    have a11 := (((B3.out.alloc (.cells #[.string x.nm, .bool x.rd, .int .u64 x.tk] 46)).drew : Blk ((w3.alloc (.cells #[.string x.nm, .bool x.rd, .int .u64 x.tk] 46)).drew) b 62 _)).cell 11
    have hH0 : (fun w' => w'.cell? ⟨w.heap.size, 0, none⟩ = some (.string x.nm) ∧ w'.cell? ⟨w.heap.size, 1, none⟩ = some (.bool x.rd) ∧ w'.cell? ⟨w.heap.size, 2, none⟩ = some (.int .u64 x.tk)) w3 := ⟨y0, y1, y2⟩
    have NB := Lib.hid (show w.heap.size ≠ b from fun h => by have := LB.out; omega)
    have SF := Lib.hid (show ∀ (X : World) (i : Nat) (u : Value), (fun w' => w'.cell? ⟨w.heap.size, 0, none⟩ = some (.string x.nm) ∧ w'.cell? ⟨w.heap.size, 1, none⟩ = some (.bool x.rd) ∧ w'.cell? ⟨w.heap.size, 2, none⟩ = some (.int .u64 x.tk)) X → (fun w' => w'.cell? ⟨w.heap.size, 0, none⟩ = some (.string x.nm) ∧ w'.cell? ⟨w.heap.size, 1, none⟩ = some (.bool x.rd) ∧ w'.cell? ⟨w.heap.size, 2, none⟩ = some (.int .u64 x.tk)) (X.setCell ⟨b, i, none⟩ u) from fun X i u h => ⟨(cell_far X b i u _ _ NB.out).trans h.1, (cell_far X b i u _ _ NB.out).trans h.2.1, (cell_far X b i u _ _ NB.out).trans h.2.2⟩)
    have SA := Lib.hid (show ∀ (X Y : World), Keep Nothing X Y → (fun w' => w'.cell? ⟨w.heap.size, 0, none⟩ = some (.string x.nm) ∧ w'.cell? ⟨w.heap.size, 1, none⟩ = some (.bool x.rd) ∧ w'.cell? ⟨w.heap.size, 2, none⟩ = some (.int .u64 x.tk)) X → (fun w' => w'.cell? ⟨w.heap.size, 0, none⟩ = some (.string x.nm) ∧ w'.cell? ⟨w.heap.size, 1, none⟩ = some (.bool x.rd) ∧ w'.cell? ⟨w.heap.size, 2, none⟩ = some (.int .u64 x.tk)) Y from fun X Y k h => ⟨k.cell h.1 (fun h => h), k.cell h.2.1 (fun h => h), k.cell h.2.2 (fun h => h)⟩)
    dsimp only at hH0
    clear hk
    go_wp2_with fail
    refine wp_region_noPanic ?_
    refine wp_region_held_drew (S := (fun w' => w'.cell? ⟨w.heap.size, 0, none⟩ = some (.string x.nm) ∧ w'.cell? ⟨w.heap.size, 1, none⟩ = some (.bool x.rd) ∧ w'.cell? ⟨w.heap.size, 2, none⟩ = some (.int .u64 x.tk))) (by kernel_rfl) hH0 (fun hHeld => ?_)
    refine wpAnyH_take (i := 0) (oi := _) (v := ?_) (by simp only [List.getElem?_toArray, List.getElem?_cons_succ, List.getElem?_cons_zero]; rfl) (by kernel_rfl) (by kernel_rfl) (by kernel_rfl) (fun _ _ _ h => h) (Or.inl ⟨by rfl, ?_⟩) (by assumption) ?_
    rotate_left
    · (intro w hSw; (try dsimp only at hSw); go_simp; (try with_reducible rfl))
    (try simp only [Act.put, List.setIfInBounds_toArray, List.set_cons_zero, List.set_cons_succ])
    refine wpAnyH_take (i := 1) (oi := _) (v := ?_) (by simp only [List.getElem?_toArray, List.getElem?_cons_succ, List.getElem?_cons_zero]; rfl) (by kernel_rfl) (by kernel_rfl) (by kernel_rfl) (fun _ _ _ h => h) (Or.inl ⟨by rfl, ?_⟩) (by assumption) ?_
    rotate_left
    · (intro w hSw; (try dsimp only at hSw); go_simp; (try with_reducible rfl))
    (try simp only [Act.put, List.setIfInBounds_toArray, List.set_cons_zero, List.set_cons_succ])
    refine wpAnyH_take (i := 2) (oi := _) (v := ?_) (by simp only [List.getElem?_toArray, List.getElem?_cons_succ, List.getElem?_cons_zero]; rfl) (by kernel_rfl) (by kernel_rfl) (by kernel_rfl) (fun _ _ _ h => h) (Or.inl ⟨by rfl, ?_⟩) (by assumption) ?_
    rotate_left
    · (intro w hSw; (try dsimp only at hSw); go_simp; (try with_reducible rfl))
    (try simp only [Act.put, List.setIfInBounds_toArray, List.set_cons_zero, List.set_cons_succ])
    refine wpAnyH_take (i := 3) (oi := _) (v := ?_) (by simp only [List.getElem?_toArray, List.getElem?_cons_succ, List.getElem?_cons_zero]; rfl) (by kernel_rfl) (by kernel_rfl) (by kernel_rfl) (fun _ _ _ h => h) (Or.inl ⟨by rfl, ?_⟩) (by assumption) ?_
    rotate_left
    · (intro w hSw; (try dsimp only at hSw); go_simp; (try with_reducible rfl))
    (try simp only [Act.put, List.setIfInBounds_toArray, List.set_cons_zero, List.set_cons_succ])
    refine wpAnyH_take (i := 5) (oi := _) (v := ?_) (by simp only [List.getElem?_toArray, List.getElem?_cons_succ, List.getElem?_cons_zero]; rfl) (by kernel_rfl) (by kernel_rfl) (by kernel_rfl) (fun _ _ _ h => h) (Or.inl ⟨by rfl, ?_⟩) (by assumption) ?_
    rotate_left
    · (intro w hSw; (try dsimp only at hSw); go_simp; (try with_reducible rfl))
    (try simp only [Act.put, List.setIfInBounds_toArray, List.set_cons_zero, List.set_cons_succ])
    refine wpAnyH_take (i := 6) (oi := _) (v := ?_) (by simp only [List.getElem?_toArray, List.getElem?_cons_succ, List.getElem?_cons_zero]; rfl) (by kernel_rfl) (by kernel_rfl) (by kernel_rfl) (fun _ _ _ h => h) (Or.inl ⟨by rfl, ?_⟩) (by assumption) ?_
    rotate_left
    · (intro w hSw; (try dsimp only at hSw); go_simp; (try with_reducible rfl))
    (try simp only [Act.put, List.setIfInBounds_toArray, List.set_cons_zero, List.set_cons_succ])
    refine wpAnyH_ready (rs := [4, 7]) (by kernel_rfl) (by simp) ?_
    refine AllReadyH.cons (o := _) (by simp only [List.getElem?_toArray, List.getElem?_cons_succ, List.getElem?_cons_zero]; rfl) (fun K hK => ?_) (AllReadyH.cons (o := _) (by simp only [List.getElem?_toArray, List.getElem?_cons_succ, List.getElem?_cons_zero]; rfl) (fun K hK => ?_) AllReadyH.nil)
    · go_simp
      refine hK.out _ _ (by first | exact hHeld) (fun hHeld => ?_)
      clear hK K
      (try simp only [Act.put, List.setIfInBounds_toArray, List.set_cons_zero, List.set_cons_succ])
      refine wpAnyH_ready (rs := [7]) (by kernel_rfl) (by simp) ?_
      refine AllReadyH.cons (o := _) (by simp only [List.getElem?_toArray, List.getElem?_cons_succ, List.getElem?_cons_zero]; rfl) (fun K hK => ?_) AllReadyH.nil
      go_simp
      refine hK.out _ _ (SA.out _ _ ((Keep.same Nothing _).alloc _) (by first | exact hHeld)) (fun hHeld => ?_)
      clear hK K
      (try simp only [Act.put, List.setIfInBounds_toArray, List.set_cons_zero, List.set_cons_succ])
      refine wpAnyH_ready (rs := [8]) (by kernel_rfl) (by simp) ?_
      refine AllReadyH.cons (o := _) (by simp only [List.getElem?_toArray, List.getElem?_cons_succ, List.getElem?_cons_zero]; rfl) (fun K hK => ?_) AllReadyH.nil
      go_simp
      refine HI.out.mono ?_
      rintro e2 w8 ⟨v8, rfl, hr8, hg8, hl8⟩
      have GA := GG.out.kept ((rowP_stable _ _ _ _ _).star SQ.out) (((Keep.same Nothing w3).alloc (.cells #[.string x.nm, .bool x.rd, .int .u64 x.tk] 46)).drew)
      have G8 := Holds.grew' GA SQ.out hr8 hg8 hl8
      obtain ⟨A8, c8, rfl, _, _⟩ := hr8.form
      have G9 : Holds B w0 w8 (star (blkP b 62 (S.cs p A S.L.length c)) (star (opP p S.op) (star (rowP 46 3 (.slice A8 (S.L.length + 1) c8) (S.L.length + 1) ((hds S.L).take (k * 3) ++ x.cl ++ (hds S.L).drop (k * 3))) Q))) := G8.perm (by ac_rfl)
      have B8 := blk_at G9
      have e11 := B8.cell 11
      have f11 := B8.free 11
      have G10 := Lib.hid (G9.setBlk ((opP_stable p S.op).star ((rowP_stable _ _ _ _ _).star HQ.out)) 11 (.slice A8 (S.L.length + 1) c8))
      have Z8 := (((Z3.out.alloc (.cells #[.string x.nm, .bool x.rd, .int .u64 x.tk] 46)).keep ((Keep.same Nothing _).drew) (fun h => h) : Blk ((w3.alloc (.cells #[.string x.nm, .bool x.rd, .int .u64 x.tk] 46)).drew) w.heap.size 46 x.cs)).grown hg8 (fun e => by have := RL.out _ e; omega)
      have hH8 : (fun w' => w'.cell? ⟨w.heap.size, 0, none⟩ = some (.string x.nm) ∧ w'.cell? ⟨w.heap.size, 1, none⟩ = some (.bool x.rd) ∧ w'.cell? ⟨w.heap.size, 2, none⟩ = some (.int .u64 x.tk)) w8 := ⟨Z8.cell 0, Z8.cell 1, Z8.cell 2⟩
      have HH8 := Lib.hid hH8
      (try dsimp only at hH8)
      clear GA G8 G9 B8 Z8 hr8 hg8 hl8
      (try go_wp2_with fail)
      refine hK.out _ _ (hH8) (fun hHeld => ?_)
      clear hK K
      (try simp only [Act.put, List.setIfInBounds_toArray, List.set_cons_zero, List.set_cons_succ])
      refine wpAnyH_take (i := 9) (oi := _) (v := ?_) (by simp only [List.getElem?_toArray, List.getElem?_cons_succ, List.getElem?_cons_zero]; rfl) (by kernel_rfl) (by kernel_rfl) (by kernel_rfl) (fun _ _ _ h => h) (Or.inl ⟨by rfl, ?_⟩) (by assumption) ?_
      rotate_left
      · (intro w hSw; (try dsimp only at hSw); go_simp; (try with_reducible rfl))
      (try simp only [Act.put, List.setIfInBounds_toArray, List.set_cons_zero, List.set_cons_succ])
      refine wpAnyH_take (i := 10) (oi := _) (v := ?_) (by simp only [List.getElem?_toArray, List.getElem?_cons_succ, List.getElem?_cons_zero]; rfl) (by kernel_rfl) (by kernel_rfl) (by kernel_rfl) (fun _ _ _ h => h) (Or.inl ⟨by rfl, ?_⟩) (by assumption) ?_
      rotate_left
      · (intro w hSw; (try dsimp only at hSw); go_simp; (try with_reducible rfl))
      (try simp only [Act.put, List.setIfInBounds_toArray, List.set_cons_zero, List.set_cons_succ])
      refine wpAnyH_ready (rs := [11]) (by kernel_rfl) (by simp) ?_
      refine AllReadyH.cons (o := _) (by simp only [List.getElem?_toArray, List.getElem?_cons_succ, List.getElem?_cons_zero]; rfl) (fun K hK => ?_) AllReadyH.nil
      go_simp
      refine hK.out _ _ (SF.out _ 11 _ HH8.out) (fun hHeld => ?_)
      clear hK K
      (try simp only [Act.put, List.setIfInBounds_toArray, List.set_cons_zero, List.set_cons_succ])
      refine wpAnyH_done (by kernel_rfl) ?_ _
      refine NoPanic.normal ?_
      clear a11 y0 y1 y2 hH0 hH8
      go_wp2_with fail
      go_end0
      refine ⟨rfl, cli_close (p := p) (A := A8) (c := c8) ?_⟩
      have hlen : (S.withL (holdL S.L x)).L.length = S.L.length + 1 := by
        show (holdL S.L x).length = _
        rw [← E.out, List.length_append, List.length_cons, List.length_take, List.length_drop]
        omega
      have hcl : hds (S.withL (holdL S.L x)).L = (hds S.L).take (k * 3) ++ x.cl ++ (hds S.L).drop (k * 3) := by
        show hds (holdL S.L x) = _
        rw [← E.out, EL.out]
      show Holds B w0 _ (star (blkP b 62 (S.cs p A8 (S.withL (holdL S.L x)).L.length c8)) (star (opP p S.op) (star (rowP 46 3 (.slice A8 (S.withL (holdL S.L x)).L.length c8) (S.withL (holdL S.L x)).L.length (hds (S.withL (holdL S.L x)).L)) Q)))
      rw [hlen, hcl]
      exact G10.out
    · go_simp
      refine hK.out _ _ (SA.out _ _ ((Keep.same Nothing _).alloc _) (by first | exact hHeld)) (fun hHeld => ?_)
      clear hK K
      (try simp only [Act.put, List.setIfInBounds_toArray, List.set_cons_zero, List.set_cons_succ])
      refine wpAnyH_ready (rs := [4]) (by kernel_rfl) (by simp) ?_
      refine AllReadyH.cons (o := _) (by simp only [List.getElem?_toArray, List.getElem?_cons_succ, List.getElem?_cons_zero]; rfl) (fun K hK => ?_) AllReadyH.nil
      go_simp
      refine hK.out _ _ (by first | exact hHeld) (fun hHeld => ?_)
      clear hK K
      (try simp only [Act.put, List.setIfInBounds_toArray, List.set_cons_zero, List.set_cons_succ])
      refine wpAnyH_ready (rs := [8]) (by kernel_rfl) (by simp) ?_
      refine AllReadyH.cons (o := _) (by simp only [List.getElem?_toArray, List.getElem?_cons_succ, List.getElem?_cons_zero]; rfl) (fun K hK => ?_) AllReadyH.nil
      go_simp
      refine HI.out.mono ?_
      rintro e2 w8 ⟨v8, rfl, hr8, hg8, hl8⟩
      have GA := GG.out.kept ((rowP_stable _ _ _ _ _).star SQ.out) (((Keep.same Nothing w3).alloc (.cells #[.string x.nm, .bool x.rd, .int .u64 x.tk] 46)).drew)
      have G8 := Holds.grew' GA SQ.out hr8 hg8 hl8
      obtain ⟨A8, c8, rfl, _, _⟩ := hr8.form
      have G9 : Holds B w0 w8 (star (blkP b 62 (S.cs p A S.L.length c)) (star (opP p S.op) (star (rowP 46 3 (.slice A8 (S.L.length + 1) c8) (S.L.length + 1) ((hds S.L).take (k * 3) ++ x.cl ++ (hds S.L).drop (k * 3))) Q))) := G8.perm (by ac_rfl)
      have B8 := blk_at G9
      have e11 := B8.cell 11
      have f11 := B8.free 11
      have G10 := Lib.hid (G9.setBlk ((opP_stable p S.op).star ((rowP_stable _ _ _ _ _).star HQ.out)) 11 (.slice A8 (S.L.length + 1) c8))
      have Z8 := (((Z3.out.alloc (.cells #[.string x.nm, .bool x.rd, .int .u64 x.tk] 46)).keep ((Keep.same Nothing _).drew) (fun h => h) : Blk ((w3.alloc (.cells #[.string x.nm, .bool x.rd, .int .u64 x.tk] 46)).drew) w.heap.size 46 x.cs)).grown hg8 (fun e => by have := RL.out _ e; omega)
      have hH8 : (fun w' => w'.cell? ⟨w.heap.size, 0, none⟩ = some (.string x.nm) ∧ w'.cell? ⟨w.heap.size, 1, none⟩ = some (.bool x.rd) ∧ w'.cell? ⟨w.heap.size, 2, none⟩ = some (.int .u64 x.tk)) w8 := ⟨Z8.cell 0, Z8.cell 1, Z8.cell 2⟩
      have HH8 := Lib.hid hH8
      (try dsimp only at hH8)
      clear GA G8 G9 B8 Z8 hr8 hg8 hl8
      (try go_wp2_with fail)
      refine hK.out _ _ (hH8) (fun hHeld => ?_)
      clear hK K
      (try simp only [Act.put, List.setIfInBounds_toArray, List.set_cons_zero, List.set_cons_succ])
      refine wpAnyH_take (i := 9) (oi := _) (v := ?_) (by simp only [List.getElem?_toArray, List.getElem?_cons_succ, List.getElem?_cons_zero]; rfl) (by kernel_rfl) (by kernel_rfl) (by kernel_rfl) (fun _ _ _ h => h) (Or.inl ⟨by rfl, ?_⟩) (by assumption) ?_
      rotate_left
      · (intro w hSw; (try dsimp only at hSw); go_simp; (try with_reducible rfl))
      (try simp only [Act.put, List.setIfInBounds_toArray, List.set_cons_zero, List.set_cons_succ])
      refine wpAnyH_take (i := 10) (oi := _) (v := ?_) (by simp only [List.getElem?_toArray, List.getElem?_cons_succ, List.getElem?_cons_zero]; rfl) (by kernel_rfl) (by kernel_rfl) (by kernel_rfl) (fun _ _ _ h => h) (Or.inl ⟨by rfl, ?_⟩) (by assumption) ?_
      rotate_left
      · (intro w hSw; (try dsimp only at hSw); go_simp; (try with_reducible rfl))
      (try simp only [Act.put, List.setIfInBounds_toArray, List.set_cons_zero, List.set_cons_succ])
      refine wpAnyH_ready (rs := [11]) (by kernel_rfl) (by simp) ?_
      refine AllReadyH.cons (o := _) (by simp only [List.getElem?_toArray, List.getElem?_cons_succ, List.getElem?_cons_zero]; rfl) (fun K hK => ?_) AllReadyH.nil
      go_simp
      refine hK.out _ _ (SF.out _ 11 _ HH8.out) (fun hHeld => ?_)
      clear hK K
      (try simp only [Act.put, List.setIfInBounds_toArray, List.set_cons_zero, List.set_cons_succ])
      refine wpAnyH_done (by kernel_rfl) ?_ _
      refine NoPanic.normal ?_
      clear a11 y0 y1 y2 hH0 hH8
      go_wp2_with fail
      go_end0
      refine ⟨rfl, cli_close (p := p) (A := A8) (c := c8) ?_⟩
      have hlen : (S.withL (holdL S.L x)).L.length = S.L.length + 1 := by
        show (holdL S.L x).length = _
        rw [← E.out, List.length_append, List.length_cons, List.length_take, List.length_drop]
        omega
      have hcl : hds (S.withL (holdL S.L x)).L = (hds S.L).take (k * 3) ++ x.cl ++ (hds S.L).drop (k * 3) := by
        show hds (holdL S.L x) = _
        rw [← E.out, EL.out]
      show Holds B w0 _ (star (blkP b 62 (S.cs p A8 (S.withL (holdL S.L x)).L.length c8)) (star (opP p S.op) (star (rowP 46 3 (.slice A8 (S.withL (holdL S.L x)).L.length c8) (S.withL (holdL S.L x)).L.length (hds (S.withL (holdL S.L x)).L)) Q)))
      rw [hlen, hcl]
      exact G10.out
end Go.Proofs.Ythlfcinjmljbjaa.A
