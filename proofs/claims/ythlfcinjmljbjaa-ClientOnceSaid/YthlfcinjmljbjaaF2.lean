/-
  The client: told, at an opening; all of told. Printed by gen_f1.py.
-/
import Derived.Test.YthlfcinjmljbjaaF1
namespace Go.Proofs.Ythlfcinjmljbjaa.A
open Go.RowKit Go.Proofs.Ythlfcinjmljbjaa.U
set_option linter.unusedVariables false
set_option linter.unusedSimpArgs false
set_option maxRecDepth 100000
set_option maxHeartbeats 400000

section
variable {B : Nat} {w0 w : World} {Q : SP} {b : Nat} {S : CS} {o : Oc} {r : Rp}
theorem told_open (h : Holds B w0 w (star (cliP b (S.withOp (some o))) Q)) (hQ : Stable Q) (he : r.e = 0) (hk : o.cmd.k = 2) (hf : I64 o.first) :
    Calls Try.prog 24 #[.pointer (some ⟨b, 0, none⟩), r.val] w (ToldPost B w0 b ({ S with op := none, session := r.n, had := true, til := leaseV o.first }) Q) := by
  have hu := Try.underlying62
  have hu2 := Try.underlying66
  have hu3 := Try.underlying38
  have hu4 := Try.underlying31
  have hu5 := Try.underlying78
  have hu6 := Try.underlying46
  obtain ⟨ob, A, c, B1, O1, H2⟩ := told_start h hQ r
  have HH := Lib.hid H2
  have QQ := Lib.hid hQ
  have SR := Lib.hid (show Stable (star (blkP w.heap.size 38 r.cs) (star (blkP (w.heap.size + 1) 66 o.cs) Q)) from (blkP_stable _ _ _).star ((blkP_stable _ _ _).star hQ))
  have B2 := B1.alloc (.cells r.cs 38)
  have B3 := B2.alloc (.cells o.cs 66)
  have O2 := O1.alloc (.cells r.cs 38)
  have b7 := B2.cell 7
  have b77 := B3.cell 7
  have f7 := B3.free 7
  have o0 := O2.cell 0
  have o1 := O2.cell 1
  have o2 := O2.cell 2
  have o3 := O2.cell 3
  have o4 := O2.cell 4
  have o5 := O2.cell 5
  have o6 := O2.cell 6
  obtain ⟨R2, X2⟩ := told_cells H2
  have r0 := R2.cell 0
  have r1 := R2.cell 1
  have r2 := R2.cell 2
  have r3 := R2.cell 3
  have r4 := R2.cell 4
  have x0 := X2.cell 0
  have x1 := X2.cell 1
  have x2 := X2.cell 2
  have x3 := X2.cell 3
  have x4 := X2.cell 4
  have x5 := X2.cell 5
  have D1 : (r.e == 11) = false := by simp [he]
  have D2 : (r.e == 0) = true := by simp [he]
  have E2 : (o.cmd.k == 2) = true := by simp [hk]
  obtain ⟨p4, A4, c4, h4⟩ := cli_open HH.out
  have S4 : Stable (star (opP p4 (S.withOp none).op) (star (lrow (S.withOp none) A4 c4) (star (blkP w.heap.size 38 r.cs) (star (blkP (w.heap.size + 1) 66 o.cs) Q)))) := (opP_stable _ _).star ((rowP_stable _ _ _ _ _).star SR.out)
  have g1 := h4.setBlk S4 4 (.int .i64 r.n)
  have g2 := g1.setBlk S4 6 (.bool true)
  have g3 := g2.setBlk S4 8 (.int .i64 (leaseV o.first))
  have GE := Lib.hid (cli_close (S := { S with op := none, session := r.n, had := true, til := leaseV o.first }) (p := p4) (A := A4) (c := c4) g3)
  obtain ⟨v4, y4⟩ : ∃ v, _ = some v := ⟨_, (blk_at h4).cell 4⟩
  have z4 := (blk_at h4).free 4
  obtain ⟨v6, y6⟩ : ∃ v, _ = some v := ⟨_, (blk_at g1).cell 6⟩
  have z6 := (blk_at g1).free 6
  obtain ⟨v8, y8⟩ : ∃ v, _ = some v := ⟨_, (blk_at g2).cell 8⟩
  have z8 := (blk_at g2).free 8
  obtain ⟨R5, X5⟩ := told_cells GE.out
  have i0 := R5.cell 0
  have i1 := R5.cell 1
  have i2 := R5.cell 2
  have i3 := R5.cell 3
  have i4 := R5.cell 4
  have j0 := X5.cell 0
  have j1 := X5.cell 1
  have j2 := X5.cell 2
  have j3 := X5.cell 3
  have j4 := X5.cell 4
  have hH := And.intro r4 x5
  have X0 := Blk.fresh (w.alloc (.cells r.cs 38)) 66 o.cs
  rw [size_alloc] at X0
  have HB := Lib.hid (And.intro (((Blk.fresh w 38 r.cs).alloc (.cells o.cs 66)).cell 4) (X0.cell 5))
  have LB := B1.lt
  have SF := Lib.hid (show ∀ (X : World) (i : Nat) (u : Value), (X.cell? ⟨w.heap.size, 4, none⟩ = some (.int .i64 r.n) ∧ X.cell? ⟨w.heap.size + 1, 5, none⟩ = some (.int .i64 o.first)) → ((X.setCell ⟨b, i, none⟩ u).cell? ⟨w.heap.size, 4, none⟩ = some (.int .i64 r.n) ∧ (X.setCell ⟨b, i, none⟩ u).cell? ⟨w.heap.size + 1, 5, none⟩ = some (.int .i64 o.first)) from fun X i u h => ⟨(cell_far X b i u _ _ (by omega)).trans h.1, (cell_far X b i u _ _ (by omega)).trans h.2⟩)
  have SD := Lib.hid (show ∀ (X : World), (X.cell? ⟨w.heap.size, 4, none⟩ = some (.int .i64 r.n) ∧ X.cell? ⟨w.heap.size + 1, 5, none⟩ = some (.int .i64 o.first)) → (X.drew.cell? ⟨w.heap.size, 4, none⟩ = some (.int .i64 r.n) ∧ X.drew.cell? ⟨w.heap.size + 1, 5, none⟩ = some (.int .i64 o.first)) from fun X h => ⟨((Keep.same Nothing X).drew).cell h.1 (fun h => h), ((Keep.same Nothing X).drew).cell h.2 (fun h => h)⟩)
  have HF := Lib.hid hf
  clear h B1 O1 H2 B2 B3 O2 R2 X2 hQ he hk hf
  clear LB X0 h4 S4 g1 g2 g3 R5 X5
  go_enter Try.func24, Try.ntmps24
  go_wp2_with fail
  refine wp_region_noPanic ?_
  refine wp_region_held_drew (S := fun w' => w'.cell? ⟨w.heap.size, 4, none⟩ = some (.int .i64 r.n) ∧ w'.cell? ⟨w.heap.size + 1, 5, none⟩ = some (.int .i64 o.first)) (by kernel_rfl) hH (fun hHeld => ?_)
  refine wpAnyH_take (i := 0) (oi := _) (v := ?_) (by simp only [List.getElem?_toArray, List.getElem?_cons_succ, List.getElem?_cons_zero]; rfl) (by kernel_rfl) (by kernel_rfl) (by kernel_rfl) (fun _ _ _ h => h) (Or.inl ⟨by rfl, ?_⟩) (by assumption) ?_
  rotate_left
  · (intro w hSw; (try dsimp only at hSw); go_simp; (try with_reducible rfl))
  (try simp only [Act.put, List.setIfInBounds_toArray, List.set_cons_zero, List.set_cons_succ])
  refine wpAnyH_take (i := 1) (oi := _) (v := ?_) (by simp only [List.getElem?_toArray, List.getElem?_cons_succ, List.getElem?_cons_zero]; rfl) (by kernel_rfl) (by kernel_rfl) (by kernel_rfl) (fun _ _ _ h => h) (Or.inl ⟨by rfl, ?_⟩) (by assumption) ?_
  rotate_left
  · (intro w hSw; (try dsimp only at hSw); go_simp; (try with_reducible rfl))
  (try simp only [Act.put, List.setIfInBounds_toArray, List.set_cons_zero, List.set_cons_succ])
  refine wpAnyH_take (i := 2) (oi := _) (v := ?_) (by simp only [List.getElem?_toArray, List.getElem?_cons_succ, List.getElem?_cons_zero]; rfl) (by kernel_rfl) (by kernel_rfl) (by kernel_rfl) (fun _ _ _ h => h) (Or.inl ⟨by rfl, ?_⟩) (by assumption) ?_
  rotate_left
  · (intro w hSw; (try dsimp only at hSw); go_simp; (try with_reducible rfl))
  (try simp only [Act.put, List.setIfInBounds_toArray, List.set_cons_zero, List.set_cons_succ])
  refine wpAnyH_take (i := 3) (oi := _) (v := ?_) (by simp only [List.getElem?_toArray, List.getElem?_cons_succ, List.getElem?_cons_zero]; rfl) (by kernel_rfl) (by kernel_rfl) (by kernel_rfl) (fun _ _ _ h => h) (Or.inl ⟨by rfl, ?_⟩) (by assumption) ?_
  rotate_left
  · (intro w hSw; (try dsimp only at hSw); go_simp; (try with_reducible rfl))
  (try simp only [Act.put, List.setIfInBounds_toArray, List.set_cons_zero, List.set_cons_succ])
  refine wpAnyH_take (i := 4) (oi := _) (v := ?_) (by simp only [List.getElem?_toArray, List.getElem?_cons_succ, List.getElem?_cons_zero]; rfl) (by kernel_rfl) (by kernel_rfl) (by kernel_rfl) (fun _ _ _ h => h) (Or.inl ⟨by rfl, ?_⟩) (by assumption) ?_
  rotate_left
  · (intro w hSw; (try dsimp only at hSw); go_simp; (try with_reducible rfl))
  (try simp only [Act.put, List.setIfInBounds_toArray, List.set_cons_zero, List.set_cons_succ])
  refine wpAnyH_take (i := 5) (oi := _) (v := ?_) (by simp only [List.getElem?_toArray, List.getElem?_cons_succ, List.getElem?_cons_zero]; rfl) (by kernel_rfl) (by kernel_rfl) (by kernel_rfl) (fun _ _ _ h => h) (Or.inl ⟨by rfl, ?_⟩) (by assumption) ?_
  rotate_left
  · (intro w hSw; (try dsimp only at hSw); go_simp; (try with_reducible rfl))
  (try simp only [Act.put, List.setIfInBounds_toArray, List.set_cons_zero, List.set_cons_succ])
  refine wpAnyH_take (i := 6) (oi := _) (v := ?_) (by simp only [List.getElem?_toArray, List.getElem?_cons_succ, List.getElem?_cons_zero]; rfl) (by kernel_rfl) (by kernel_rfl) (by kernel_rfl) (fun _ _ _ h => h) (Or.inl ⟨by rfl, ?_⟩) (by assumption) ?_
  rotate_left
  · (intro w hSw; (try dsimp only at hSw); go_simp; (try with_reducible rfl))
  (try simp only [Act.put, List.setIfInBounds_toArray, List.set_cons_zero, List.set_cons_succ])
  refine wpAnyH_ready (rs := [7]) (by kernel_rfl) (by simp) ?_
  refine AllReadyH.cons (o := _) (by simp only [List.getElem?_toArray, List.getElem?_cons_succ, List.getElem?_cons_zero]; rfl) (fun K hK => ?_) AllReadyH.nil
  go_simp
  refine (lease26 _ _ HF.out).mono ?_
  rintro e w7 ⟨rfl, rfl⟩
  (try go_wp2_with fail)
  refine hK.out _ _ (by first | exact hHeld) (fun hHeld => ?_)
  clear hK K
  (try simp only [Act.put, List.setIfInBounds_toArray, List.set_cons_zero, List.set_cons_succ])
  refine wpAnyH_take (i := 8) (oi := _) (v := ?_) (by simp only [List.getElem?_toArray, List.getElem?_cons_succ, List.getElem?_cons_zero]; rfl) (by kernel_rfl) (by kernel_rfl) (by kernel_rfl) (fun _ _ _ h => h) (Or.inl ⟨by rfl, ?_⟩) (by assumption) ?_
  rotate_left
  · (intro w hSw; (try dsimp only at hSw); go_simp; (try with_reducible rfl))
  (try simp only [Act.put, List.setIfInBounds_toArray, List.set_cons_zero, List.set_cons_succ])
  refine wpAnyH_take (i := 9) (oi := _) (v := ?_) (by simp only [List.getElem?_toArray, List.getElem?_cons_succ, List.getElem?_cons_zero]; rfl) (by kernel_rfl) (by kernel_rfl) (by kernel_rfl) (fun _ _ _ h => h) (Or.inl ⟨by rfl, ?_⟩) (by assumption) ?_
  rotate_left
  · (intro w hSw; (try dsimp only at hSw); go_simp; (try with_reducible rfl))
  (try simp only [Act.put, List.setIfInBounds_toArray, List.set_cons_zero, List.set_cons_succ])
  refine wpAnyH_ready (rs := [10]) (by kernel_rfl) (by simp) ?_
  refine AllReadyH.cons (o := _) (by simp only [List.getElem?_toArray, List.getElem?_cons_succ, List.getElem?_cons_zero]; rfl) (fun K hK => ?_) AllReadyH.nil
  go_simp
  refine hK.out _ _ ?_ (fun hHeld => ?_)
  · (repeat (first | with_reducible (apply SD.out) | with_reducible (apply SF.out) | with_reducible (exact hH) | exact HB.out))
  clear hK K
  (try simp only [Act.put, List.setIfInBounds_toArray, List.set_cons_zero, List.set_cons_succ])
  refine wpAnyH_take (i := 11) (oi := _) (v := ?_) (by simp only [List.getElem?_toArray, List.getElem?_cons_succ, List.getElem?_cons_zero]; rfl) (by kernel_rfl) (by kernel_rfl) (by kernel_rfl) (fun _ _ _ h => h) (Or.inl ⟨by rfl, ?_⟩) (by assumption) ?_
  rotate_left
  · (intro w hSw; (try dsimp only at hSw); go_simp; (try with_reducible rfl))
  (try simp only [Act.put, List.setIfInBounds_toArray, List.set_cons_zero, List.set_cons_succ])
  refine wpAnyH_take (i := 12) (oi := _) (v := ?_) (by simp only [List.getElem?_toArray, List.getElem?_cons_succ, List.getElem?_cons_zero]; rfl) (by kernel_rfl) (by kernel_rfl) (by kernel_rfl) (fun _ _ _ h => h) (Or.inl ⟨by rfl, ?_⟩) (by assumption) ?_
  rotate_left
  · (intro w hSw; (try dsimp only at hSw); go_simp; (try with_reducible rfl))
  (try simp only [Act.put, List.setIfInBounds_toArray, List.set_cons_zero, List.set_cons_succ])
  refine wpAnyH_ready (rs := [13]) (by kernel_rfl) (by simp) ?_
  refine AllReadyH.cons (o := _) (by simp only [List.getElem?_toArray, List.getElem?_cons_succ, List.getElem?_cons_zero]; rfl) (fun K hK => ?_) AllReadyH.nil
  go_simp
  refine hK.out _ _ ?_ (fun hHeld => ?_)
  · (repeat (first | with_reducible (apply SD.out) | with_reducible (apply SF.out) | with_reducible (exact hH) | exact HB.out))
  clear hK K
  (try simp only [Act.put, List.setIfInBounds_toArray, List.set_cons_zero, List.set_cons_succ])
  refine wpAnyH_take (i := 14) (oi := _) (v := ?_) (by simp only [List.getElem?_toArray, List.getElem?_cons_succ, List.getElem?_cons_zero]; rfl) (by kernel_rfl) (by kernel_rfl) (by kernel_rfl) (fun _ _ _ h => h) (Or.inl ⟨by rfl, ?_⟩) (by assumption) ?_
  rotate_left
  · (intro w hSw; (try dsimp only at hSw); go_simp; (try with_reducible rfl))
  (try simp only [Act.put, List.setIfInBounds_toArray, List.set_cons_zero, List.set_cons_succ])
  refine wpAnyH_take (i := 15) (oi := _) (v := ?_) (by simp only [List.getElem?_toArray, List.getElem?_cons_succ, List.getElem?_cons_zero]; rfl) (by kernel_rfl) (by kernel_rfl) (by kernel_rfl) (fun _ _ _ h => h) (Or.inl ⟨by rfl, ?_⟩) (by assumption) ?_
  rotate_left
  · (intro w hSw; (try dsimp only at hSw); go_simp; (try with_reducible rfl))
  (try simp only [Act.put, List.setIfInBounds_toArray, List.set_cons_zero, List.set_cons_succ])
  refine wpAnyH_ready (rs := [16]) (by kernel_rfl) (by simp) ?_
  refine AllReadyH.cons (o := _) (by simp only [List.getElem?_toArray, List.getElem?_cons_succ, List.getElem?_cons_zero]; rfl) (fun K hK => ?_) AllReadyH.nil
  go_simp
  refine hK.out _ _ ?_ (fun hHeld => ?_)
  · (repeat (first | with_reducible (apply SD.out) | with_reducible (apply SF.out) | with_reducible (exact hH) | exact HB.out))
  clear hK K
  (try simp only [Act.put, List.setIfInBounds_toArray, List.set_cons_zero, List.set_cons_succ])
  refine wpAnyH_done (by kernel_rfl) ?_ _
  refine NoPanic.normal ?_
  clear r4 x5
  all_goals go_wp2_with fail
  all_goals go_ret
  all_goals exact ⟨_, _, rfl, told_end QQ.out GE.out _ (by repeat (first | with_reducible (apply Keep.drew) | with_reducible (apply Keep.alloc) | with_reducible (exact Keep.same _ _)))⟩
theorem x_told (h : Holds B w0 w (star (cliP b (S.withOp (some o))) Q)) (hQ : Stable Q) (hn : S.L.length ≤ 500000) (hr : Rise S.L) (hf : I64 o.first) (r : Rp) :
    Calls Try.prog 24 #[.pointer (some ⟨b, 0, none⟩), r.val] w (ToldPost B w0 b (toldS S o r) Q) := by
  unfold toldS
  split
  · exact told_gone h hQ (by assumption)
  · split
    · rename_i he0 he
      unfold okS
      split
      · exact told_open h hQ he (by assumption) hf
      · split
        · exact told_close h hQ he (by assumption)
        · split
          · rename_i h2 h3 h57
            rcases h57 with h5 | h7
            · have := told_hold (r := r) h hQ he false (by simpa using h5) hn hr
              rw [show decide (o.cmd.k = 7) = false by simp [h5]]
              exact this
            · have := told_hold (r := r) h hQ he true (by simpa using h7) hn hr
              rw [show decide (o.cmd.k = 7) = true by simp [h7]]
              exact this
          · rename_i h2 h3 h57
            exact told_other h hQ he h2 h3 (fun h => h57 (.inl h)) (fun h => h57 (.inr h))
    · exact told_err h hQ (by assumption) (by assumption)
end
end Go.Proofs.Ythlfcinjmljbjaa.A
