/-
  The scheduler: New. Printed by gen_vd.py.
-/
import Derived.Test.YtmohpjkbhpgidaaVC
namespace Go.Proofs.Ytmohpjkbhpgidaa.A
open Go.RowKit Go.Proofs.Ytmohpjkbhpgidaa.U
set_option linter.unusedVariables false
set_option linter.unusedSimpArgs false
set_option maxRecDepth 100000
set_option maxHeartbeats 1600000

theorem size_alloc (w : World) (o : Obj) : (w.alloc o).heap.size = w.heap.size + 1 := by simp
theorem osrc_len {w : World} {A : Option Addr} {L : List Op3} {n : Nat} (h : U.Src w A 3 n (opsV L)) : L.length = n := by
  have := h.1
  rw [opsV_len] at this
  omega
def FreshOps (L : List Op3) (w : World) (e : Ending) (w' : World) : Prop := ∃ A c, e = .returned (.slice A L.length c) ∧ Row w' 97 3 (.slice A L.length c) L.length (opsV L) ∧ Keep Nothing w w' ∧ ∀ k, (Value.slice A L.length c).ownBlock = some k → w.heap.size ≤ k
theorem clone88 (w : World) (A : Option Addr) (n c : Nat) (L : List Op3) (h : U.Src w A 3 n (opsV L)) (hn : n ≤ 1000000) :
    Calls Try.prog 88 #[.slice A n c] w (FreshOps L w) := by
  have hL := osrc_len h
  subst hL
  have H := Lib.hid h
  have hu22 := Try.underlying99
  have hz := fun (A : Option Addr) (n c : Nat) w => Lib.run_eql_slice_nil (P := Try.prog) w 99 97 A n c 0 0 Try.underlying99
  clear h
  cases A with
  | none =>
    have h0 : L.length = 0 := by
      rcases Nat.eq_zero_or_pos L.length with h | h
      · exact h
      · obtain ⟨ad, e, _⟩ := H.out.2 h
        cases e
    obtain rfl : L = [] := List.eq_nil_of_length_eq_zero h0
    go_enter Try.func88, Try.ntmps88
    go_wp2_with fail
    go_ret
    exact ⟨none, 0, rfl, Row.nil _ 97 3, Keep.same _ _, fun k hk => by simp [Value.ownBlock] at hk⟩
  | some ad =>
    have H2 := Lib.hid (show U.Src (w.alloc (.cells #[] 97)) (some ad) 3 L.length (opsV L) from ⟨H.out.1, fun hn => by
      obtain ⟨ad', e, hc⟩ := H.out.2 hn
      exact ⟨ad', e, fun j u hu => ((Keep.same Nothing w).alloc _).cell (hc j u hu) (fun h => h)⟩⟩)
    have R0 := Lib.hid (Row.fresh w 97 3 0 #[] rfl (by unfold maxLen; omega))
    have O1 := Lib.hid (opsV_one L)
    go_enter Try.func88, Try.ntmps88
    go_wp2_with (at_builtin; refine wpList_app _ rfl EO (.tmp 5) (.tmp 6) rfl R0.out H2.out c rfl rfl O1.out (by unfold maxLen; omega) (by omega) ?_)
    intro v' w' hr hg hl
    obtain ⟨A', c', rfl, _, _⟩ := hr.form
    have R1 := Lib.hid hr
    have K1 := Lib.hid (((Keep.same Nothing w).alloc (.cells #[] 97)).grown hg (fun i hi => .inr (by simp [Value.ownBlock] at hi; omega)))
    have O := Lib.hid (show ∀ k, (Value.slice A' L.length c').ownBlock = some k → w.heap.size ≤ k by
      intro k hk
      rcases hl with h | h
      · rw [h] at hk; simp [Value.ownBlock] at hk; omega
      · rw [h] at hk; injection hk with hk; omega)
    clear hr hg hl
    try rw [List.nil_append] at R1
    go_wp2_with fail
    go_ret
    exact ⟨_, _, by simp, R1.out, K1.out, O.out⟩

theorem EP : Elem Try.prog 137 140 1 8 (.pointer none) := ⟨Try.underlying137, by kernel_rfl, by rfl, by decide⟩
/-- The scheduler: its block, its row of tasks, its tasks. -/
def coreP (b : Nat) (X : List (Nat × Tk)) (bm : Nat) : SP := fun w F => ∃ A c, star (blkP b 139 #[.slice A X.length c, .map (some bm)]) (star (rowP 140 1 (.slice A X.length c) X.length (ptrs X)) (allP X)) w F
theorem coreP_stable (b : Nat) (X : List (Nat × Tk)) (bm : Nat) : Stable (coreP b X bm) where
  keep := fun ⟨A, c, h⟩ hk hn => ⟨A, c, ((blkP_stable _ _ _).star ((rowP_stable _ _ _ _ _).star (allP_stable X))).keep h hk hn⟩
  lt := fun ⟨A, c, h⟩ hk => ((blkP_stable _ _ _).star ((rowP_stable _ _ _ _ _).star (allP_stable X))).lt h hk
section
variable {B : Nat} {w0 w : World} {Q : SP} {b bm : Nat} {X : List (Nat × Tk)}
theorem core_open (h : Holds B w0 w (star (coreP b X bm) Q)) : ∃ A c, Holds B w0 w (star (blkP b 139 #[.slice A X.length c, .map (some bm)]) (star (rowP 140 1 (.slice A X.length c) X.length (ptrs X)) (star (allP X) Q))) := by
  obtain ⟨F, ⟨F1, F2, ⟨A, c, h1⟩, h2, h3, h4⟩, hr⟩ := h
  have g : Holds B w0 w (star (star (blkP b 139 #[.slice A X.length c, .map (some bm)]) (star (rowP 140 1 (.slice A X.length c) X.length (ptrs X)) (allP X))) Q) := ⟨F, ⟨F1, F2, h1, h2, h3, h4⟩, hr⟩
  exact ⟨A, c, g.perm (by ac_rfl)⟩
theorem core_close {A : Option Addr} {c : Nat} (h : Holds B w0 w (star (blkP b 139 #[.slice A X.length c, .map (some bm)]) (star (rowP 140 1 (.slice A X.length c) X.length (ptrs X)) (star (allP X) Q)))) : Holds B w0 w (star (coreP b X bm) Q) := by
  have g : Holds B w0 w (star (star (blkP b 139 #[.slice A X.length c, .map (some bm)]) (star (rowP 140 1 (.slice A X.length c) X.length (ptrs X)) (allP X))) Q) := h.perm (by ac_rfl)
  obtain ⟨F, ⟨F1, F2, h1, h2, h3, h4⟩, hr⟩ := g
  exact ⟨F, ⟨F1, F2, ⟨A, c, h1⟩, h2, h3, h4⟩, hr⟩
theorem all_blk : ∀ {X : List (Nat × Tk)} {Q : SP}, Holds B w0 w (star (allP X) Q) → ∀ x ∈ X, ∃ A A' c c', Blk w x.1 143 (x.2.cs A A' c c')
  | [], Q, h, x, hx => by cases hx
  | y :: X, Q, h, x, hx => by
    have g : Holds B w0 w (star (taskP y.1 y.2) (star (allP X) Q)) := h.perm (by
      show star (star (taskP y.1 y.2) (allP X)) Q = _
      ac_rfl)
    rcases List.mem_cons.1 hx with rfl | hx
    · exact task_blk g
    · exact all_blk (show Holds B w0 w (star (allP X) (star (taskP y.1 y.2) Q)) from g.perm (by ac_rfl)) x hx
theorem core_tasks (h : Holds B w0 w (star (coreP b X bm) Q)) (hl : X.length ≤ 1000000) : ∃ A c, Tasks w b X A c (.map (some bm)) := by
  obtain ⟨A, c, h1⟩ := core_open h
  have h2 : Holds B w0 w (star (rowP 140 1 (.slice A X.length c) X.length (ptrs X)) (star (blkP b 139 #[.slice A X.length c, .map (some bm)]) (star (allP X) Q))) := h1.perm (by ac_rfl)
  have h3 : Holds B w0 w (star (allP X) (star (blkP b 139 #[.slice A X.length c, .map (some bm)]) (star (rowP 140 1 (.slice A X.length c) X.length (ptrs X)) Q))) := h1.perm (by ac_rfl)
  exact ⟨A, c, blk_at' h1, h2.row.src, all_blk h3, hl⟩
end
/-- Rows of operations, as an argument. -/
def ArgOps (w : World) (A : Option Addr) (TS : List (List Op3)) : Prop := ∀ k L, TS[k]? = some L → ∃ ad Ak ck, A = some ad ∧ w.cell? (ad.add k) = some (.slice Ak L.length ck) ∧ U.Src w Ak 3 L.length (opsV L) ∧ L.length ≤ 1000000
def freshT (L : List Op3) : Tk := ⟨L, 0, false, []⟩
theorem src_keep {w w' : World} {A : Option Addr} {s n : Nat} {xs : List Value} (h : U.Src w A s n xs) (hk : Keep Nothing w w') : U.Src w' A s n xs :=
  ⟨h.1, fun h0 => let ⟨ad, e, hc⟩ := h.2 h0; ⟨ad, e, fun j u hu => hk.cell (hc j u hu) (fun h => h)⟩⟩
theorem new60 (w : World) (A : Option Addr) (c : Nat) (TS : List (List Op3)) (h : ArgOps w A TS) (hl : TS.length ≤ 1000000) :
    Calls Try.prog 60 #[.slice A TS.length c] w (fun e w' => ∃ b bm X, e = .returned (.pointer (some ⟨b, 0, none⟩)) ∧ X.map (·.2) = TS.map freshT ∧ Holds w.heap.size w w' (star (coreP b X bm) (star (mapP bm []) none_))) := by
  have hu := Try.underlying139
  have hu2 := Try.underlying143
  have HA := Lib.hid h
  have HL := Lib.hid hl
  have hb : ∀ w', Below w.heap.size w w' → Keep Nothing w w' := fun w' h => Keep.of_below h _
  have hmm := @run_makeMap Try.prog
  have h1 : Holds w.heap.size w (w.alloc (.map #[] 0)) (star (mapP w.heap.size []) none_) :=
    (Holds.start w).more none_stable (F := fun k => k = w.heap.size) ⟨⟨#[], 0, heap_alloc_new w _, rfl⟩, fun k => Iff.rfl⟩ ((Keep.same _ _).alloc _) (fun k hk => by omega)
  have SM := Lib.hid ((mapP_stable w.heap.size []).star none_stable)
  have h2 := h1.newBlk SM.out 139 #[.slice none 0 0, .map (some w.heap.size)]
  rw [size_alloc] at h2
  have h3 : Holds w.heap.size w ((w.alloc (.map #[] 0)).alloc (.cells #[.slice none 0 0, .map (some w.heap.size)] 139)) (star (rowP 140 1 (.slice none 0 0) 0 []) (star (blkP (w.heap.size + 1) 139 #[.slice none 0 0, .map (some w.heap.size)]) (star (mapP w.heap.size []) none_))) :=
    h2.newRow ((blkP_stable _ _ _).star SM.out) (Row.nil _ 140 1) (Keep.same _ _) (fun k hk => by simp [Value.ownBlock] at hk)
  have h4 : Holds w.heap.size w ((w.alloc (.map #[] 0)).alloc (.cells #[.slice none 0 0, .map (some w.heap.size)] 139)) (star none_ (star (rowP 140 1 (.slice none 0 0) 0 []) (star (blkP (w.heap.size + 1) 139 #[.slice none 0 0, .map (some w.heap.size)]) (star (mapP w.heap.size []) none_)))) :=
    h3.more ((rowP_stable _ _ _ _ _).star ((blkP_stable _ _ _).star SM.out)) (F := fun _ => False) (fun k h => h) (Keep.same _ _) (fun k hk => hk.elim)
  have H0 := Lib.hid (core_close (X := []) (b := w.heap.size + 1) (bm := w.heap.size) (A := none) (c := 0) (h4.perm (by
    show _ = star (blkP (w.heap.size + 1) 139 #[.slice none 0 0, .map (some w.heap.size)]) (star (rowP 140 1 (.slice none 0 0) 0 []) (star none_ (star (mapP w.heap.size []) none_)))
    ac_rfl)))
  clear h h1 h2 h3 h4
  go_enter Try.func60, Try.ntmps60
  go_wp2_with fail
  obtain ⟨b, hbe⟩ : ∃ b, w.heap.size + 1 = b := ⟨_, rfl⟩
  rw [hbe] at H0 ⊢
  clear hbe
  generalize hg1 : w.heap.size = bm at *
  have HG := Lib.hid hg1
  clear hg1
  have H0' := H0
  go_loopw [11] (fun iv wr => ∃ (k : Nat) (X : List (Nat × Tk)), k ≤ TS.length ∧ iv = .int .i64 k ∧ X.map (·.2) = (TS.take k).map freshT ∧ Holds bm w wr (star (coreP b X bm) (star (mapP bm []) none_))) (fun iv _ => TS.length - (intOf iv).toNat)
  case atStart => exact ⟨0, [], by omega, by simp, rfl, H0'.out⟩
  case round =>
    obtain ⟨k, X, hk, rfl, hX, hh⟩ := hrel
    have H := Lib.hid hh
    have HX := Lib.hid hX
    have HXL := Lib.hid (show X.length = k by have := congrArg List.length hX; rw [List.length_map, List.length_map, List.length_take] at this; omega)
    clear hh hX
    by_cases hlt : k < TS.length
    · have HLT := Lib.hid hlt
      obtain ⟨L, hTL⟩ : ∃ L, TS[k]? = some L := ⟨_, List.getElem?_eq_getElem hlt⟩
      obtain ⟨ad, Ak, ck, rfl, hca, hsa, hlL⟩ := HA.out k L hTL
      have KW := Lib.hid (hb _ H.out.below)
      have ca := KW.out.cell hca (fun h => h)
      have HC := Lib.hid (fun w' (hk' : Keep Nothing wr w') => clone88 w' Ak L.length ck L (src_keep hsa (KW.out.then hk')) hlL)
      obtain ⟨A1, c1, g1⟩ := core_open H.out
      have G1 := Lib.hid g1
      have B1 := Lib.hid (blk_at' g1)
      have a0 := B1.out.cell 0
      have hlL' := Lib.hid hlL
      have hTS := hl
      have HT := Lib.hid hTL
      clear hca hsa g1 hlL hTL
      go_wp2_with fail
      refine wp_region_noPanic ?_
      refine wp_region_held_drew (S := (fun _ => True)) (by kernel_rfl) trivial (fun hHeld => ?_)
      refine wpAnyH_take (i := 0) (oi := _) (v := ?_) (by simp only [List.getElem?_toArray, List.getElem?_cons_succ, List.getElem?_cons_zero]; rfl) (by kernel_rfl) (by kernel_rfl) (by kernel_rfl) (fun _ _ _ h => h) (Or.inl ⟨by rfl, ?_⟩) (by assumption) ?_
      rotate_left
      · (intro w hSw; (try dsimp only at hSw); go_simp; (try with_reducible rfl))
      (try simp only [Act.put, List.setIfInBounds_toArray, List.set_cons_zero, List.set_cons_succ])
      refine wpAnyH_take (i := 1) (oi := _) (v := ?_) (by simp only [List.getElem?_toArray, List.getElem?_cons_succ, List.getElem?_cons_zero]; rfl) (by kernel_rfl) (by kernel_rfl) (by kernel_rfl) (fun _ _ _ h => h) (Or.inl ⟨by rfl, ?_⟩) (by assumption) ?_
      rotate_left
      · (intro w hSw; (try dsimp only at hSw); go_simp; (try with_reducible rfl))
      (try simp only [Act.put, List.setIfInBounds_toArray, List.set_cons_zero, List.set_cons_succ])
      refine wpAnyH_take (i := 2) (oi := _) (v := ?_) (by simp only [List.getElem?_toArray, List.getElem?_cons_succ, List.getElem?_cons_zero]; rfl) (by kernel_rfl) (by kernel_rfl) (by kernel_rfl) (fun _ _ _ h => h) (Or.inl ⟨by rfl, ?_⟩) (by assumption) ?_
      rotate_left
      · (intro w hSw; (try dsimp only at hSw); go_simp; (try with_reducible rfl))
      (try simp only [Act.put, List.setIfInBounds_toArray, List.set_cons_zero, List.set_cons_succ])
      refine wpAnyH_take (i := 3) (oi := _) (v := ?_) (by simp only [List.getElem?_toArray, List.getElem?_cons_succ, List.getElem?_cons_zero]; rfl) (by kernel_rfl) (by kernel_rfl) (by kernel_rfl) (fun _ _ _ h => h) (Or.inl ⟨by rfl, ?_⟩) (by assumption) ?_
      rotate_left
      · (intro w hSw; (try dsimp only at hSw); go_simp; (try with_reducible rfl))
      (try simp only [Act.put, List.setIfInBounds_toArray, List.set_cons_zero, List.set_cons_succ])
      refine wpAnyH_take (i := 5) (oi := _) (v := ?_) (by simp only [List.getElem?_toArray, List.getElem?_cons_succ, List.getElem?_cons_zero]; rfl) (by kernel_rfl) (by kernel_rfl) (by kernel_rfl) (fun _ _ _ h => h) (Or.inl ⟨by rfl, ?_⟩) (by assumption) ?_
      rotate_left
      · (intro w hSw; (try dsimp only at hSw); go_simp; (try with_reducible rfl))
      (try simp only [Act.put, List.setIfInBounds_toArray, List.set_cons_zero, List.set_cons_succ])
      refine wpAnyH_ready (rs := [4, 6]) (by kernel_rfl) (by simp) ?_
      refine AllReadyH.cons (o := _) (by simp only [List.getElem?_toArray, List.getElem?_cons_succ, List.getElem?_cons_zero]; rfl) (fun K hK => ?_) (AllReadyH.cons (o := _) (by simp only [List.getElem?_toArray, List.getElem?_cons_succ, List.getElem?_cons_zero]; rfl) (fun K hK => ?_) AllReadyH.nil)
      · go_simp
        refine hK.out _ _ (trivial) (fun hHeld => ?_)
        clear hK K
        (try simp only [Act.put, List.setIfInBounds_toArray, List.set_cons_zero, List.set_cons_succ])
        refine wpAnyH_ready (rs := [6]) (by kernel_rfl) (by simp) ?_
        refine AllReadyH.cons (o := _) (by simp only [List.getElem?_toArray, List.getElem?_cons_succ, List.getElem?_cons_zero]; rfl) (fun K hK => ?_) AllReadyH.nil
        go_simp
        refine (HC.out _ (by repeat (first | with_reducible (exact Keep.same _ _) | with_reducible (apply Keep.drew) | with_reducible (apply Keep.alloc)))).mono ?_
        rintro e w6 ⟨A6, c6, rfl, hr6, hk6, hf6⟩
        have K6 := Lib.hid (((Keep.same Nothing wr).drew).then hk6)
        have B6 := B1.out.keep K6.out (fun h => h)
        have a6 := B6.cell 0
        have B7 := B6.alloc (.cells #[.slice A6 L.length c6, .int .i64 0, .bool false, .slice none 0 0] 143)
        have a7 := B7.cell 0
        have B8 := B7.alloc (.cells #[.pointer (some ⟨w6.heap.size, 0, none⟩)] 140)
        have a8 := B8.cell 0
        have R6 := Lib.hid hr6
        have F6 := Lib.hid hf6
        clear hr6 hk6 hf6 B6 B7 B8
        (try go_wp2_with fail)
        refine hK.out _ _ (trivial) (fun hHeld => ?_)
        clear hK K
        (try simp only [Act.put, List.setIfInBounds_toArray, List.set_cons_zero, List.set_cons_succ])
        refine wpAnyH_take (i := 7) (oi := _) (v := ?_) (by simp only [List.getElem?_toArray, List.getElem?_cons_succ, List.getElem?_cons_zero]; rfl) (by kernel_rfl) (by kernel_rfl) (by kernel_rfl) (fun _ _ _ h => h) (Or.inl ⟨by rfl, ?_⟩) (by assumption) ?_
        rotate_left
        · (intro w hSw; (try dsimp only at hSw); go_simp; (try with_reducible rfl))
        (try simp only [Act.put, List.setIfInBounds_toArray, List.set_cons_zero, List.set_cons_succ])
        refine wpAnyH_ready (rs := [8]) (by kernel_rfl) (by simp) ?_
        refine AllReadyH.cons (o := _) (by simp only [List.getElem?_toArray, List.getElem?_cons_succ, List.getElem?_cons_zero]; rfl) (fun K hK => ?_) AllReadyH.nil
        go_simp
        refine hK.out _ _ (trivial) (fun hHeld => ?_)
        clear hK K
        (try simp only [Act.put, List.setIfInBounds_toArray, List.set_cons_zero, List.set_cons_succ])
        refine wpAnyH_ready (rs := [9]) (by kernel_rfl) (by simp) ?_
        refine AllReadyH.cons (o := _) (by simp only [List.getElem?_toArray, List.getElem?_cons_succ, List.getElem?_cons_zero]; rfl) (fun K hK => ?_) AllReadyH.nil
        go_simp
        refine hK.out _ _ (trivial) (fun hHeld => ?_)
        clear hK K
        (try simp only [Act.put, List.setIfInBounds_toArray, List.set_cons_zero, List.set_cons_succ])
        refine wpAnyH_ready (rs := [10]) (by kernel_rfl) (by simp) ?_
        refine AllReadyH.cons (o := _) (by simp only [List.getElem?_toArray, List.getElem?_cons_succ, List.getElem?_cons_zero]; rfl) (fun K hK => ?_) AllReadyH.nil
        have SQ1 := Lib.hid ((blkP_stable b 139 #[.slice A1 X.length c1, .map (some bm)]).star ((allP_stable X).star ((mapP_stable bm []).star none_stable)))
        have N1 := Holds.newRow (show Holds bm w wr (star (rowP 140 1 (.slice A1 X.length c1) X.length (ptrs X)) (star (blkP b 139 #[.slice A1 X.length c1, .map (some bm)]) (star (allP X) (star (mapP bm []) none_)))) from G1.out.perm (by ac_rfl)) ((rowP_stable _ _ _ _ _).star SQ1.out) R6.out K6.out (fun k hk => by have := F6.out k hk; simpa using this)
        have N2 := N1.newRow ((rowP_stable _ _ _ _ _).star ((rowP_stable _ _ _ _ _).star SQ1.out)) (Row.nil w6 3 1) (Keep.same _ _) (fun k hk => by simp [Value.ownBlock] at hk)
        have N3 := N2.newBlk ((rowP_stable _ _ _ _ _).star ((rowP_stable _ _ _ _ _).star ((rowP_stable _ _ _ _ _).star SQ1.out))) 143 #[.slice A6 L.length c6, .int .i64 0, .bool false, .slice none 0 0]
        have N4 := task_close (T := freshT L) (A := A6) (A' := none) (c := c6) (c' := 0) (show Holds bm w _ (star (blkP w6.heap.size 143 #[.slice A6 L.length c6, .int .i64 0, .bool false, .slice none 0 0]) (star (orow (freshT L) A6 c6) (star (nrow (freshT L) none 0) (star (rowP 140 1 (.slice A1 X.length c1) X.length (ptrs X)) (star (blkP b 139 #[.slice A1 X.length c1, .map (some bm)]) (star (allP X) (star (mapP bm []) none_))))))) from N3.perm (by
          show star (blkP w6.heap.size 143 #[.slice A6 L.length c6, .int .i64 0, .bool false, .slice none 0 0]) (star (nrow (freshT L) none 0) (star (orow (freshT L) A6 c6) (star (rowP 140 1 (.slice A1 X.length c1) X.length (ptrs X)) (star (blkP b 139 #[.slice A1 X.length c1, .map (some bm)]) (star (allP X) (star (mapP bm []) none_)))))) = _
          ac_rfl))
        have SQ2 := Lib.hid ((taskP_stable w6.heap.size (freshT L)).star SQ1.out)
        have N5 := Holds.alloc (show Holds bm w _ (star (rowP 140 1 (.slice A1 X.length c1) X.length (ptrs X)) (star (taskP w6.heap.size (freshT L)) (star (blkP b 139 #[.slice A1 X.length c1, .map (some bm)]) (star (allP X) (star (mapP bm []) none_))))) from N4.perm (by ac_rfl)) ((rowP_stable _ _ _ _ _).star SQ2.out) (.cells #[.pointer (some ⟨w6.heap.size, 0, none⟩)] 140)
        have N6 := Lib.hid N5
        have RW := Lib.hid N5.row
        have SRC := Lib.hid (show U.Src ((w6.alloc (.cells #[.slice A6 L.length c6, .int .i64 0, .bool false, .slice none 0 0] 143)).alloc (.cells #[.pointer (some ⟨w6.heap.size, 0, none⟩)] 140)) (some ⟨w6.heap.size + 1, 0, none⟩) 1 1 [.pointer (some ⟨w6.heap.size, 0, none⟩)] from by
          have h := U.Src.fresh (w6.alloc (.cells #[.slice A6 L.length c6, .int .i64 0, .bool false, .slice none 0 0] 143)) #[.pointer (some ⟨w6.heap.size, 0, none⟩)] 140 1 1 rfl
          rw [size_alloc] at h
          exact h)
        refine step_app _ (by rfl) EP (.tmp 19) (.tmp 24) (by rfl) RW.out SRC.out 1 (by simp [Act.eval, Act.put]) (by simp [Act.eval, Act.put]) (by simp [Value.oneCell']) (by have := HXL.out; have := HLT.out; unfold maxLen; omega) (by have := HXL.out; have := HLT.out; omega) ?_
        intro A9 c9 w9 hr9 hg9 hl9
        have N7 := Holds.grew N6.out SQ2.out hr9 hg9 hl9
        have N8 : Holds bm w w9 (star (blkP b 139 #[.slice A1 X.length c1, .map (some bm)]) (star (rowP 140 1 (.slice A9 (X.length + 1) c9) (X.length + 1) (ptrs X ++ [.pointer (some ⟨w6.heap.size, 0, none⟩)])) (star (taskP w6.heap.size (freshT L)) (star (allP X) (star (mapP bm []) none_))))) := N7.perm (by ac_rfl)
        have SQ3 := Lib.hid ((rowP_stable 140 1 (.slice A9 (X.length + 1) c9) (X.length + 1) (ptrs X ++ [.pointer (some ⟨w6.heap.size, 0, none⟩)])).star ((taskP_stable w6.heap.size (freshT L)).star ((allP_stable X).star ((mapP_stable bm []).star none_stable))))
        have a9 := (blk_at' N8).cell 0
        have f9 := (blk_at' N8).free 0
        have N9 := Lib.hid (N8.setBlk SQ3.out 0 (.slice A9 (X.length + 1) c9))
        clear N1 N2 N3 N4 N5 N7 N8 hr9 hg9 hl9
        refine hK.out _ _ trivial (fun hHeld => ?_)
        clear hK K
        (try simp only [Act.put, List.setIfInBounds_toArray, List.set_cons_zero, List.set_cons_succ])
        refine wpAnyH_take (i := 11) (oi := _) (v := ?_) (by simp only [List.getElem?_toArray, List.getElem?_cons_succ, List.getElem?_cons_zero]; rfl) (by kernel_rfl) (by kernel_rfl) (by kernel_rfl) (fun _ _ _ h => h) (Or.inl ⟨by rfl, ?_⟩) (by assumption) ?_
        rotate_left
        · (intro w hSw; (try dsimp only at hSw); go_simp; (try with_reducible rfl))
        (try simp only [Act.put, List.setIfInBounds_toArray, List.set_cons_zero, List.set_cons_succ])
        refine wpAnyH_take (i := 12) (oi := _) (v := ?_) (by simp only [List.getElem?_toArray, List.getElem?_cons_succ, List.getElem?_cons_zero]; rfl) (by kernel_rfl) (by kernel_rfl) (by kernel_rfl) (fun _ _ _ h => h) (Or.inl ⟨by rfl, ?_⟩) (by assumption) ?_
        rotate_left
        · (intro w hSw; (try dsimp only at hSw); go_simp; (try with_reducible rfl))
        (try simp only [Act.put, List.setIfInBounds_toArray, List.set_cons_zero, List.set_cons_succ])
        refine wpAnyH_ready (rs := [13]) (by kernel_rfl) (by simp) ?_
        refine AllReadyH.cons (o := _) (by simp only [List.getElem?_toArray, List.getElem?_cons_succ, List.getElem?_cons_zero]; rfl) (fun K hK => ?_) AllReadyH.nil
        go_simp
        refine hK.out _ _ (trivial) (fun hHeld => ?_)
        clear hK K
        (try simp only [Act.put, List.setIfInBounds_toArray, List.set_cons_zero, List.set_cons_succ])
        refine wpAnyH_done (by kernel_rfl) ?_ _
        refine NoPanic.normal ?_
        clear a0 a6 a7 a8
        have hXn : (X ++ [(w6.heap.size, freshT L)]).length = X.length + 1 := by simp
        have hPn : ptrs (X ++ [(w6.heap.size, freshT L)]) = ptrs X ++ [.pointer (some ⟨w6.heap.size, 0, none⟩)] := by simp [ptrs]
        have N10 := Lib.hid (core_close (b := b) (bm := bm) (X := X ++ [(w6.heap.size, freshT L)]) (A := A9) (c := c9) (Q := star (mapP bm []) none_) (by
          rw [hXn, hPn, allP_push]
          exact N9.out.perm (by
            show star (blkP b 139 #[.slice A9 (X.length + 1) c9, .map (some bm)]) _ = _
            ac_rfl)))
        clear hXn hPn
        have hTT := hTS
        go_wp2_with fail
        go_roundw
        case rel => exact ⟨k + 1, X ++ [(w6.heap.size, freshT L)], by have := HLT.out; omega, by go_num, by rw [List.map_append, HX.out, List.take_add_one, HT.out]; simp, N10.out⟩
        case measure => have := HLT.out; simp [intOf]; omega
      · go_simp
        refine (HC.out _ (by repeat (first | with_reducible (exact Keep.same _ _) | with_reducible (apply Keep.drew) | with_reducible (apply Keep.alloc)))).mono ?_
        rintro e w6 ⟨A6, c6, rfl, hr6, hk6, hf6⟩
        have K6 := Lib.hid (((Keep.same Nothing wr).drew).then hk6)
        have B6 := B1.out.keep K6.out (fun h => h)
        have a6 := B6.cell 0
        have B7 := B6.alloc (.cells #[.slice A6 L.length c6, .int .i64 0, .bool false, .slice none 0 0] 143)
        have a7 := B7.cell 0
        have B8 := B7.alloc (.cells #[.pointer (some ⟨w6.heap.size, 0, none⟩)] 140)
        have a8 := B8.cell 0
        have R6 := Lib.hid hr6
        have F6 := Lib.hid hf6
        clear hr6 hk6 hf6 B6 B7 B8
        (try go_wp2_with fail)
        refine hK.out _ _ (trivial) (fun hHeld => ?_)
        clear hK K
        (try simp only [Act.put, List.setIfInBounds_toArray, List.set_cons_zero, List.set_cons_succ])
        refine wpAnyH_take (i := 7) (oi := _) (v := ?_) (by simp only [List.getElem?_toArray, List.getElem?_cons_succ, List.getElem?_cons_zero]; rfl) (by kernel_rfl) (by kernel_rfl) (by kernel_rfl) (fun _ _ _ h => h) (Or.inl ⟨by rfl, ?_⟩) (by assumption) ?_
        rotate_left
        · (intro w hSw; (try dsimp only at hSw); go_simp; (try with_reducible rfl))
        (try simp only [Act.put, List.setIfInBounds_toArray, List.set_cons_zero, List.set_cons_succ])
        refine wpAnyH_ready (rs := [4, 8]) (by kernel_rfl) (by simp) ?_
        refine AllReadyH.cons (o := _) (by simp only [List.getElem?_toArray, List.getElem?_cons_succ, List.getElem?_cons_zero]; rfl) (fun K hK => ?_) (AllReadyH.cons (o := _) (by simp only [List.getElem?_toArray, List.getElem?_cons_succ, List.getElem?_cons_zero]; rfl) (fun K hK => ?_) AllReadyH.nil)
        · go_simp
          refine hK.out _ _ (trivial) (fun hHeld => ?_)
          clear hK K
          (try simp only [Act.put, List.setIfInBounds_toArray, List.set_cons_zero, List.set_cons_succ])
          refine wpAnyH_ready (rs := [8]) (by kernel_rfl) (by simp) ?_
          refine AllReadyH.cons (o := _) (by simp only [List.getElem?_toArray, List.getElem?_cons_succ, List.getElem?_cons_zero]; rfl) (fun K hK => ?_) AllReadyH.nil
          go_simp
          refine hK.out _ _ (trivial) (fun hHeld => ?_)
          clear hK K
          (try simp only [Act.put, List.setIfInBounds_toArray, List.set_cons_zero, List.set_cons_succ])
          refine wpAnyH_ready (rs := [9]) (by kernel_rfl) (by simp) ?_
          refine AllReadyH.cons (o := _) (by simp only [List.getElem?_toArray, List.getElem?_cons_succ, List.getElem?_cons_zero]; rfl) (fun K hK => ?_) AllReadyH.nil
          go_simp
          refine hK.out _ _ (trivial) (fun hHeld => ?_)
          clear hK K
          (try simp only [Act.put, List.setIfInBounds_toArray, List.set_cons_zero, List.set_cons_succ])
          refine wpAnyH_ready (rs := [10]) (by kernel_rfl) (by simp) ?_
          refine AllReadyH.cons (o := _) (by simp only [List.getElem?_toArray, List.getElem?_cons_succ, List.getElem?_cons_zero]; rfl) (fun K hK => ?_) AllReadyH.nil
          have SQ1 := Lib.hid ((blkP_stable b 139 #[.slice A1 X.length c1, .map (some bm)]).star ((allP_stable X).star ((mapP_stable bm []).star none_stable)))
          have N1 := Holds.newRow (show Holds bm w wr (star (rowP 140 1 (.slice A1 X.length c1) X.length (ptrs X)) (star (blkP b 139 #[.slice A1 X.length c1, .map (some bm)]) (star (allP X) (star (mapP bm []) none_)))) from G1.out.perm (by ac_rfl)) ((rowP_stable _ _ _ _ _).star SQ1.out) R6.out K6.out (fun k hk => by have := F6.out k hk; simpa using this)
          have N2 := N1.newRow ((rowP_stable _ _ _ _ _).star ((rowP_stable _ _ _ _ _).star SQ1.out)) (Row.nil w6 3 1) (Keep.same _ _) (fun k hk => by simp [Value.ownBlock] at hk)
          have N3 := N2.newBlk ((rowP_stable _ _ _ _ _).star ((rowP_stable _ _ _ _ _).star ((rowP_stable _ _ _ _ _).star SQ1.out))) 143 #[.slice A6 L.length c6, .int .i64 0, .bool false, .slice none 0 0]
          have N4 := task_close (T := freshT L) (A := A6) (A' := none) (c := c6) (c' := 0) (show Holds bm w _ (star (blkP w6.heap.size 143 #[.slice A6 L.length c6, .int .i64 0, .bool false, .slice none 0 0]) (star (orow (freshT L) A6 c6) (star (nrow (freshT L) none 0) (star (rowP 140 1 (.slice A1 X.length c1) X.length (ptrs X)) (star (blkP b 139 #[.slice A1 X.length c1, .map (some bm)]) (star (allP X) (star (mapP bm []) none_))))))) from N3.perm (by
            show star (blkP w6.heap.size 143 #[.slice A6 L.length c6, .int .i64 0, .bool false, .slice none 0 0]) (star (nrow (freshT L) none 0) (star (orow (freshT L) A6 c6) (star (rowP 140 1 (.slice A1 X.length c1) X.length (ptrs X)) (star (blkP b 139 #[.slice A1 X.length c1, .map (some bm)]) (star (allP X) (star (mapP bm []) none_)))))) = _
            ac_rfl))
          have SQ2 := Lib.hid ((taskP_stable w6.heap.size (freshT L)).star SQ1.out)
          have N5 := Holds.alloc (show Holds bm w _ (star (rowP 140 1 (.slice A1 X.length c1) X.length (ptrs X)) (star (taskP w6.heap.size (freshT L)) (star (blkP b 139 #[.slice A1 X.length c1, .map (some bm)]) (star (allP X) (star (mapP bm []) none_))))) from N4.perm (by ac_rfl)) ((rowP_stable _ _ _ _ _).star SQ2.out) (.cells #[.pointer (some ⟨w6.heap.size, 0, none⟩)] 140)
          have N6 := Lib.hid N5
          have RW := Lib.hid N5.row
          have SRC := Lib.hid (show U.Src ((w6.alloc (.cells #[.slice A6 L.length c6, .int .i64 0, .bool false, .slice none 0 0] 143)).alloc (.cells #[.pointer (some ⟨w6.heap.size, 0, none⟩)] 140)) (some ⟨w6.heap.size + 1, 0, none⟩) 1 1 [.pointer (some ⟨w6.heap.size, 0, none⟩)] from by
            have h := U.Src.fresh (w6.alloc (.cells #[.slice A6 L.length c6, .int .i64 0, .bool false, .slice none 0 0] 143)) #[.pointer (some ⟨w6.heap.size, 0, none⟩)] 140 1 1 rfl
            rw [size_alloc] at h
            exact h)
          refine step_app _ (by rfl) EP (.tmp 19) (.tmp 24) (by rfl) RW.out SRC.out 1 (by simp [Act.eval, Act.put]) (by simp [Act.eval, Act.put]) (by simp [Value.oneCell']) (by have := HXL.out; have := HLT.out; unfold maxLen; omega) (by have := HXL.out; have := HLT.out; omega) ?_
          intro A9 c9 w9 hr9 hg9 hl9
          have N7 := Holds.grew N6.out SQ2.out hr9 hg9 hl9
          have N8 : Holds bm w w9 (star (blkP b 139 #[.slice A1 X.length c1, .map (some bm)]) (star (rowP 140 1 (.slice A9 (X.length + 1) c9) (X.length + 1) (ptrs X ++ [.pointer (some ⟨w6.heap.size, 0, none⟩)])) (star (taskP w6.heap.size (freshT L)) (star (allP X) (star (mapP bm []) none_))))) := N7.perm (by ac_rfl)
          have SQ3 := Lib.hid ((rowP_stable 140 1 (.slice A9 (X.length + 1) c9) (X.length + 1) (ptrs X ++ [.pointer (some ⟨w6.heap.size, 0, none⟩)])).star ((taskP_stable w6.heap.size (freshT L)).star ((allP_stable X).star ((mapP_stable bm []).star none_stable))))
          have a9 := (blk_at' N8).cell 0
          have f9 := (blk_at' N8).free 0
          have N9 := Lib.hid (N8.setBlk SQ3.out 0 (.slice A9 (X.length + 1) c9))
          clear N1 N2 N3 N4 N5 N7 N8 hr9 hg9 hl9
          refine hK.out _ _ trivial (fun hHeld => ?_)
          clear hK K
          (try simp only [Act.put, List.setIfInBounds_toArray, List.set_cons_zero, List.set_cons_succ])
          refine wpAnyH_take (i := 11) (oi := _) (v := ?_) (by simp only [List.getElem?_toArray, List.getElem?_cons_succ, List.getElem?_cons_zero]; rfl) (by kernel_rfl) (by kernel_rfl) (by kernel_rfl) (fun _ _ _ h => h) (Or.inl ⟨by rfl, ?_⟩) (by assumption) ?_
          rotate_left
          · (intro w hSw; (try dsimp only at hSw); go_simp; (try with_reducible rfl))
          (try simp only [Act.put, List.setIfInBounds_toArray, List.set_cons_zero, List.set_cons_succ])
          refine wpAnyH_take (i := 12) (oi := _) (v := ?_) (by simp only [List.getElem?_toArray, List.getElem?_cons_succ, List.getElem?_cons_zero]; rfl) (by kernel_rfl) (by kernel_rfl) (by kernel_rfl) (fun _ _ _ h => h) (Or.inl ⟨by rfl, ?_⟩) (by assumption) ?_
          rotate_left
          · (intro w hSw; (try dsimp only at hSw); go_simp; (try with_reducible rfl))
          (try simp only [Act.put, List.setIfInBounds_toArray, List.set_cons_zero, List.set_cons_succ])
          refine wpAnyH_ready (rs := [13]) (by kernel_rfl) (by simp) ?_
          refine AllReadyH.cons (o := _) (by simp only [List.getElem?_toArray, List.getElem?_cons_succ, List.getElem?_cons_zero]; rfl) (fun K hK => ?_) AllReadyH.nil
          go_simp
          refine hK.out _ _ (trivial) (fun hHeld => ?_)
          clear hK K
          (try simp only [Act.put, List.setIfInBounds_toArray, List.set_cons_zero, List.set_cons_succ])
          refine wpAnyH_done (by kernel_rfl) ?_ _
          refine NoPanic.normal ?_
          clear a0 a6 a7 a8
          have hXn : (X ++ [(w6.heap.size, freshT L)]).length = X.length + 1 := by simp
          have hPn : ptrs (X ++ [(w6.heap.size, freshT L)]) = ptrs X ++ [.pointer (some ⟨w6.heap.size, 0, none⟩)] := by simp [ptrs]
          have N10 := Lib.hid (core_close (b := b) (bm := bm) (X := X ++ [(w6.heap.size, freshT L)]) (A := A9) (c := c9) (Q := star (mapP bm []) none_) (by
            rw [hXn, hPn, allP_push]
            exact N9.out.perm (by
              show star (blkP b 139 #[.slice A9 (X.length + 1) c9, .map (some bm)]) _ = _
              ac_rfl)))
          clear hXn hPn
          have hTT := hTS
          go_wp2_with fail
          go_roundw
          case rel => exact ⟨k + 1, X ++ [(w6.heap.size, freshT L)], by have := HLT.out; omega, by go_num, by rw [List.map_append, HX.out, List.take_add_one, HT.out]; simp, N10.out⟩
          case measure => have := HLT.out; simp [intOf]; omega
        · go_simp
          refine hK.out _ _ (trivial) (fun hHeld => ?_)
          clear hK K
          (try simp only [Act.put, List.setIfInBounds_toArray, List.set_cons_zero, List.set_cons_succ])
          refine wpAnyH_ready (rs := [4, 9]) (by kernel_rfl) (by simp) ?_
          refine AllReadyH.cons (o := _) (by simp only [List.getElem?_toArray, List.getElem?_cons_succ, List.getElem?_cons_zero]; rfl) (fun K hK => ?_) (AllReadyH.cons (o := _) (by simp only [List.getElem?_toArray, List.getElem?_cons_succ, List.getElem?_cons_zero]; rfl) (fun K hK => ?_) AllReadyH.nil)
          · go_simp
            refine hK.out _ _ (trivial) (fun hHeld => ?_)
            clear hK K
            (try simp only [Act.put, List.setIfInBounds_toArray, List.set_cons_zero, List.set_cons_succ])
            refine wpAnyH_ready (rs := [9]) (by kernel_rfl) (by simp) ?_
            refine AllReadyH.cons (o := _) (by simp only [List.getElem?_toArray, List.getElem?_cons_succ, List.getElem?_cons_zero]; rfl) (fun K hK => ?_) AllReadyH.nil
            go_simp
            refine hK.out _ _ (trivial) (fun hHeld => ?_)
            clear hK K
            (try simp only [Act.put, List.setIfInBounds_toArray, List.set_cons_zero, List.set_cons_succ])
            refine wpAnyH_ready (rs := [10]) (by kernel_rfl) (by simp) ?_
            refine AllReadyH.cons (o := _) (by simp only [List.getElem?_toArray, List.getElem?_cons_succ, List.getElem?_cons_zero]; rfl) (fun K hK => ?_) AllReadyH.nil
            have SQ1 := Lib.hid ((blkP_stable b 139 #[.slice A1 X.length c1, .map (some bm)]).star ((allP_stable X).star ((mapP_stable bm []).star none_stable)))
            have N1 := Holds.newRow (show Holds bm w wr (star (rowP 140 1 (.slice A1 X.length c1) X.length (ptrs X)) (star (blkP b 139 #[.slice A1 X.length c1, .map (some bm)]) (star (allP X) (star (mapP bm []) none_)))) from G1.out.perm (by ac_rfl)) ((rowP_stable _ _ _ _ _).star SQ1.out) R6.out K6.out (fun k hk => by have := F6.out k hk; simpa using this)
            have N2 := N1.newRow ((rowP_stable _ _ _ _ _).star ((rowP_stable _ _ _ _ _).star SQ1.out)) (Row.nil w6 3 1) (Keep.same _ _) (fun k hk => by simp [Value.ownBlock] at hk)
            have N3 := N2.newBlk ((rowP_stable _ _ _ _ _).star ((rowP_stable _ _ _ _ _).star ((rowP_stable _ _ _ _ _).star SQ1.out))) 143 #[.slice A6 L.length c6, .int .i64 0, .bool false, .slice none 0 0]
            have N4 := task_close (T := freshT L) (A := A6) (A' := none) (c := c6) (c' := 0) (show Holds bm w _ (star (blkP w6.heap.size 143 #[.slice A6 L.length c6, .int .i64 0, .bool false, .slice none 0 0]) (star (orow (freshT L) A6 c6) (star (nrow (freshT L) none 0) (star (rowP 140 1 (.slice A1 X.length c1) X.length (ptrs X)) (star (blkP b 139 #[.slice A1 X.length c1, .map (some bm)]) (star (allP X) (star (mapP bm []) none_))))))) from N3.perm (by
              show star (blkP w6.heap.size 143 #[.slice A6 L.length c6, .int .i64 0, .bool false, .slice none 0 0]) (star (nrow (freshT L) none 0) (star (orow (freshT L) A6 c6) (star (rowP 140 1 (.slice A1 X.length c1) X.length (ptrs X)) (star (blkP b 139 #[.slice A1 X.length c1, .map (some bm)]) (star (allP X) (star (mapP bm []) none_)))))) = _
              ac_rfl))
            have SQ2 := Lib.hid ((taskP_stable w6.heap.size (freshT L)).star SQ1.out)
            have N5 := Holds.alloc (show Holds bm w _ (star (rowP 140 1 (.slice A1 X.length c1) X.length (ptrs X)) (star (taskP w6.heap.size (freshT L)) (star (blkP b 139 #[.slice A1 X.length c1, .map (some bm)]) (star (allP X) (star (mapP bm []) none_))))) from N4.perm (by ac_rfl)) ((rowP_stable _ _ _ _ _).star SQ2.out) (.cells #[.pointer (some ⟨w6.heap.size, 0, none⟩)] 140)
            have N6 := Lib.hid N5
            have RW := Lib.hid N5.row
            have SRC := Lib.hid (show U.Src ((w6.alloc (.cells #[.slice A6 L.length c6, .int .i64 0, .bool false, .slice none 0 0] 143)).alloc (.cells #[.pointer (some ⟨w6.heap.size, 0, none⟩)] 140)) (some ⟨w6.heap.size + 1, 0, none⟩) 1 1 [.pointer (some ⟨w6.heap.size, 0, none⟩)] from by
              have h := U.Src.fresh (w6.alloc (.cells #[.slice A6 L.length c6, .int .i64 0, .bool false, .slice none 0 0] 143)) #[.pointer (some ⟨w6.heap.size, 0, none⟩)] 140 1 1 rfl
              rw [size_alloc] at h
              exact h)
            refine step_app _ (by rfl) EP (.tmp 19) (.tmp 24) (by rfl) RW.out SRC.out 1 (by simp [Act.eval, Act.put]) (by simp [Act.eval, Act.put]) (by simp [Value.oneCell']) (by have := HXL.out; have := HLT.out; unfold maxLen; omega) (by have := HXL.out; have := HLT.out; omega) ?_
            intro A9 c9 w9 hr9 hg9 hl9
            have N7 := Holds.grew N6.out SQ2.out hr9 hg9 hl9
            have N8 : Holds bm w w9 (star (blkP b 139 #[.slice A1 X.length c1, .map (some bm)]) (star (rowP 140 1 (.slice A9 (X.length + 1) c9) (X.length + 1) (ptrs X ++ [.pointer (some ⟨w6.heap.size, 0, none⟩)])) (star (taskP w6.heap.size (freshT L)) (star (allP X) (star (mapP bm []) none_))))) := N7.perm (by ac_rfl)
            have SQ3 := Lib.hid ((rowP_stable 140 1 (.slice A9 (X.length + 1) c9) (X.length + 1) (ptrs X ++ [.pointer (some ⟨w6.heap.size, 0, none⟩)])).star ((taskP_stable w6.heap.size (freshT L)).star ((allP_stable X).star ((mapP_stable bm []).star none_stable))))
            have a9 := (blk_at' N8).cell 0
            have f9 := (blk_at' N8).free 0
            have N9 := Lib.hid (N8.setBlk SQ3.out 0 (.slice A9 (X.length + 1) c9))
            clear N1 N2 N3 N4 N5 N7 N8 hr9 hg9 hl9
            refine hK.out _ _ trivial (fun hHeld => ?_)
            clear hK K
            (try simp only [Act.put, List.setIfInBounds_toArray, List.set_cons_zero, List.set_cons_succ])
            refine wpAnyH_take (i := 11) (oi := _) (v := ?_) (by simp only [List.getElem?_toArray, List.getElem?_cons_succ, List.getElem?_cons_zero]; rfl) (by kernel_rfl) (by kernel_rfl) (by kernel_rfl) (fun _ _ _ h => h) (Or.inl ⟨by rfl, ?_⟩) (by assumption) ?_
            rotate_left
            · (intro w hSw; (try dsimp only at hSw); go_simp; (try with_reducible rfl))
            (try simp only [Act.put, List.setIfInBounds_toArray, List.set_cons_zero, List.set_cons_succ])
            refine wpAnyH_take (i := 12) (oi := _) (v := ?_) (by simp only [List.getElem?_toArray, List.getElem?_cons_succ, List.getElem?_cons_zero]; rfl) (by kernel_rfl) (by kernel_rfl) (by kernel_rfl) (fun _ _ _ h => h) (Or.inl ⟨by rfl, ?_⟩) (by assumption) ?_
            rotate_left
            · (intro w hSw; (try dsimp only at hSw); go_simp; (try with_reducible rfl))
            (try simp only [Act.put, List.setIfInBounds_toArray, List.set_cons_zero, List.set_cons_succ])
            refine wpAnyH_ready (rs := [13]) (by kernel_rfl) (by simp) ?_
            refine AllReadyH.cons (o := _) (by simp only [List.getElem?_toArray, List.getElem?_cons_succ, List.getElem?_cons_zero]; rfl) (fun K hK => ?_) AllReadyH.nil
            go_simp
            refine hK.out _ _ (trivial) (fun hHeld => ?_)
            clear hK K
            (try simp only [Act.put, List.setIfInBounds_toArray, List.set_cons_zero, List.set_cons_succ])
            refine wpAnyH_done (by kernel_rfl) ?_ _
            refine NoPanic.normal ?_
            clear a0 a6 a7 a8
            have hXn : (X ++ [(w6.heap.size, freshT L)]).length = X.length + 1 := by simp
            have hPn : ptrs (X ++ [(w6.heap.size, freshT L)]) = ptrs X ++ [.pointer (some ⟨w6.heap.size, 0, none⟩)] := by simp [ptrs]
            have N10 := Lib.hid (core_close (b := b) (bm := bm) (X := X ++ [(w6.heap.size, freshT L)]) (A := A9) (c := c9) (Q := star (mapP bm []) none_) (by
              rw [hXn, hPn, allP_push]
              exact N9.out.perm (by
                show star (blkP b 139 #[.slice A9 (X.length + 1) c9, .map (some bm)]) _ = _
                ac_rfl)))
            clear hXn hPn
            have hTT := hTS
            go_wp2_with fail
            go_roundw
            case rel => exact ⟨k + 1, X ++ [(w6.heap.size, freshT L)], by have := HLT.out; omega, by go_num, by rw [List.map_append, HX.out, List.take_add_one, HT.out]; simp, N10.out⟩
            case measure => have := HLT.out; simp [intOf]; omega
          · go_simp
            refine hK.out _ _ (trivial) (fun hHeld => ?_)
            clear hK K
            (try simp only [Act.put, List.setIfInBounds_toArray, List.set_cons_zero, List.set_cons_succ])
            refine wpAnyH_ready (rs := [4]) (by kernel_rfl) (by simp) ?_
            refine AllReadyH.cons (o := _) (by simp only [List.getElem?_toArray, List.getElem?_cons_succ, List.getElem?_cons_zero]; rfl) (fun K hK => ?_) AllReadyH.nil
            go_simp
            refine hK.out _ _ (trivial) (fun hHeld => ?_)
            clear hK K
            (try simp only [Act.put, List.setIfInBounds_toArray, List.set_cons_zero, List.set_cons_succ])
            refine wpAnyH_ready (rs := [10]) (by kernel_rfl) (by simp) ?_
            refine AllReadyH.cons (o := _) (by simp only [List.getElem?_toArray, List.getElem?_cons_succ, List.getElem?_cons_zero]; rfl) (fun K hK => ?_) AllReadyH.nil
            have SQ1 := Lib.hid ((blkP_stable b 139 #[.slice A1 X.length c1, .map (some bm)]).star ((allP_stable X).star ((mapP_stable bm []).star none_stable)))
            have N1 := Holds.newRow (show Holds bm w wr (star (rowP 140 1 (.slice A1 X.length c1) X.length (ptrs X)) (star (blkP b 139 #[.slice A1 X.length c1, .map (some bm)]) (star (allP X) (star (mapP bm []) none_)))) from G1.out.perm (by ac_rfl)) ((rowP_stable _ _ _ _ _).star SQ1.out) R6.out K6.out (fun k hk => by have := F6.out k hk; simpa using this)
            have N2 := N1.newRow ((rowP_stable _ _ _ _ _).star ((rowP_stable _ _ _ _ _).star SQ1.out)) (Row.nil w6 3 1) (Keep.same _ _) (fun k hk => by simp [Value.ownBlock] at hk)
            have N3 := N2.newBlk ((rowP_stable _ _ _ _ _).star ((rowP_stable _ _ _ _ _).star ((rowP_stable _ _ _ _ _).star SQ1.out))) 143 #[.slice A6 L.length c6, .int .i64 0, .bool false, .slice none 0 0]
            have N4 := task_close (T := freshT L) (A := A6) (A' := none) (c := c6) (c' := 0) (show Holds bm w _ (star (blkP w6.heap.size 143 #[.slice A6 L.length c6, .int .i64 0, .bool false, .slice none 0 0]) (star (orow (freshT L) A6 c6) (star (nrow (freshT L) none 0) (star (rowP 140 1 (.slice A1 X.length c1) X.length (ptrs X)) (star (blkP b 139 #[.slice A1 X.length c1, .map (some bm)]) (star (allP X) (star (mapP bm []) none_))))))) from N3.perm (by
              show star (blkP w6.heap.size 143 #[.slice A6 L.length c6, .int .i64 0, .bool false, .slice none 0 0]) (star (nrow (freshT L) none 0) (star (orow (freshT L) A6 c6) (star (rowP 140 1 (.slice A1 X.length c1) X.length (ptrs X)) (star (blkP b 139 #[.slice A1 X.length c1, .map (some bm)]) (star (allP X) (star (mapP bm []) none_)))))) = _
              ac_rfl))
            have SQ2 := Lib.hid ((taskP_stable w6.heap.size (freshT L)).star SQ1.out)
            have N5 := Holds.alloc (show Holds bm w _ (star (rowP 140 1 (.slice A1 X.length c1) X.length (ptrs X)) (star (taskP w6.heap.size (freshT L)) (star (blkP b 139 #[.slice A1 X.length c1, .map (some bm)]) (star (allP X) (star (mapP bm []) none_))))) from N4.perm (by ac_rfl)) ((rowP_stable _ _ _ _ _).star SQ2.out) (.cells #[.pointer (some ⟨w6.heap.size, 0, none⟩)] 140)
            have N6 := Lib.hid N5
            have RW := Lib.hid N5.row
            have SRC := Lib.hid (show U.Src ((w6.alloc (.cells #[.slice A6 L.length c6, .int .i64 0, .bool false, .slice none 0 0] 143)).alloc (.cells #[.pointer (some ⟨w6.heap.size, 0, none⟩)] 140)) (some ⟨w6.heap.size + 1, 0, none⟩) 1 1 [.pointer (some ⟨w6.heap.size, 0, none⟩)] from by
              have h := U.Src.fresh (w6.alloc (.cells #[.slice A6 L.length c6, .int .i64 0, .bool false, .slice none 0 0] 143)) #[.pointer (some ⟨w6.heap.size, 0, none⟩)] 140 1 1 rfl
              rw [size_alloc] at h
              exact h)
            refine step_app _ (by rfl) EP (.tmp 19) (.tmp 24) (by rfl) RW.out SRC.out 1 (by simp [Act.eval, Act.put]) (by simp [Act.eval, Act.put]) (by simp [Value.oneCell']) (by have := HXL.out; have := HLT.out; unfold maxLen; omega) (by have := HXL.out; have := HLT.out; omega) ?_
            intro A9 c9 w9 hr9 hg9 hl9
            have N7 := Holds.grew N6.out SQ2.out hr9 hg9 hl9
            have N8 : Holds bm w w9 (star (blkP b 139 #[.slice A1 X.length c1, .map (some bm)]) (star (rowP 140 1 (.slice A9 (X.length + 1) c9) (X.length + 1) (ptrs X ++ [.pointer (some ⟨w6.heap.size, 0, none⟩)])) (star (taskP w6.heap.size (freshT L)) (star (allP X) (star (mapP bm []) none_))))) := N7.perm (by ac_rfl)
            have SQ3 := Lib.hid ((rowP_stable 140 1 (.slice A9 (X.length + 1) c9) (X.length + 1) (ptrs X ++ [.pointer (some ⟨w6.heap.size, 0, none⟩)])).star ((taskP_stable w6.heap.size (freshT L)).star ((allP_stable X).star ((mapP_stable bm []).star none_stable))))
            have a9 := (blk_at' N8).cell 0
            have f9 := (blk_at' N8).free 0
            have N9 := Lib.hid (N8.setBlk SQ3.out 0 (.slice A9 (X.length + 1) c9))
            clear N1 N2 N3 N4 N5 N7 N8 hr9 hg9 hl9
            refine hK.out _ _ trivial (fun hHeld => ?_)
            clear hK K
            (try simp only [Act.put, List.setIfInBounds_toArray, List.set_cons_zero, List.set_cons_succ])
            refine wpAnyH_take (i := 11) (oi := _) (v := ?_) (by simp only [List.getElem?_toArray, List.getElem?_cons_succ, List.getElem?_cons_zero]; rfl) (by kernel_rfl) (by kernel_rfl) (by kernel_rfl) (fun _ _ _ h => h) (Or.inl ⟨by rfl, ?_⟩) (by assumption) ?_
            rotate_left
            · (intro w hSw; (try dsimp only at hSw); go_simp; (try with_reducible rfl))
            (try simp only [Act.put, List.setIfInBounds_toArray, List.set_cons_zero, List.set_cons_succ])
            refine wpAnyH_take (i := 12) (oi := _) (v := ?_) (by simp only [List.getElem?_toArray, List.getElem?_cons_succ, List.getElem?_cons_zero]; rfl) (by kernel_rfl) (by kernel_rfl) (by kernel_rfl) (fun _ _ _ h => h) (Or.inl ⟨by rfl, ?_⟩) (by assumption) ?_
            rotate_left
            · (intro w hSw; (try dsimp only at hSw); go_simp; (try with_reducible rfl))
            (try simp only [Act.put, List.setIfInBounds_toArray, List.set_cons_zero, List.set_cons_succ])
            refine wpAnyH_ready (rs := [13]) (by kernel_rfl) (by simp) ?_
            refine AllReadyH.cons (o := _) (by simp only [List.getElem?_toArray, List.getElem?_cons_succ, List.getElem?_cons_zero]; rfl) (fun K hK => ?_) AllReadyH.nil
            go_simp
            refine hK.out _ _ (trivial) (fun hHeld => ?_)
            clear hK K
            (try simp only [Act.put, List.setIfInBounds_toArray, List.set_cons_zero, List.set_cons_succ])
            refine wpAnyH_done (by kernel_rfl) ?_ _
            refine NoPanic.normal ?_
            clear a0 a6 a7 a8
            have hXn : (X ++ [(w6.heap.size, freshT L)]).length = X.length + 1 := by simp
            have hPn : ptrs (X ++ [(w6.heap.size, freshT L)]) = ptrs X ++ [.pointer (some ⟨w6.heap.size, 0, none⟩)] := by simp [ptrs]
            have N10 := Lib.hid (core_close (b := b) (bm := bm) (X := X ++ [(w6.heap.size, freshT L)]) (A := A9) (c := c9) (Q := star (mapP bm []) none_) (by
              rw [hXn, hPn, allP_push]
              exact N9.out.perm (by
                show star (blkP b 139 #[.slice A9 (X.length + 1) c9, .map (some bm)]) _ = _
                ac_rfl)))
            clear hXn hPn
            have hTT := hTS
            go_wp2_with fail
            go_roundw
            case rel => exact ⟨k + 1, X ++ [(w6.heap.size, freshT L)], by have := HLT.out; omega, by go_num, by rw [List.map_append, HX.out, List.take_add_one, HT.out]; simp, N10.out⟩
            case measure => have := HLT.out; simp [intOf]; omega
    · obtain rfl : k = TS.length := by omega
      have e : TS.take TS.length = TS := List.take_length
      have HX2 := HX.out
      rw [e] at HX2
      have HX3 := Lib.hid HX2
      clear e HX2
      go_wp2_with fail
      go_ret
      exact ⟨b, bm, X, rfl, HX3.out, by rw [HG.out]; exact H.out⟩
end Go.Proofs.Ytmohpjkbhpgidaa.A
