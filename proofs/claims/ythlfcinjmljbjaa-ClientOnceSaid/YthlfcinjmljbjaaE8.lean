/-
  The client: hold, where another Held of the name is held.
-/
import Derived.Test.YthlfcinjmljbjaaE7
namespace Go.Proofs.Ythlfcinjmljbjaa.A
open Go.RowKit Go.Proofs.Ythlfcinjmljbjaa.U
set_option linter.unusedVariables false
set_option linter.unusedSimpArgs false
set_option maxRecDepth 100000

/-- One cell of a row is stored. -/
theorem row_put1 {w : World} {e : TypeId} {size n c j : Nat} {ad : Addr} {xs : List Value} (h : Row w e size (.slice (some ad) n c) n xs) (hj : j < n * size) (hc : n ≤ c) (u : Value) :
    (∃ v, w.cell? (ad.add j) = some v) ∧ w.frozen? (ad.add j) = false ∧ Row (w.setCell (ad.add j) u) e size (.slice (some ad) n c) n (xs.set j u) ∧ Keep (fun i => (Value.slice (some ad) n c).ownBlock = some i) w (w.setCell (ad.add j) u) := by
  rcases h.2 with ⟨h0, _⟩ | ⟨g, o, cap, cur, hv, hb, h1, h2, h3, h4⟩
  · cases h0
  · injection hv with e1 _ e3
    injection e1 with e1
    subst e1 e3
    rw [addAt]
    have hlt : o + j < cur.size := by
      have : n * size ≤ c * size := Nat.mul_le_mul_right _ h1
      omega
    refine ⟨⟨cur[o + j], ?_⟩, hb.free _, ⟨by rw [List.length_set, h.1], .inr ⟨g, o, c, cur.setIfInBounds (o + j) u, rfl, hb.put _ u, h1, h2, by simpa using h3, ?_⟩⟩, (Keep.same (fun i => (Value.slice (some ⟨g, o, none⟩) n c).ownBlock = some i) w).set (p := ⟨g, o + j, none⟩) (.inl rfl) u⟩
    · rw [hb.cell]; simp [hlt]
    · rw [Array.toList_setIfInBounds, List.drop_set, if_neg (by omega), List.take_set, Nat.add_sub_cancel_left, h4]
theorem hds_set (x : Hd) : ∀ (L : List Hd) (k : Nat), hds (L.set k x) = (((hds L).set (k * 3) (.string x.nm)).set (k * 3 + 1) (.bool x.rd)).set (k * 3 + 2) (.int .u64 x.tk)
  | [], k => by simp [hds]
  | y :: L, 0 => by
    rw [List.set_cons_zero, hds_cons, hds_cons]
    rfl
  | y :: L, k + 1 => by
    rw [List.set_cons_succ, hds_cons, hds_cons, hds_set x L k]
    have e : (k + 1) * 3 = k * 3 + 3 := by omega
    rw [e]
    rfl
theorem Holds.put1 {B : Nat} {w0 w : World} {Q : SP} {e : TypeId} {size n c j : Nat} {ad : Addr} {xs : List Value} (h : Holds B w0 w (star (rowP e size (.slice (some ad) n c) n xs) Q)) (hQ : Stable Q) (hj : j < n * size) (u : Value) :
    Holds B w0 (w.setCell (ad.add j) u) (star (rowP e size (.slice (some ad) n c) n (xs.set j u)) Q) ∧ (∃ v, w.cell? (ad.add j) = some v) ∧ w.frozen? (ad.add j) = false := by
  have hr := h.row
  obtain ⟨A, c', he, hnc, _⟩ := hr.form
  injection he with _ _ he
  subst he
  obtain ⟨h1, h2, h3, h4⟩ := row_put1 hr hj hnc u
  exact ⟨h.did_left hQ fun F ⟨_, hF⟩ => ⟨F, ⟨h3, hF⟩, ⟨h4.os, h4.tape, h4.output, h4.size, fun i hlt hi => h4.block i hlt (fun h => hi ((hF i).2 h))⟩, fun k hk => .inl hk⟩, h1, h2⟩
theorem hold32put {B : Nat} {w0 w : World} {Q : SP} {b : Nat} {S : CS} (h : Holds B w0 w (star (cliP b S) Q)) (hQ : Stable Q) (hn : S.L.length ≤ 500000) (hr : Rise S.L) (x y : Hd) (hl : lookH S.L x.nm = some y) (hxy : y ≠ x) :
    Calls Try.prog 32 #[.pointer (some ⟨b, 0, none⟩), x.val] w (fun e w' => unit_ e ∧ Holds B w0 w' (star (cliP b (S.withL (holdL S.L x))) Q)) := by
  have hu := Try.underlying62
  have hu2 := Try.underlying46
  obtain ⟨p, A, c, h1⟩ := cli_open h
  have h1 := h1.alloc ((blkP_stable _ _ _).star ((opP_stable _ _).star ((rowP_stable _ _ _ _ _).star hQ))) (.cells x.cs 46)
  have B1 : Blk (w.alloc (.cells x.cs 46)) b 62 (S.cs p A S.L.length c) := blk_at h1
  have R1 : Row (w.alloc (.cells x.cs 46)) 46 3 (.slice A S.L.length c) S.L.length (hds S.L) := (show Holds B w0 _ (star (lrow S A c) (star (blkP b 62 (S.cs p A S.L.length c)) (star (opP p S.op) Q))) from h1.perm (by ac_rfl)).row
  have Z := Blk.fresh w 46 x.cs
  have HA := Lib.hid (at27 _ p A c B1 R1.src (by omega) hr x.nm)
  have HH := Lib.hid h1
  have HQ := Lib.hid hQ
  have RI := Lib.hid hr
  have RR := Lib.hid R1
  have BB := Lib.hid B1
  have HN := Lib.hid hn
  have ZZ := Lib.hid Z
  have z0 := Z.cell 0
  clear h h1 B1 R1 hQ hr Z
  go_enter Try.func32, Try.ntmps32
  go_wp2_with fail
  refine HA.out.mono ?_
  rintro e w3 ⟨k, t, rfl, hk, h2, h3, h4⟩
  have G3 := Lib.hid (HH.out.kept ((blkP_stable _ _ _).star ((opP_stable _ _).star ((rowP_stable _ _ _ _ _).star HQ.out))) h4)
  have B3 := Lib.hid (BB.out.keep h4 (fun h => h))
  have R3 := Lib.hid (RR.out.keep h4 (fun _ _ h => h))
  have KK := Lib.hid h4
  have Z3 := ZZ.out.keep h4 (fun h => h)
  have F := found_look RI.out h2 h3
  have H2 := Lib.hid h2
  clear h4 h3 h2 HH z0
  rcases F with ⟨rfl, y1, hy, he, hl'⟩ | ⟨rfl, hl'⟩
  · obtain rfl : y1 = y := by rw [hl] at hl'; injection hl' with e; exact e.symm
    obtain ⟨ad, y', rfl, hy', hat⟩ := hd_at R3.out.src (show k < S.L.length from (List.getElem?_eq_some_iff.1 hy).1)
    obtain rfl : y' = y1 := by rw [hy] at hy'; injection hy' with e; exact e.symm
    obtain ⟨d0, d1, d2⟩ := hat
    have b11 := B3.out.cell 11
    have hks := (List.getElem?_eq_some_iff.1 hy).1
    have y0 := Z3.cell 0
    have y1 := Z3.cell 1
    have y2 := Z3.cell 2
    have EQ := fun w => neq46 w y' x
    have E := Lib.hid (hold_set RI.out H2.out hy he)
    rw [show eqH y' x = false by unfold eqH; simpa using hxy] at EQ
    unfold Hd.cs at EQ
    have G4 : Holds B w0 w3 (star (lrow S (some ad) c) (star (blkP b 62 (S.cs p (some ad) S.L.length c)) (star (opP p S.op) Q))) := G3.out.perm (by ac_rfl)
    have SQ := Lib.hid ((blkP_stable b 62 (S.cs p (some ad) S.L.length c)).star ((opP_stable p S.op).star HQ.out))
    obtain ⟨P0, ⟨v0, q0⟩, f0⟩ := Holds.put1 G4 SQ.out (j := k * 3) (by omega) (.string x.nm)
    obtain ⟨P1, ⟨v1, q1⟩, f1⟩ := Holds.put1 P0 SQ.out (j := k * 3 + 1) (by omega) (.bool x.rd)
    obtain ⟨P2, ⟨v2, q2⟩, f2⟩ := Holds.put1 P1 SQ.out (j := k * 3 + 2) (by omega) (.int .u64 x.tk)
    rw [addLater ad (k * 3) 1 (by omega)] at q1 f1 P1 P2 q2 f2
    rw [addLater ad (k * 3) 2 (by omega)] at q2 f2 P2
    have HP := Lib.hid P2
    clear hy hy' he hl hl' Z3 hxy hn hk P0 P1 P2 G4
    go_wp2_with fail
    go_region
    all_goals go_wp2_with fail
    all_goals clear d0 d1 d2
    all_goals go_region
    all_goals go_wp2_with fail
    all_goals go_end0
    all_goals
      refine ⟨rfl, cli_close (p := p) (A := some ad) (c := c) ?_⟩
      have hlen : (S.withL (holdL S.L x)).L.length = S.L.length := by
        show (holdL S.L x).length = _
        rw [← E.out, List.length_set]
      have hcl : hds (S.withL (holdL S.L x)).L = (((hds S.L).set (k * 3) (.string x.nm)).set (k * 3 + 1) (.bool x.rd)).set (k * 3 + 2) (.int .u64 x.tk) := by
        show hds (holdL S.L x) = _
        rw [← E.out, hds_set]
      have HP2 : Holds B w0 _ (star (blkP b 62 (S.cs p (some ad) S.L.length c)) (star (opP p S.op) (star (rowP 46 3 (.slice (some ad) S.L.length c) S.L.length ((((hds S.L).set (k * 3) (.string x.nm)).set (k * 3 + 1) (.bool x.rd)).set (k * 3 + 2) (.int .u64 x.tk))) Q))) := HP.out.perm (by ac_rfl)
      show Holds B w0 _ (star (blkP b 62 (S.cs p (some ad) (S.withL (holdL S.L x)).L.length c)) (star (opP p S.op) (star (rowP 46 3 (.slice (some ad) (S.withL (holdL S.L x)).L.length c) (S.withL (holdL S.L x)).L.length (hds (S.withL (holdL S.L x)).L)) Q)))
      rw [hlen, hcl]
      refine HP2.kept ((blkP_stable _ _ _).star ((opP_stable _ _).star ((rowP_stable _ _ _ _ _).star HQ.out))) ?_
      repeat (first | exact Keep.same _ _ | apply Keep.drew)
  · rw [hl] at hl'; cases hl'
end Go.Proofs.Ythlfcinjmljbjaa.A
