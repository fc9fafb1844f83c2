/-
  The reference's rwlock beside other things; Unlock.
-/
import Derived.Test.YtmohpjkbhpgidaaRM
namespace Go.Proofs.Ytmohpjkbhpgidaa.A
open Go.RowKit Go.Proofs.Ytmohpjkbhpgidaa.U
set_option linter.unusedVariables false
set_option linter.unusedSimpArgs false
set_option maxRecDepth 100000

section
variable {B : Nat} {w0 w : World} {Q : SP} {b : Nat} {W : List Int} {wb : Bool} {L : List Wt}
theorem x_fits (h : Holds B w0 w (star (rrP b W wb L) Q)) (r : Bool) :
    Calls Try.prog 77 #[.pointer (some ⟨b, 0, none⟩), .bool r] w (fun e w' => e = .returned (.bool (openB W wb r)) ∧ w' = w) := by
  obtain ⟨F, u, v, hb, hr, hs, hF⟩ := h.left
  exact fits_calls w b v u W wb hb hs r
theorem x_rgive (h : Holds B w0 w (star (rrP b W wb L) Q)) (hQ : Stable Q) (hW : W.length ≤ 1000000) (x : Int) (r : Bool) :
    Calls Try.prog 78 #[.pointer (some ⟨b, 0, none⟩), .int .i64 x, .bool r] w (fun e w' => e = .returned (.tuple #[]) ∧ Holds B w0 w' (star (rrP b (putI W x) (!r) L) Q)) :=
  h.on_left hQ (post := fun e => e = .returned (.tuple #[])) fun F hm => rgive_calls w b F W wb L hm hW x r
theorem x_rlock (h : Holds B w0 w (star (rrP b W wb L) Q)) (hQ : Stable Q) (hL : L.length ≤ 1000000) (hW : W.length ≤ 1000000) (x : Int) (r : Bool) :
    Calls Try.prog 24 #[.pointer (some ⟨b, 0, none⟩), .int .i64 x, .bool r] w (fun e w' => e = .returned (.tuple #[.bool (rwLock W wb L x r).1, .int .i64 (rwLock W wb L x r).2.1]) ∧
      Holds B w0 w' (star (rrP b (rwLock W wb L x r).2.2.1 (rwLock W wb L x r).2.2.2.1 (rwLock W wb L x r).2.2.2.2) Q)) :=
  h.on_left hQ (post := fun e => e = .returned (.tuple #[.bool (rwLock W wb L x r).1, .int .i64 (rwLock W wb L x r).2.1])) fun F hm => rlock_calls w b F W wb L hm hL hW x r
theorem x_rlen (h : Holds B w0 w (star (rrP b W wb L) Q)) : ∃ (A : Option Addr) (c : Nat), w.cell? ⟨b, 2, none⟩ = some (.slice A L.length c) := by
  obtain ⟨F, u, v, hb, hr, hs, hF⟩ := h.left
  obtain ⟨A, c, rfl, _, _⟩ := hr.form
  exact ⟨A, c, hb.cell 2⟩
/-- Who waits in front, and the queue behind it. -/
theorem x_rnext {y : Wt} {l : List Wt} (h : Holds B w0 w (star (rrP b W wb (y :: l)) Q)) (hQ : Stable Q) :
    ∃ (ad : Addr) (c A2 : Nat × Option Addr), w.cell? ⟨b, 2, none⟩ = some (.slice (some ad) (l.length + 1) c.1) ∧ w.frozen? ⟨b, 2, none⟩ = false ∧ WtAt w ad y ∧
      (∀ w : World, (Instr.slice 27 (.slice (some ad) (l.length + 1) c.1) (some (.int .i64 1)) none none).run Try.prog w = .ok (.slice A2.2 l.length A2.1) w) ∧
      Holds B w0 (w.setCell ⟨b, 2, none⟩ (.slice A2.2 l.length A2.1)) (star (rrP b W wb l) Q) := by
  have H0 := h
  obtain ⟨F, ⟨F1, F2, ⟨u, v, hb, hr, hs, hF1⟩, h2, h3, h4⟩, hbl, hB, hF⟩ := h
  obtain ⟨A, c, rfl, hc1, hc2⟩ := hr.form
  obtain ⟨ad, y', rfl, hy, he⟩ := wt_at hr.src (show 0 < (y :: l).length by simp)
  injection hy with hy
  subst hy
  have ap := hr.apart hb (by decide)
  have aq := hs.apart hb (by decide)
  have he' : WtAt w ad y := by simpa [Addr.add] using he
  have hrd := hr.drop_ (k := 1) (by simp)
  refine ⟨ad, (c, none), (c - 1, if c = 1 then some ad else (some ad).map (·.add (1 * 3))), hb.cell 2, hb.free 2, he', fun w => run_from (P := Try.prog) w EW (some ad) (l.length + 1) c 1 1 rfl (by omega), ?_⟩
  have hob : ∀ k, (Value.slice (if c = 1 then some ad else (some ad).map (·.add (1 * 3))) l.length (c - 1)).ownBlock = some k → (Value.slice (some ad) (y :: l).length c).ownBlock = some k := by
    intro k hk
    split at hk
    · simpa [Value.ownBlock] using hk
    · simpa [Value.ownBlock, addBlock] using hk
  have hrl : Row w 119 3 (.slice (if c = 1 then some ad else (some ad).map (·.add (1 * 3))) l.length (c - 1)) l.length (wts l) := by
    have e := wts_drop (y :: l) 1
    rw [e] at hrd
    exact hrd
  have K : Keep (fun k => k = b) w (w.setCell ⟨b, 2, none⟩ (.slice (if c = 1 then some ad else (some ad).map (·.add (1 * 3))) l.length (c - 1))) := (Keep.same (fun k => k = b) w).set (p := ⟨b, 2, none⟩) (.inl rfl) _
  refine H0.step (fun k hk => hF k ((h4 k).2 hk)) ((rrP_step hF1 (K.wider fun i hi => .inl (.inl hi)) (hb.put 2 _) ?_ ?_ (fun k hk => .inl (hob k hk)) (fun k hk => .inl hk)).star hQ h2 h3)
  · exact hrl.keep K (fun g hg e => ap (by rw [hob g hg, e]))
  · exact hs.keep K (fun g hg e => aq (by rw [hg, e]))
end
def RRUnPost (B : Nat) (w0 : World) (Q : SP) (b : Nat) (q : List Int × Int × List Int × Bool × List Wt) (e : Ending) (w' : World) : Prop :=
  ∃ (A : Option Addr) (c : Nat), e = .returned (.tuple #[.slice A q.1.length c, .int .i64 q.2.1]) ∧ Holds B w0 w' (star (rowP 3 1 (.slice A q.1.length c) q.1.length (ints q.1)) (star (rrP b q.2.2.1 q.2.2.2.1 q.2.2.2.2) Q))
/-- The row of those who hold it is another one. -/
theorem x_rset {B : Nat} {w0 w w1 : World} {Q : SP} {b : Nat} {W W' : List Int} {wb : Bool} {L : List Wt} (h : Holds B w0 w (star (rrP b W wb L) Q)) (hQ : Stable Q) (hk : Keep Nothing w w1) {A : Option Addr} {c : Nat} (hr : Row w1 3 1 (.slice A W'.length c) W'.length (ints W'))
    (ho : ∀ k, (Value.slice A W'.length c).ownBlock = some k → w.heap.size ≤ k) : w1.frozen? ⟨b, 0, none⟩ = false ∧ (∃ u, w1.cell? ⟨b, 0, none⟩ = some u) ∧ Holds B w0 (w1.setCell ⟨b, 0, none⟩ (.slice A W'.length c)) (star (rrP b W' wb L) Q) := by
  have H0 := h
  obtain ⟨F, ⟨F1, F2, ⟨u, v, hb, hrv, hs, hF1⟩, h2, h3, h4⟩, hbl, hB, hF⟩ := h
  have ap := hrv.apart hb (by decide)
  have hb1 := hb.keep hk (fun h => h)
  have hlt := hb.lt
  refine ⟨hb1.free 0, ⟨u, hb1.cell 0⟩, H0.step (fun k hk => hF k ((h4 k).2 hk)) ((rrP_step hF1 ?_ (hb1.put 0 _) ?_ ?_ (fun k hk => .inl hk) (fun k hk => .inr (ho k hk))).star hQ h2 h3)⟩
  · exact (hk.wider (fun i h => h.elim)).set (p := ⟨b, 0, none⟩) (.inl (.inl rfl)) _
  · exact (hrv.keep hk (fun _ _ h => h)).far (p := ⟨b, 0, none⟩) ap _
  · exact hr.far (p := ⟨b, 0, none⟩) (fun e => by have := ho b e; omega) _
set_option maxHeartbeats 6400000 in
theorem x_rrunlock {B : Nat} {w0 w : World} {Q : SP} {b : Nat} {W : List Int} {wb : Bool} {L : List Wt} (h : Holds B w0 w (star (rrP b W wb L) Q)) (hQ : Stable Q) (hL : L.length ≤ 500000) (hW : W.length ≤ 500000) (x : Int) (r : Bool) :
    Calls Try.prog 21 #[.pointer (some ⟨b, 0, none⟩), .int .i64 x, .bool r] w (RRUnPost B w0 Q b (rwUnlock W wb L x r)) := by
  have hu := Try.underlying29
  have hu3 := Try.underlying119
  have H0 := Lib.hid h
  have SQ := Lib.hid hQ
  obtain ⟨F, u, v, hb, hr, hs, hF⟩ := h.left
  obtain ⟨A, c, rfl, hcc, _⟩ := hs.form
  have HI := Lib.hid (has_calls w A W.length c W x hs.src (by omega))
  have HD := Lib.hid (drop_calls w A W.length c W x hs.src (by omega))
  have hc0 := hb.cell 0
  have hc1 := hb.cell 1
  have NOT := Lib.hid (show rwUnlock W wb L x r = ([], 13, W, wb, L) → RRUnPost B w0 Q b (rwUnlock W wb L x r) (.returned (.tuple #[.slice none 0 0, .int .i64 13])) w from fun e2 => by
    rw [e2]
    have h1 : Holds B w0 w (star (rowP 3 1 (.slice none 0 0) 0 (ints [])) (star (rrP b W wb L) Q)) := H0.out.newRow ((rrP_stable b W wb L).star hQ) (Row.nil _ 3 1) (Keep.same _ _) (fun k hk => by simp [Value.ownBlock] at hk)
    exact ⟨none, 0, rfl, h1⟩)
  clear hb hr hs hF hQ h
  go_enter Try.func21, Try.ntmps21
  go_wp2_with fail
  cases hd : decide (x ∈ W) with
  | false =>
    rw [hd] at HI
    have E := Lib.hid (show rwUnlock W wb L x r = ([], 13, W, wb, L) by unfold rwUnlock; rw [hd]; simp)
    clear hd
    refine HI.out.mono ?_
    rintro e w1 ⟨rfl, rfl⟩
    go_wp2_with fail
    go_ret2
    exact NOT.out E.out
  | true =>
    rw [hd] at HI
    refine HI.out.mono ?_
    rintro e w1 ⟨rfl, rfl⟩
    cases hwr : (wb == r) with
    | true =>
      have E := Lib.hid (show rwUnlock W wb L x r = ([], 13, W, wb, L) by unfold rwUnlock; rw [hd]; simp at hwr; simp [hwr])
      clear hd
      go_wp2_with fail
      go_ret2
      exact NOT.out E.out
    | false =>
      have E := Lib.hid (show rwUnlock W wb L x r = ((drain (dropI W x) wb L).2.2.2, 0, (drain (dropI W x) wb L).1, (drain (dropI W x) wb L).2.1, (drain (dropI W x) wb L).2.2.1) by
        unfold rwUnlock; rw [hd]; rw [beq_eq_false_iff_ne] at hwr; simp [hwr])
      clear hd
      go_wp2_with fail
      refine HD.out.mono ?_
      rintro e w2 ⟨A2, c2, rfl, hr2, hk2, ho2⟩
      obtain ⟨f0, ⟨u0, e0⟩, h1⟩ := x_rset H0.out SQ.out hk2 hr2 ho2
      have H1 := Lib.hid h1
      clear hr2 hk2 ho2 h1 hc0 hc1
      have hdl : (dropI W x).length ≤ W.length := List.length_filter_le _ _
      go_wp2_with fail
      have H2 := Lib.hid (show Holds B w0 _ (star (rrP b (dropI W x) wb L) (star Q (rowP 3 1 (.slice none 0 0) 0 (ints [])))) from
        (H1.out.newRow ((rrP_stable b (dropI W x) wb L).star SQ.out) (Row.nil _ 3 1) (Keep.same _ _) (fun k hk => by simp [Value.ownBlock] at hk)).turn)
      go_loopw [8] (fun v8 wr2 => ∃ (W' : List Int) (wb' : Bool) (L' : List Wt) (got : List Int) (A8 : Option Addr) (c8 : Nat), v8 = .slice A8 got.length c8 ∧
        Holds B w0 wr2 (star (rrP b W' wb' L') (star Q (rowP 3 1 (.slice A8 got.length c8) got.length (ints got)))) ∧ L'.length + got.length = L.length ∧ W'.length + L'.length ≤ 1000000 ∧
        drain (dropI W x) wb L = ((drain W' wb' L').1, (drain W' wb' L').2.1, (drain W' wb' L').2.2.1, got ++ (drain W' wb' L').2.2.2)) (fun v8 _ => L.length - sliceLen v8)
      case atStart => exact ⟨dropI W x, wb, L, [], none, 0, by simp, H2.out, by simp, by omega, rfl⟩
      case round =>
        obtain ⟨W', wb', L', got, A8, c8, rfl, hh, hlen, hsz, hdr⟩ := hrel
        have H5 := Lib.hid hh
        have DR5 := Lib.hid hdr
        clear hh hdr
        have DONE := Lib.hid (show ∀ (l1 : List Wt), drain W' wb' L' = (W', wb', L', []) → RRUnPost B w0 Q b (rwUnlock W wb L x r) (.returned (.tuple #[.slice A8 got.length c8, .int .i64 0])) wr from fun _ hD => by
          rw [E.out, DR5.out, hD]
          show RRUnPost B w0 Q b (got ++ [], 0, W', wb', L') _ _
          rw [List.append_nil]
          exact ⟨A8, c8, rfl, H5.out.turn.turn⟩)
        cases L' with
        | nil =>
          obtain ⟨A2', c2', e2⟩ := x_rlen H5.out
          go_wp2_with fail
          go_ret2
          exact DONE.out [] rfl
        | cons y l =>
          obtain ⟨ad, cc, AA, e2, f2, ⟨p0, p1, p2⟩, _, _⟩ := x_rnext H5.out (SQ.out.star (rowP_stable _ _ _ _ _))
          have HO := Lib.hid (x_fits H5.out y.r)
          cases hop : openB W' wb' y.r with
          | false =>
            have D := Lib.hid (show drain W' wb' (y :: l) = (W', wb', y :: l, []) by unfold drain; rw [hop]; rfl)
            rw [hop] at HO
            clear hop
            go_wp2_with fail
            refine HO.out.mono ?_
            rintro e w6 ⟨rfl, rfl⟩
            go_wp2_with fail
            go_ret2
            exact DONE.out [] D.out
          | true =>
            have D := Lib.hid (show drain W' wb' (y :: l) = ((drain (putI W' y.t) (!y.r) l).1, (drain (putI W' y.t) (!y.r) l).2.1, (drain (putI W' y.t) (!y.r) l).2.2.1, y.t :: (drain (putI W' y.t) (!y.r) l).2.2.2) by
              conv => lhs; unfold drain
              rw [hop]; rfl)
            rw [hop] at HO
            clear hop
            have SR := Lib.hid (SQ.out.star (rowP_stable 3 1 (.slice A8 got.length c8) got.length (ints got)))
            have hsz' := hsz
            simp only [List.length_cons] at hsz'
            go_wp2_with fail
            refine HO.out.mono ?_
            rintro e w6 ⟨rfl, rfl⟩
            have HG := Lib.hid (x_rgive (H5.out.kept ((rrP_stable _ _ _ _).star SR.out) ((Keep.same Nothing w6).drew)) SR.out (by omega) y.t y.r)
            go_wp2_with fail
            refine region_tail 15 (by kernel_rfl) (by kernel_rfl) ?_
            simp only [List.take_succ_cons, List.take_zero, List.drop_succ_cons, List.drop_zero]
            repeat still_step
            refine wpStill_nil ?_
            go_wp2_with fail
            refine HG.out.mono ?_
            rintro e w7 ⟨rfl, h7⟩
            have H7 := Lib.hid h7
            clear h7 e2 f2 p0 p1 p2
            obtain ⟨ad7, cc7, AA7, e7, f7, ⟨q0, q1, q2⟩, _, _⟩ := x_rnext H7.out SR.out
            have RG := Lib.hid H7.out.turn.turn.row
            have SRC := Lib.hid (U.Src.one w7 (.int .i64 y.t) 3)
            have hg63 : got.length + 1 ≤ maxLen := by unfold maxLen; omega
            have hg8 : (got.length + 1) * 8 ≤ 140737488355328 := by omega
            go_wp2_with (at_builtin; refine wpList_app _ rfl E26 (.tmp 66) (.tmp 74) rfl (RG.out.alloc _) SRC.out 1 rfl rfl (by simp [Value.oneCell']) hg63 hg8 ?_)
            intro v9 w9 hr9 hg9 hl9
            obtain ⟨A9, c9, rfl, _, _⟩ := hr9.form
            have SW := Lib.hid ((rrP_stable b (putI W' y.t) (!y.r) (y :: l)).star SQ.out)
            have H8 := Lib.hid (show Holds B w0 w9 (star (rrP b (putI W' y.t) (!y.r) (y :: l)) (star Q (rowP 3 1 (.slice A9 (got.length + 1) c9) (got.length + 1) (ints (got ++ [y.t]))))) from
              (Holds.grew (H7.out.turn.turn.alloc ((rowP_stable 3 1 (.slice A8 got.length c8) got.length (ints got)).star SW.out) (.cells #[.int .i64 y.t] 3)) SW.out (by rw [ints_app]; exact hr9) hg9 (by
                rcases hl9 with h | h
                · exact .inl h
                · exact .inr (by rw [h]; simp))).turn)
            clear hr9 hg9 hl9 e7 f7 q0 q1 q2
            obtain ⟨ad8, cc8, AA8, e8, f8, _, hs8, h9⟩ := x_rnext H8.out (SQ.out.star (rowP_stable 3 1 (.slice A9 (got.length + 1) c9) (got.length + 1) (ints (got ++ [y.t]))))
            have H9 := Lib.hid h9
            clear h9
            go_wp2_with fail
            go_roundw
            case rel => exact ⟨putI W' y.t, !y.r, l, got ++ [y.t], A9, c9, by simp, by rw [List.length_append]; exact H9.out, by simp at hlen ⊢; omega, by rw [putI_len]; simp at hsz; omega, by rw [DR5.out, D.out]; simp⟩
            case measure => simp [sliceLen] at hlen ⊢; omega
end Go.Proofs.Ytmohpjkbhpgidaa.A
