/-
  The rwlock: Unlock.
-/
import Derived.Test.YtmohpjkbhpgidaaRE
namespace Go.Proofs.Ytmohpjkbhpgidaa.A
open Go.RowKit Go.Proofs.Ytmohpjkbhpgidaa.U
set_option linter.unusedVariables false
set_option linter.unusedSimpArgs false
set_option maxRecDepth 100000

def rwUnlock (W : List Int) (wr : Bool) (L : List Wt) (x : Int) (r : Bool) : List Int × Int × List Int × Bool × List Wt :=
  if decide (x ∈ W) && wr != r then ((drain (dropI W x) wr L).2.2.2, 0, (drain (dropI W x) wr L).1, (drain (dropI W x) wr L).2.1, (drain (dropI W x) wr L).2.2.1) else ([], 13, W, wr, L)
def RUnPost (B : Nat) (w0 : World) (Q : SP) (b : Nat) (q : List Int × Int × List Int × Bool × List Wt) (e : Ending) (w' : World) : Prop :=
  ∃ (A : Option Addr) (c : Nat), e = .returned (.tuple #[.slice A q.1.length c, .int .i64 q.2.1]) ∧ Holds B w0 w' (star (rowP 3 1 (.slice A q.1.length c) q.1.length (ints q.1)) (star (rwP b q.2.2.1 q.2.2.2.1 q.2.2.2.2) Q))
def sliceLen : Value → Nat
  | .slice _ n _ => n
  | _ => 0
theorem drain_len (W : List Int) (wr : Bool) (L : List Wt) : (drain W wr L).2.2.1.length + (drain W wr L).2.2.2.length = L.length := by
  induction L generalizing W wr with
  | nil => rfl
  | cons y l ih =>
    unfold drain
    split
    · have := ih (putI W y.t) (!y.r)
      simp only [List.length_cons]
      omega
    · simp
theorem index_of (W : List Int) (x i : Int) (h : IsIdx W x i) : (i = -1 ∧ decide (x ∈ W) = false) ∨ ∃ k : Nat, i = k ∧ k < W.length ∧ W[k]? = some x ∧ decide (x ∈ W) = true := by
  rcases h with ⟨rfl, h⟩ | ⟨k, rfl, hk, hx, _⟩
  · exact .inl ⟨rfl, decide_eq_false h⟩
  · exact .inr ⟨k, rfl, hk, hx, decide_eq_true (List.mem_of_getElem? hx)⟩
theorem ints_del (W : List Int) (k : Nat) : (ints W).take (k * 1) ++ (ints W).drop ((k + 1) * 1) = ints (W.take k ++ W.drop (k + 1)) := by
  simp [ints, List.map_take, List.map_drop]
set_option maxHeartbeats 6400000 in
theorem x_rwunlock {B : Nat} {w0 w : World} {Q : SP} {b : Nat} {W : List Int} {wr : Bool} {L : List Wt} (h : Holds B w0 w (star (rwP b W wr L) Q)) (hQ : Stable Q) (hL : L.length ≤ 500000) (hW : W.length ≤ 500000) (hg : Good W L) (x : Int) (r : Bool) :
    Calls Try.prog 20 #[.pointer (some ⟨b, 0, none⟩), .int .i64 x, .bool r] w (RUnPost B w0 Q b (rwUnlock W wr L x r)) := by
  have hu := Try.underlying115
  have hu2 := Try.underlying113
  have hu3 := Try.underlying119
  have H0 := Lib.hid h
  have SQ := Lib.hid hQ
  have GO := Lib.hid hg
  obtain ⟨F, ⟨F1, F2, ⟨v, u, hb, hr, hs, hF1⟩, h2, h3, h4⟩, hbl, hB, hF⟩ := h
  have HST := Lib.hid (show ∀ (P' : SP) (w' : World), Step w F1 P' w' → Holds B w0 w' (star P' Q) from fun P' w' hs' => Holds.step H0.out (fun k hk => hF k ((h4 k).2 hk)) (hs'.star hQ h2 h3))
  obtain ⟨A, c, rfl, _, _⟩ := hs.form
  have ap := hr.apart hb (by decide)
  have aq := hs.apart hb (by decide)
  have BB := Lib.hid hb
  have R := Lib.hid hr
  have S := Lib.hid hs
  have FF := Lib.hid hF1
  have AP := Lib.hid ap
  have AQ := Lib.hid aq
  have HI := Lib.hid (index_calls w A W.length c W x hs.src (by omega))
  have hc1 := hb.cell 1
  have hc2 := hb.cell 2
  have NOT := Lib.hid (show ∀ w', w' = w → rwUnlock W wr L x r = ([], 13, W, wr, L) → RUnPost B w0 Q b (rwUnlock W wr L x r) (.returned (.tuple #[.slice none 0 0, .int .i64 13])) w' from fun w' e e2 => by
    subst e
    rw [e2]
    have h1 : Holds B w0 w' (star (rowP 3 1 (.slice none 0 0) 0 (ints [])) (star (rwP b W wr L) Q)) := H0.out.newRow ((rwP_stable b W wr L).star hQ) (Row.nil _ 3 1) (Keep.same _ _) (fun k hk => by simp [Value.ownBlock] at hk)
    exact ⟨none, 0, rfl, h1⟩)
  clear hb hr hs hF1 h2 h3 h4 hbl hB hF ap aq hQ hg
  go_enter Try.func20, Try.ntmps20
  go_wp2_with fail
  refine HI.out.mono ?_
  rintro e w1 ⟨i, rfl, hi, rfl⟩
  rcases index_of W x i hi with ⟨rfl, hd⟩ | ⟨k, rfl, hk, hkx, hd⟩
  · have E := Lib.hid (show rwUnlock W wr L x r = ([], 13, W, wr, L) by unfold rwUnlock; rw [hd]; simp)
    clear hi hd
    go_wp2_with fail
    go_ret2
    exact NOT.out _ rfl E.out
  · cases hwr : (wr == r) with
    | true =>
      have E := Lib.hid (show rwUnlock W wr L x r = ([], 13, W, wr, L) by unfold rwUnlock; rw [hd]; simp at hwr; simp [hwr])
      clear hi hd hkx
      go_wp2_with fail
      go_ret2
      exact NOT.out _ rfl E.out
    | false =>
      have E := Lib.hid (show rwUnlock W wr L x r = ((drain (dropI W x) wr L).2.2.2, 0, (drain (dropI W x) wr L).1, (drain (dropI W x) wr L).2.1, (drain (dropI W x) wr L).2.2.1) by
        unfold rwUnlock; rw [hd]; rw [beq_eq_false_iff_ne] at hwr; simp [hwr])
      have wk1 : IntKind.i64.wrap ((k : Int) + 1) = (k : Int) + 1 := by rw [IntKind.wrap_i64]; omega
      have HD := Lib.hid (ii_delete w1 (.slice A W.length c) W.length (ints W) S.out k hk (ints_one W) (by omega))
      have HX := Lib.hid hkx
      clear hi hd hkx
      go_wp2_with fail
      refine HD.out.mono ?_
      rintro e w2 ⟨u2, rfl, hr2, hg2, ho2⟩
      rw [ints_del, drop_eq GO.out.1 HX.out] at hr2
      have hdl : W.length - 1 = (dropI W x).length := by have := hr2.1; simp [ints] at this; omega
      rw [hdl] at hr2
      obtain ⟨A2, c2, rfl, _, _⟩ := hr2.form
      have B2 := Lib.hid (BB.out.grown hg2 AQ.out)
      have f1 := B2.out.free 1
      have e1 := B2.out.cell 1
      have hne : (Value.slice A2 (dropI W x).length c2).ownBlock ≠ some b := fun e => by
        rcases ho2 with h | ⟨g, h, h'⟩
        · rw [h] at e; exact AQ.out e
        · rw [h] at e; injection e with e; have := BB.out.lt; omega
      have H1 := Lib.hid (HST.out (rwP b (dropI W x) wr L) (w2.setCell ⟨b, 1, none⟩ (.slice A2 (dropI W x).length c2)) (rwP_step FF.out
        ((((Keep.same _ w1).grown hg2 (fun i hi => .inl (.inr (.inr hi)))).set (p := ⟨b, 1, none⟩) (.inl (.inl rfl)) _)) (B2.out.put 1 _)
        ((R.out.keep ((Keep.same (fun k => (Value.slice A W.length c).ownBlock = some k) w1).grown hg2 (fun i hi => .inl hi)) (fun g hg h => R.out.apart2 S.out (by decide) g hg h)).far (p := ⟨b, 1, none⟩) AP.out _)
        (hr2.far (p := ⟨b, 1, none⟩) hne _) (fun k hk => .inl hk) (fun k hk => by
          rcases ho2 with h | ⟨g, h, h'⟩
          · rw [h] at hk; exact .inl hk
          · rw [h] at hk; injection hk with hk; right; omega)))
      clear hr2 hg2 ho2 hne hdl
      go_wp2_with fail
      refine (x_front H1.out SQ.out).mono ?_
      rintro e w3 ⟨rfl, hh3⟩
      have H3 := Lib.hid hh3
      clear hh3
      have H4 := Lib.hid (show Holds B w0 (w3.alloc (.cells (headW L).cs 119)) (star (rwP b (dropI W x) wr L) (star (star Q (rowP 3 1 (.slice none 0 0) 0 (ints []))) (blkP w3.heap.size 119 (headW L).cs))) from by
        have h1 := H3.out.newRow ((rwP_stable b (dropI W x) wr L).star SQ.out) (Row.nil w3 3 1) (Keep.same _ _) (fun k hk => by simp [Value.ownBlock] at hk)
        have h2 := Holds.newBlk h1.turn ((rwP_stable b (dropI W x) wr L).star (SQ.out.star (rowP_stable _ _ _ _ _))) 119 (headW L).cs
        exact h2.turn)
      have hdl : (dropI W x).length ≤ W.length := List.length_filter_le _ _
      have GD := Lib.hid (GO.out.dropped (x := x))
      obtain ⟨y0, hy0⟩ : ∃ y0, headW L = y0 := ⟨_, rfl⟩
      have HY0 := Lib.hid hy0
      rw [hy0] at H4
      rw [hy0]
      clear hy0
      go_wp2_with fail
      go_loopw [9, 10, 11] (fun v9 v10 v11 wr2 => ∃ (W' : List Int) (wr' : Bool) (L' : List Wt) (got : List Int) (A9 : Option Addr) (c9 p : Nat), v9 = .slice A9 got.length c9 ∧ v10 = .pointer (some ⟨p, 0, none⟩) ∧ v11 = .bool (!L'.isEmpty) ∧
        Holds B w0 wr2 (star (rwP b W' wr' L') (star (star Q (rowP 3 1 (.slice A9 got.length c9) got.length (ints got))) (blkP p 119 (headW L').cs))) ∧ Good W' L' ∧ L'.length + got.length = L.length ∧ W'.length + L'.length ≤ 1000000 ∧
        drain (dropI W x) wr L = ((drain W' wr' L').1, (drain W' wr' L').2.1, (drain W' wr' L').2.2.1, got ++ (drain W' wr' L').2.2.2)) (fun v9 v10 v11 _ => L.length - sliceLen v9)
      case atStart => exact ⟨dropI W x, wr, L, [], none, 0, w3.heap.size, by simp, by simp, by simp, by rw [HY0.out]; exact H4.out, GD.out, by simp, by omega, rfl⟩
      case round =>
        obtain ⟨W', wr', L', got, A9, c9, p, rfl, rfl, rfl, hh, hgood, hlen, hsz, hdr⟩ := hrel
        have H5 := Lib.hid hh
        have GO5 := Lib.hid hgood
        have DR5 := Lib.hid hdr
        have hh2 := hh.turn.turn
        obtain ⟨_, hpb, _⟩ := hh2.left
        have H6 := Lib.hid (show Holds B w0 _ (star (rowP 3 1 (.slice A9 got.length c9) got.length (ints got)) (star (rwP b W' wr' L') Q)) from hh2.drop.turn.turn)
        clear hh hgood hdr hh2
        cases L' with
        | nil =>
          clear hpb
          go_wp2_with fail
          go_ret2
          rw [E.out, DR5.out]
          show RUnPost B w0 Q b (got ++ [], 0, W', wr', []) _ _
          rw [List.append_nil]
          exact ⟨A9, c9, rfl, H6.out⟩
        | cons y l =>
          have hp1 := hpb.cell 1
          have hp0 := hpb.cell 0
          have HO := Lib.hid (x_open H5.out y.r)
          have PB := Lib.hid hpb
          clear hpb
          cases hop : openB W' wr' y.r with
          | false =>
            have D := Lib.hid (show drain W' wr' (y :: l) = (W', wr', y :: l, []) by unfold drain; rw [hop]; rfl)
            rw [hop] at HO
            clear hop
            go_wp2_with fail
            refine HO.out.mono ?_
            rintro e w6 ⟨rfl, rfl⟩
            go_wp2_with fail
            go_ret2
            rw [E.out, DR5.out, D.out]
            show RUnPost B w0 Q b (got ++ [], 0, W', wr', y :: l) _ _
            rw [List.append_nil]
            exact ⟨A9, c9, rfl, H6.out⟩
          | true =>
            have D := Lib.hid (show drain W' wr' (y :: l) = ((drain (putI W' y.t) (!y.r) l).1, (drain (putI W' y.t) (!y.r) l).2.1, (drain (putI W' y.t) (!y.r) l).2.2.1, y.t :: (drain (putI W' y.t) (!y.r) l).2.2.2) by
              conv => lhs; unfold drain
              rw [hop]; rfl)
            rw [hop] at HO
            clear hop
            go_wp2_with fail
            refine HO.out.mono ?_
            rintro e w6 ⟨rfl, rfl⟩
            have SR := Lib.hid ((SQ.out.star (rowP_stable 3 1 (.slice A9 got.length c9) got.length (ints got))).star (blkP_stable p 119 (headW (y :: l)).cs))
            have HLV := Lib.hid (x_leave H5.out SR.out (by omega) (by simp))
            clear hp0 hp1
            go_wp2_with fail
            refine HLV.out.mono ?_
            rintro e w7 ⟨rfl, hh7⟩
            have H7 := Lib.hid hh7
            obtain ⟨_, pb7, _⟩ := hh7.turn.turn.left
            have p70 := pb7.cell 0
            have p71 := pb7.cell 1
            have p72 := pb7.cell 2
            have HGV := Lib.hid (x_give H7.out SR.out (by omega) GO5.out.1 y.t y.r)
            clear hh7 pb7
            go_wp2_with fail
            refine HGV.out.mono ?_
            rintro e w8 ⟨rfl, hh8⟩
            have H8 := Lib.hid hh8
            obtain ⟨_, pb8, _⟩ := hh8.turn.turn.left
            have p80 := pb8.cell 0
            have p81 := pb8.cell 1
            have p82 := pb8.cell 2
            have PB8 := Lib.hid pb8
            clear hh8 pb8 p70 p71 p72
            have H9 := Lib.hid (show Holds B w0 w8 (star (rowP 3 1 (.slice A9 got.length c9) got.length (ints got)) (star (rwP b (putI W' y.t) (!y.r) l) Q)) from H8.out.turn.turn.drop.turn.turn)
            have RG := Lib.hid H9.out.row
            have SRC := Lib.hid (U.Src.one w8 (.int .i64 y.t) 3)
            have hg63 : got.length + 1 ≤ maxLen := by unfold maxLen; omega
            have hg8 : (got.length + 1) * 8 ≤ 140737488355328 := by omega
            go_wp2_with (at_builtin; refine wpList_app _ rfl E26 (.tmp 72) (.tmp 75) rfl (RG.out.alloc _) SRC.out 1 rfl rfl (by simp [Value.oneCell']) hg63 hg8 ?_)
            intro v9 w9 hr9 hg9 hl9
            obtain ⟨A10, c10, rfl, _, _⟩ := hr9.form
            have PB9 := ((PB8.out.alloc (.cells #[.int .i64 y.t] 3)).grown hg9 (RG.out.apart PB8.out (by decide)))
            have SW := Lib.hid ((rwP_stable b (putI W' y.t) (!y.r) l).star SQ.out)
            have H10 := Lib.hid (show Holds B w0 w9 (star (rwP b (putI W' y.t) (!y.r) l) (star Q (rowP 3 1 (.slice A10 (got.length + 1) c10) (got.length + 1) (ints (got ++ [y.t]))))) from
              (Holds.grew (H9.out.alloc ((rowP_stable 3 1 (.slice A9 got.length c9) got.length (ints got)).star SW.out) (.cells #[.int .i64 y.t] 3)) SW.out (by rw [ints_app]; exact hr9) hg9 (by
                rcases hl9 with h | h
                · exact .inl h
                · exact .inr (by rw [h]; simp))).turn)
            have q0 := PB9.cell 0
            have q1 := PB9.cell 1
            have q2 := PB9.cell 2
            clear p80 p81 p82 hr9 hg9 hl9 PB9
            have SG := Lib.hid (SQ.out.star (rowP_stable 3 1 (.slice A10 (got.length + 1) c10) (got.length + 1) (ints (got ++ [y.t]))))
            have H11 := Lib.hid (Holds.newBlk H10.out ((rwP_stable b (putI W' y.t) (!y.r) l).star SG.out) 119 (headW (y :: l)).cs).turn
            have HFR := Lib.hid (x_front H11.out (SG.out.star (blkP_stable _ _ _)))
            go_wp2_with fail
            refine HFR.out.mono ?_
            rintro e w12 ⟨rfl, hh12⟩
            have H12 := Lib.hid hh12.turn.turn
            obtain ⟨_, pbn, _⟩ := H12.out.left
            clear hh12
            obtain ⟨z, hz⟩ : ∃ z, headW l = z := ⟨_, rfl⟩
            have HZ := Lib.hid hz
            have SX := Lib.hid ((rwP_stable b (putI W' y.t) (!y.r) l).star SG.out)
            have H13 := Lib.hid (((H12.out.setBlk SX.out 0 (.int .i64 z.t)).setBlk SX.out 1 (.bool z.r)).setBlk SX.out 2 (.bool z.d)).turn
            have n0 := pbn.free 0
            have n1 := pbn.free 1
            have n2 := pbn.free 2
            have m0 := pbn.cell 0
            have m1 := pbn.cell 1
            have m2 := pbn.cell 2
            have pb1 := pbn.put 0 (.int .i64 z.t)
            have m11 := pb1.cell 1
            have n11 := pb1.free 1
            have m12 := pb1.cell 2
            have n12 := pb1.free 2
            have pb2 := pb1.put 1 (.bool z.r)
            have m22 := pb2.cell 2
            have n22 := pb2.free 2
            rw [hz]
            clear hz pbn pb1 pb2 q0 q1 q2
            go_wp2_with fail
            go_roundw
            case rel => exact ⟨putI W' y.t, !y.r, l, got ++ [y.t], A10, c10, w9.heap.size, by simp, by simp, by simp, by rw [HZ.out, List.length_append]; exact H13.out, GO5.out.give, by simp at hlen ⊢; omega, by rw [putI_len]; simp at hsz; omega, by rw [DR5.out, D.out]; simp⟩
            case measure => simp [sliceLen] at hlen ⊢; omega
end Go.Proofs.Ytmohpjkbhpgidaa.A
