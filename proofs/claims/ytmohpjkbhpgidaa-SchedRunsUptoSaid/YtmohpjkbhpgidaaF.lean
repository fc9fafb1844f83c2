/-
  The reference's once; calls among other things.
-/
import Derived.Test.YtmohpjkbhpgidaaE
namespace Go.Proofs.Ytmohpjkbhpgidaa.A
open Go.RowKit Go.Proofs.Ytmohpjkbhpgidaa.U
set_option linter.unusedVariables false
set_option linter.unusedSimpArgs false
set_option maxRecDepth 100000

def rP (b : Nat) (W : Int) (ov : Bool) (L : List Int) : SP := qP 81 b [.int .i64 W, .bool ov] L
theorem rP_stable (b : Nat) (W : Int) (ov : Bool) (L : List Int) : Stable (rP b W ov L) := qP_stable _ _ _ _
set_option maxHeartbeats 1600000 in
theorem rdo_calls (w : World) (b : Nat) (F : Nat → Prop) (W x : Int) (ov : Bool) (L : List Int) (h : rP b W ov L w F) (hL : L.length ≤ 1000000) :
    Calls Try.prog 43 #[.pointer (some ⟨b, 0, none⟩), .int .i64 x] w (DoPost w F (rP b) W ov L x) := by
  have hu := Try.underlying81
  have HS := Lib.hid (Step.none_ (rP_stable b W ov L) h (Keep.same _ w))
  obtain ⟨v, hb, hr, hF⟩ := h
  obtain ⟨A, c, rfl, _, _⟩ := hr.form
  have HH := Lib.hid (has_calls w A L.length c L x hr.src hL)
  have hc0 := hb.cell 0
  have hc1 := hb.cell 1
  have hc2 := hb.cell 2
  have hf0 := hb.free 0
  have hf2 := hb.free 2
  have B := Lib.hid hb
  have R := Lib.hid hr
  have FF := Lib.hid hF
  clear hb hr hF
  by_cases hx : x < 0
  · have E := Lib.hid (show dE W L x = 1 by unfold dE; rw [if_pos hx])
    have E1 := Lib.hid (show dRun W ov L x = false by unfold dRun; rw [E.out]; simp)
    have E2 := Lib.hid (show dWait W ov L x = false by unfold dWait; rw [E.out]; simp)
    have EW := Lib.hid (show dW W ov L x = W by unfold dW; rw [E1.out]; rfl)
    have EL := Lib.hid (show dL W ov L x = L by unfold dL; rw [E2.out]; rfl)
    go_enter Try.func43, Try.ntmps43
    go_wp2_with fail
    go_ret3
    exact ⟨by rw [E.out, E1.out, E2.out]; rfl, by rw [EW.out, EL.out]; exact HS.out⟩
  · have g0 : decide (x < 0) = false := decide_eq_false hx
    by_cases hW : W = x
    · have g1 : (W == x) = true := by rw [beq_iff_eq]; exact hW
      have E := Lib.hid (show dE W L x = 12 by unfold dE; rw [if_neg hx, if_pos (.inl hW)])
      have E1 := Lib.hid (show dRun W ov L x = false by unfold dRun; rw [E.out]; simp)
      have E2 := Lib.hid (show dWait W ov L x = false by unfold dWait; rw [E.out]; simp)
      have EW := Lib.hid (show dW W ov L x = W by unfold dW; rw [E1.out]; rfl)
      have EL := Lib.hid (show dL W ov L x = L by unfold dL; rw [E2.out]; rfl)
      clear hW
      go_enter Try.func43, Try.ntmps43
      go_wp2_with fail
      go_ret3
      exact ⟨by rw [E.out, E1.out, E2.out]; rfl, by rw [EW.out, EL.out]; exact HS.out⟩
    · have g1 : (W == x) = false := by rw [beq_eq_false_iff_ne]; exact hW
      by_cases hm : x ∈ L
      · rw [decide_eq_true hm] at HH
        have E := Lib.hid (show dE W L x = 12 by unfold dE; rw [if_neg hx, if_pos (.inr hm)])
        have E1 := Lib.hid (show dRun W ov L x = false by unfold dRun; rw [E.out]; simp)
        have E2 := Lib.hid (show dWait W ov L x = false by unfold dWait; rw [E.out]; simp)
        have EW := Lib.hid (show dW W ov L x = W by unfold dW; rw [E1.out]; rfl)
        have EL := Lib.hid (show dL W ov L x = L by unfold dL; rw [E2.out]; rfl)
        clear hW hm
        go_enter Try.func43, Try.ntmps43
        go_wp2_with fail
        refine HH.out.mono ?_
        rintro e w' ⟨rfl, rfl⟩
        go_wp2_with fail
        go_ret3
        exact ⟨by rw [E.out, E1.out, E2.out]; rfl, by rw [EW.out, EL.out]; exact HS.out⟩
      · rw [decide_eq_false hm] at HH
        have E := Lib.hid (show dE W L x = 0 by unfold dE; rw [if_neg hx, if_neg (by rintro (h | h); exact hW h; exact hm h)])
        clear hm
        cases ov with
        | true =>
          have E1 := Lib.hid (show dRun W true L x = false by unfold dRun; simp)
          have E2 := Lib.hid (show dWait W true L x = false by unfold dWait; simp)
          have EW := Lib.hid (show dW W true L x = W by unfold dW; rw [E1.out]; rfl)
          have EL := Lib.hid (show dL W true L x = L by unfold dL; rw [E2.out]; rfl)
          clear hW
          go_enter Try.func43, Try.ntmps43
          go_wp2_with fail
          refine HH.out.mono ?_
          rintro e w' ⟨rfl, rfl⟩
          go_wp2_with fail
          go_ret3
          exact ⟨by rw [E.out, E1.out, E2.out]; rfl, by rw [EW.out, EL.out]; exact HS.out⟩
        | false =>
          by_cases hW0 : 0 ≤ W
          · have E1 := Lib.hid (show dRun W false L x = false by unfold dRun; exact decide_eq_false (by omega))
            have E2 := Lib.hid (show dWait W false L x = true by unfold dWait; rw [E.out]; exact decide_eq_true ⟨rfl, rfl, hW0⟩)
            have EW := Lib.hid (show dW W false L x = W by unfold dW; rw [E1.out]; rfl)
            have EL := Lib.hid (show dL W false L x = L ++ [x] by unfold dL; rw [E2.out]; rfl)
            have g2 : decide (W < 0) = false := decide_eq_false (by omega)
            have O1 := Lib.hid (ints_one L)
            clear hW
            go_enter Try.func43, Try.ntmps43
            go_wp2_with fail
            refine HH.out.mono ?_
            rintro e w' ⟨rfl, rfl⟩
            go_wp2_with (at_builtin; refine wpList_app _ rfl E26 (.const (.slice none 0 0)) (.tmp 40) rfl (Row.nil w' 3 1) R.out.src c rfl rfl O1.out (by unfold maxLen; omega) (by omega) ?_)
            intro v1 w1 hr1 hg1 hl1
            obtain ⟨A1, c1, rfl, _, _⟩ := hr1.form
            have K1 := Lib.hid ((Keep.same Nothing w').grown hg1 (fun i hi => by simp [Value.ownBlock] at hi))
            have O2 := Lib.hid (show ∀ k, (Value.slice A1 L.length c1).ownBlock = some k → w'.heap.size ≤ k by
              intro k hk
              rcases hl1 with h | h
              · rw [h] at hk; simp [Value.ownBlock] at hk
              · rw [h] at hk; injection hk with hk; omega)
            have R1 := Lib.hid hr1
            clear hr1 hg1 hl1
            go_wp2_with (at_builtin; refine wpList_app _ rfl E26 (.tmp 41) (.tmp 43) rfl (R1.out.alloc _) (Src.one w1 (.int .i64 x) 3) 1 rfl rfl (by simp [Value.oneCell']) (by unfold maxLen; omega) (by omega) ?_)
            intro v2 w2 hr2 hg2 hl2
            obtain ⟨A2, c2, rfl, _, _⟩ := hr2.form
            have K2 := Lib.hid ((K1.out.alloc (.cells #[.int .i64 x] 3)).grown hg2 (fun i hi => .inr (O2.out i hi)))
            have hsz := K1.out.size
            have O3 := Lib.hid (show ∀ k, (Value.slice A2 (L.length + 1) c2).ownBlock = some k → w'.heap.size ≤ k by
              intro k hk
              rcases hl2 with h | h
              · rw [h] at hk; exact O2.out k hk
              · rw [h] at hk; injection hk with hk; omega)
            have B2 := Lib.hid (B.out.keep K2.out (fun h => h))
            have hcell2 := B2.out.cell 2
            have hfree2 := B2.out.free 2
            have R2 := Lib.hid (show Row w2 3 1 (.slice A2 (L.length + 1) c2) (L ++ [x]).length (ints (L ++ [x])) by rw [List.length_append, ints_app]; exact hr2)
            clear hr2 hg2 hl2
            go_wp2_with fail
            go_ret3
            exact ⟨by rw [E.out, E1.out, E2.out]; rfl, by rw [EW.out, EL.out]; exact q_fresh (cs := [.int .i64 W, .bool false]) (by decide) rfl B.out R.out FF.out K2.out O3.out R2.out⟩
          · have E1 := Lib.hid (show dRun W false L x = true by unfold dRun; rw [E.out]; exact decide_eq_true ⟨rfl, rfl, by omega⟩)
            have E2 := Lib.hid (show dWait W false L x = false by unfold dWait; exact decide_eq_false (by omega))
            have EW := Lib.hid (show dW W false L x = x by unfold dW; rw [E1.out]; rfl)
            have EL := Lib.hid (show dL W false L x = L by unfold dL; rw [E2.out]; rfl)
            have g2 : decide (W < 0) = true := decide_eq_true (by omega)
            have B2 := Lib.hid (B.out.put 0 (.int .i64 x))
            clear hW
            go_enter Try.func43, Try.ntmps43
            go_wp2_with fail
            refine HH.out.mono ?_
            rintro e w' ⟨rfl, rfl⟩
            go_wp2_with fail
            go_ret3
            refine ⟨by rw [E.out, E1.out, E2.out]; rfl, ?_⟩
            rw [EW.out, EL.out]
            have hne := R.out.apart B.out (by decide)
            refine ⟨F, ⟨_, by simpa using B2.out, R.out.keep ((Keep.same (fun k => k = b) w').set (p := ⟨b, 0, none⟩) (.inl rfl) (.int .i64 x)) (fun g hg e => hne (by rw [hg, e])), FF.out⟩,
              (Keep.same F w').set (p := ⟨b, 0, none⟩) (.inl ((FF.out b).2 (.inl rfl))) _, fun k hk => .inl hk⟩
set_option maxHeartbeats 1600000 in
theorem rdone_calls (w : World) (b : Nat) (F : Nat → Prop) (W x : Int) (ov : Bool) (L : List Int) (h : rP b W ov L w F) :
    Calls Try.prog 41 #[.pointer (some ⟨b, 0, none⟩), .int .i64 x] w (DonePost w F (rP b) W ov L x) := by
  have hu := Try.underlying81
  obtain ⟨v, hb, hr, hF⟩ := h
  obtain ⟨A, c, rfl, _, _⟩ := hr.form
  have hc0 := hb.cell 0
  have hc1 := hb.cell 1
  have hc2 := hb.cell 2
  have hf0 := hb.free 0
  have hf1 := hb.free 1
  have hf2 := hb.free 2
  have B := Lib.hid hb
  have R := Lib.hid hr
  have FF := Lib.hid hF
  clear hb hr hF
  by_cases hx : x < 0 ∨ W ≠ x
  · have E := Lib.hid (show fE W x = 13 by unfold fE; rw [if_pos hx])
    have ER := Lib.hid (show fR W x L = [] by unfold fR; rw [E.out, if_neg (by omega)])
    have EL := Lib.hid (show fL W x L = L by unfold fL; rw [E.out, if_neg (by omega)])
    have EW := Lib.hid (show fW W x = W by unfold fW; rw [E.out, if_neg (by omega)])
    have EO := Lib.hid (show fO W x ov = ov by unfold fO; rw [E.out, if_neg (by omega)])
    rcases (show x < 0 ∨ (¬ x < 0 ∧ W ≠ x) by omega) with h1 | ⟨h1, h2⟩
    · clear hx
      go_enter Try.func41, Try.ntmps41
      go_wp2_with fail
      go_ret2
      refine ⟨(none, 0), by rw [E.out, ER.out]; rfl, ?_⟩
      rw [ER.out, EL.out, EW.out, EO.out]
      exact q_stays (cs := [.int .i64 W, .bool ov]) (cs' := [.int .i64 W, .bool ov]) (by decide) B.out R.out FF.out B.out (Keep.same _ _)
    · have g0 : decide (x < 0) = false := decide_eq_false h1
      have g1 : (W == x) = false := by rw [beq_eq_false_iff_ne]; exact h2
      have g2 : (W != x) = true := by rw [bne, g1]; rfl
      clear hx h2
      go_enter Try.func41, Try.ntmps41
      go_wp2_with fail
      go_ret2
      refine ⟨(none, 0), by rw [E.out, ER.out]; rfl, ?_⟩
      rw [ER.out, EL.out, EW.out, EO.out]
      exact q_stays (cs := [.int .i64 W, .bool ov]) (cs' := [.int .i64 W, .bool ov]) (by decide) B.out R.out FF.out B.out (Keep.same _ _)
  · have E := Lib.hid (show fE W x = 0 by unfold fE; rw [if_neg hx])
    have ER := Lib.hid (show fR W x L = L by unfold fR; rw [if_pos E.out])
    have EL := Lib.hid (show fL W x L = [] by unfold fL; rw [if_pos E.out])
    have EW := Lib.hid (show fW W x = -1 by unfold fW; rw [if_pos E.out])
    have EO := Lib.hid (show fO W x ov = true by unfold fO; rw [if_pos E.out])
    have g0 : decide (x < 0) = false := decide_eq_false (by omega)
    have g2 : (W != x) = false := by simp; omega
    have B2 := Lib.hid (((B.out.put 0 (.int .i64 (-1))).put 1 (.bool true)).put 2 (.slice none 0 0))
    clear hx
    go_enter Try.func41, Try.ntmps41
    go_wp2_with fail
    go_ret2
    refine ⟨(A, c), by rw [E.out, ER.out]; rfl, ?_⟩
    rw [ER.out, EL.out, EW.out, EO.out]
    exact q_leaves (cs := [.int .i64 W, .bool ov]) (cs' := [.int .i64 (-1), .bool true]) (by decide) rfl B.out R.out FF.out (by simpa using B2.out) ((((Keep.same (fun k => k = b) w).set (p := ⟨b, 0, none⟩) (.inl rfl) _).set (p := ⟨b, 1, none⟩) (.inl rfl) _).set (p := ⟨b, 2, none⟩) (.inl rfl) _)
/-! ### Among other things -/
section
variable {B : Nat} {w0 w : World} {Q : SP} {b : Nat} {n d x W : Int} {ov : Bool} {L : List Int}
def gP (t b : Nat) (n : Int) (L : List Int) : SP := qP t b [.int .i64 n] L
theorem gP_stable (t b : Nat) (n : Int) (L : List Int) : Stable (gP t b n L) := qP_stable _ _ _ _
/-- A row that was answered. -/
def anP (a : Option Addr × Nat) (L : List Int) : SP := rowP 3 1 (.slice a.1 L.length a.2) L.length (ints L)
theorem anP_stable (a : Option Addr × Nat) (L : List Int) : Stable (anP a L) := rowP_stable _ _ _ _ _
theorem x_add (h : Holds B w0 w (star (gP 135 b n L) Q)) (hQ : Stable Q) (hn : 0 ≤ n) (hm : n ≤ 1073741824) (hd : -9223372036854775808 ≤ d) (hd' : d ≤ 9223372036854775807) :
    Calls Try.prog 49 #[.pointer (some ⟨b, 0, none⟩), .int .i64 d] w (fun e w' => ∃ a : Option Addr × Nat, e = .returned (.tuple #[.slice a.1 (gR n d L).length a.2, .int .i64 (gE n d)]) ∧ Holds B w0 w' (star (star (anP a (gR n d L)) (gP 135 b (gN n d) (gL n d L))) Q)) :=
  Holds.on_left_ex h hQ fun F hF => add_calls w b F n d L hF hn hm hd hd'
theorem y_add (h : Holds B w0 w (star (gP 87 b n L) Q)) (hQ : Stable Q) (hn : 0 ≤ n) (hm : n ≤ 1073741824) (hd : -9223372036854775808 ≤ d) (hd' : d ≤ 9223372036854775807) :
    Calls Try.prog 50 #[.pointer (some ⟨b, 0, none⟩), .int .i64 d] w (fun e w' => ∃ a : Option Addr × Nat, e = .returned (.tuple #[.slice a.1 (gR n d L).length a.2, .int .i64 (gE n d)]) ∧ Holds B w0 w' (star (star (anP a (gR n d L)) (gP 87 b (gN n d) (gL n d L))) Q)) :=
  Holds.on_left_ex h hQ fun F hF => radd_calls w b F n d L hF hn hm hd hd'
theorem x_wait (h : Holds B w0 w (star (gP 135 b n L) Q)) (hQ : Stable Q) (hL : L.length ≤ 1000000) :
    Calls Try.prog 47 #[.pointer (some ⟨b, 0, none⟩), .int .i64 x] w (fun e w' => e = .returned (.tuple #[.bool (wB n L x), .int .i64 (wE L x)]) ∧ Holds B w0 w' (star (gP 135 b n (wL n L x)) Q)) :=
  h.on_left hQ fun F hF => wait_calls w b F n x L hF hL
theorem y_wait (h : Holds B w0 w (star (gP 87 b n L) Q)) (hQ : Stable Q) (hL : L.length ≤ 1000000) :
    Calls Try.prog 48 #[.pointer (some ⟨b, 0, none⟩), .int .i64 x] w (fun e w' => e = .returned (.tuple #[.bool (wB n L x), .int .i64 (wE L x)]) ∧ Holds B w0 w' (star (gP 87 b n (wL n L x)) Q)) :=
  h.on_left hQ fun F hF => rwait_calls w b F n x L hF hL
theorem x_do (h : Holds B w0 w (star (oP b W ov L) Q)) (hQ : Stable Q) (hL : L.length ≤ 1000000) :
    Calls Try.prog 42 #[.pointer (some ⟨b, 0, none⟩), .int .i64 x] w (fun e w' => e = .returned (.tuple #[.bool (dRun W ov L x), .bool (dWait W ov L x), .int .i64 (dE W L x)]) ∧ Holds B w0 w' (star (oP b (dW W ov L x) ov (dL W ov L x)) Q)) :=
  h.on_left hQ fun F hF => do_calls w b F W x ov L hF hL
theorem y_do (h : Holds B w0 w (star (rP b W ov L) Q)) (hQ : Stable Q) (hL : L.length ≤ 1000000) :
    Calls Try.prog 43 #[.pointer (some ⟨b, 0, none⟩), .int .i64 x] w (fun e w' => e = .returned (.tuple #[.bool (dRun W ov L x), .bool (dWait W ov L x), .int .i64 (dE W L x)]) ∧ Holds B w0 w' (star (rP b (dW W ov L x) ov (dL W ov L x)) Q)) :=
  h.on_left hQ fun F hF => rdo_calls w b F W x ov L hF hL
theorem x_done (h : Holds B w0 w (star (oP b W ov L) Q)) (hQ : Stable Q) :
    Calls Try.prog 40 #[.pointer (some ⟨b, 0, none⟩), .int .i64 x] w (fun e w' => ∃ a : Option Addr × Nat, e = .returned (.tuple #[.slice a.1 (fR W x L).length a.2, .int .i64 (fE W x)]) ∧ Holds B w0 w' (star (star (anP a (fR W x L)) (oP b (fW W x) (fO W x ov) (fL W x L))) Q)) :=
  Holds.on_left_ex h hQ fun F hF => done_calls w b F W x ov L hF
theorem y_done (h : Holds B w0 w (star (rP b W ov L) Q)) (hQ : Stable Q) :
    Calls Try.prog 41 #[.pointer (some ⟨b, 0, none⟩), .int .i64 x] w (fun e w' => ∃ a : Option Addr × Nat, e = .returned (.tuple #[.slice a.1 (fR W x L).length a.2, .int .i64 (fE W x)]) ∧ Holds B w0 w' (star (star (anP a (fR W x L)) (rP b (fW W x) (fO W x ov) (fL W x L))) Q)) :=
  Holds.on_left_ex h hQ fun F hF => rdone_calls w b F W x ov L hF
theorem x_state (h : Holds B w0 w (star (oP b W ov L) Q)) : Calls Try.prog 44 #[.pointer (some ⟨b, 0, none⟩)] w (Pure w (.tuple #[.int .i64 W, .bool ov])) := by
  obtain ⟨F, hF⟩ := h.left
  exact state_calls w b F W ov L hF
theorem x_count (h : Holds B w0 w (star (gP 135 b n L) Q)) : Calls Try.prog 51 #[.pointer (some ⟨b, 0, none⟩)] w (fun e w' => e = .returned (.int .i64 n) ∧ w' = w) := by
  obtain ⟨F, hF⟩ := h.left
  exact count_calls w b F n L hF
theorem x_queue (h : Holds B w0 w (star (gP 135 b n L) Q)) (hL : L.length ≤ 1000000) :
    Calls Try.prog 52 #[.pointer (some ⟨b, 0, none⟩)] w (fun e w' => ∃ A c, e = .returned (.slice A L.length c) ∧ Row w' 3 1 (.slice A L.length c) L.length (ints L) ∧ Keep Nothing w w' ∧ ∀ k, (Value.slice A L.length c).ownBlock = some k → w.heap.size ≤ k) := by
  obtain ⟨F, hF⟩ := h.left
  exact queue_calls w b F n L hF hL
end
theorem new_once (w : World) : oP w.heap.size (-1) false [] (w.alloc (.cells #[.bool false, .bool false, .int .i64 0, .slice none 0 0] 132)) (fun k => k = w.heap.size) :=
  ⟨false, 0, fun _ => rfl, fun h => by omega, fun _ => rfl, q_new w 132 [.bool false, .bool false, .int .i64 0]⟩
end Go.Proofs.Ytmohpjkbhpgidaa.A
