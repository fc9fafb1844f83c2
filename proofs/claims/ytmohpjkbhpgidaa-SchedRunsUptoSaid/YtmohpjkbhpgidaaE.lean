/-
  The once, both.
-/
import Derived.Test.YtmohpjkbhpgidaaD
import Derived.BigQuiet
namespace Go.Proofs.Ytmohpjkbhpgidaa.A
open Go.RowKit Go.Proofs.Ytmohpjkbhpgidaa.U
set_option linter.unusedVariables false
set_option linter.unusedSimpArgs false
set_option maxRecDepth 100000

/-- The once: who runs it (-1: nobody), whether it is over, who waits. -/
def oP (b : Nat) (W : Int) (ov : Bool) (L : List Int) : SP := fun w F => ∃ (bg : Bool) (wh : Int), (ov = false → bg = decide (0 ≤ W)) ∧ (0 ≤ W → wh = W ∧ ov = false) ∧ (W < 0 → W = -1) ∧ qP 132 b [.bool bg, .bool ov, .int .i64 wh] L w F
theorem oP_stable (b : Nat) (W : Int) (ov : Bool) (L : List Int) : Stable (oP b W ov L) where
  keep := fun ⟨bg, wh, h1, h2, h3, h⟩ hk hn => ⟨bg, wh, h1, h2, h3, (qP_stable _ _ _ _).keep h hk hn⟩
  lt := fun ⟨bg, wh, h1, h2, h3, h⟩ hk => (qP_stable _ _ _ _).lt h hk
def dE (W : Int) (L : List Int) (x : Int) : Int := if x < 0 then 1 else if W = x ∨ x ∈ L then 12 else 0
def dRun (W : Int) (ov : Bool) (L : List Int) (x : Int) : Bool := decide (dE W L x = 0 ∧ ov = false ∧ W < 0)
def dWait (W : Int) (ov : Bool) (L : List Int) (x : Int) : Bool := decide (dE W L x = 0 ∧ ov = false ∧ 0 ≤ W)
def dW (W : Int) (ov : Bool) (L : List Int) (x : Int) : Int := if dRun W ov L x then x else W
def dL (W : Int) (ov : Bool) (L : List Int) (x : Int) : List Int := if dWait W ov L x then L ++ [x] else L
theorem Step.imp {w w' : World} {F : Nat → Prop} {P P' : SP} (h : Step w F P w') (hi : ∀ F', P w' F' → P' w' F') : Step w F P' w' := by
  obtain ⟨F', hp, hk, hn⟩ := h
  exact ⟨F', hi F' hp, hk, hn⟩
theorem onew_calls (w : World) : Calls Try.prog 38 #[] w (fun e w' => e = .returned (.pointer (some ⟨w.heap.size, 0, none⟩)) ∧ w' = w.alloc (.cells #[.bool false, .bool false, .int .i64 0, .slice none 0 0] 132)) := by
  go_enter Try.func38, Try.ntmps38
  go_wp2_with fail
  go_ret
  exact ⟨rfl, rfl⟩
theorem ronew_calls (w : World) : Calls Try.prog 39 #[] w (fun e w' => e = .returned (.pointer (some ⟨w.heap.size, 0, none⟩)) ∧ w' = w.alloc (.cells #[.int .i64 (-1), .bool false, .slice none 0 0] 81)) := by
  go_enter Try.func39, Try.ntmps39
  go_wp2_with fail
  go_ret
  exact ⟨rfl, rfl⟩
theorem runs_calls (w : World) (b : Nat) (bg ov : Bool) (wh x : Int) (v : Value) (hb : Blk w b 132 #[.bool bg, .bool ov, .int .i64 wh, v]) :
    Calls Try.prog 84 #[.pointer (some ⟨b, 0, none⟩), .int .i64 x] w (fun e w' => e = .returned (.bool (bg && !ov && (wh == x))) ∧ w' = w) := by
  have hu := Try.underlying132
  have h0 := hb.cell 0
  have h1 := hb.cell 1
  have h2 := hb.cell 2
  clear hb
  cases bg <;> cases ov
  all_goals go_enter Try.func84, Try.ntmps84
  all_goals go_wp2_with fail
  all_goals go_ret
  all_goals exact ⟨by simp, rfl⟩
def DoPost (w : World) (F : Nat → Prop) (P : Int → Bool → List Int → SP) (W : Int) (ov : Bool) (L : List Int) (x : Int) (e : Ending) (w' : World) : Prop :=
  e = .returned (.tuple #[.bool (dRun W ov L x), .bool (dWait W ov L x), .int .i64 (dE W L x)]) ∧ Step w F (P (dW W ov L x) ov (dL W ov L x)) w'
set_option maxHeartbeats 1600000 in
theorem do_calls (w : World) (b : Nat) (F : Nat → Prop) (W x : Int) (ov : Bool) (L : List Int) (h : oP b W ov L w F) (hL : L.length ≤ 1000000) :
    Calls Try.prog 42 #[.pointer (some ⟨b, 0, none⟩), .int .i64 x] w (DoPost w F (oP b) W ov L x) := by
  have hu := Try.underlying132
  have HS := Lib.hid (Step.none_ (oP_stable b W ov L) h (Keep.same _ w))
  obtain ⟨bg, wh, c1, c2, c3, hq⟩ := h
  have HA := Lib.hid (ladd_calls w 132 b 3 [.bool bg, .bool ov, .int .i64 wh] L x F hq (by decide) rfl hL)
  obtain ⟨v, hb, hr, hF⟩ := hq
  obtain ⟨A, c, rfl, _, _⟩ := hr.form
  have HH := Lib.hid (lhas_calls w b 3 132 _ A L.length c L x hb rfl hr.src hL)
  have HR := Lib.hid (runs_calls w b bg ov wh x _ hb)
  have hc0 := hb.cell 0
  have hc1 := hb.cell 1
  have hc2 := hb.cell 2
  have hf0 := hb.free 0
  have hf2 := hb.free 2
  have B := Lib.hid hb
  have R := Lib.hid hr
  have FF := Lib.hid hF
  clear hb hr hF
  by_cases hx : x < 0
  · have E := Lib.hid (show dE W L x = 1 by unfold dE; rw [if_pos hx])
    have E1 := Lib.hid (show dRun W ov L x = false by unfold dRun; rw [E.out]; simp)
    have E2 := Lib.hid (show dWait W ov L x = false by unfold dWait; rw [E.out]; simp)
    have EW := Lib.hid (show dW W ov L x = W by unfold dW; rw [E1.out]; rfl)
    have EL := Lib.hid (show dL W ov L x = L by unfold dL; rw [E2.out]; rfl)
    clear c1 c2 c3
    go_enter Try.func42, Try.ntmps42
    go_wp2_with fail
    go_ret3
    exact ⟨by rw [E.out, E1.out, E2.out]; rfl, by rw [EW.out, EL.out]; exact HS.out⟩
  · have g0 : decide (x < 0) = false := decide_eq_false hx
    have hrun : (bg && !ov && (wh == x)) = decide (W = x) := by
      by_cases hW : 0 ≤ W
      · obtain ⟨e1, e2⟩ := c2 hW
        have e3 := c1 e2
        rw [e1, e2, e3, decide_eq_true hW]
        simp
        rfl
      · rw [decide_eq_false (show ¬ W = x by omega)]
        cases ov with
        | true => simp
        | false => rw [c1 rfl, decide_eq_false hW]; rfl
    rw [hrun] at HR
    clear hrun
    by_cases hW : W = x
    · rw [decide_eq_true hW] at HR
      have E := Lib.hid (show dE W L x = 12 by unfold dE; rw [if_neg hx, if_pos (.inl hW)])
      have E1 := Lib.hid (show dRun W ov L x = false by unfold dRun; rw [E.out]; simp)
      have E2 := Lib.hid (show dWait W ov L x = false by unfold dWait; rw [E.out]; simp)
      have EW := Lib.hid (show dW W ov L x = W by unfold dW; rw [E1.out]; rfl)
      have EL := Lib.hid (show dL W ov L x = L by unfold dL; rw [E2.out]; rfl)
      clear c1 c2 c3 hW
      go_enter Try.func42, Try.ntmps42
      go_wp2_with fail
      refine HR.out.mono ?_
      rintro e w' ⟨rfl, rfl⟩
      go_wp2_with fail
      go_ret3
      exact ⟨by rw [E.out, E1.out, E2.out]; rfl, by rw [EW.out, EL.out]; exact HS.out⟩
    · rw [decide_eq_false hW] at HR
      by_cases hm : x ∈ L
      · rw [decide_eq_true hm] at HH
        have E := Lib.hid (show dE W L x = 12 by unfold dE; rw [if_neg hx, if_pos (.inr hm)])
        have E1 := Lib.hid (show dRun W ov L x = false by unfold dRun; rw [E.out]; simp)
        have E2 := Lib.hid (show dWait W ov L x = false by unfold dWait; rw [E.out]; simp)
        have EW := Lib.hid (show dW W ov L x = W by unfold dW; rw [E1.out]; rfl)
        have EL := Lib.hid (show dL W ov L x = L by unfold dL; rw [E2.out]; rfl)
        clear c1 c2 c3 hW hm
        go_enter Try.func42, Try.ntmps42
        go_wp2_with fail
        refine HR.out.mono ?_
        rintro e w' ⟨rfl, rfl⟩
        go_wp2_with fail
        refine HH.out.mono ?_
        rintro e w' ⟨rfl, rfl⟩
        go_wp2_with fail
        go_ret3
        exact ⟨by rw [E.out, E1.out, E2.out]; rfl, by rw [EW.out, EL.out]; exact HS.out⟩
      · rw [decide_eq_false hm] at HH
        have E := Lib.hid (show dE W L x = 0 by unfold dE; rw [if_neg hx, if_neg (by rintro (h | h); exact hW h; exact hm h)])
        clear hm
        cases ov with
        | true =>
          have E1 := Lib.hid (show dRun W true L x = false by unfold dRun; simp)
          have E2 := Lib.hid (show dWait W true L x = false by unfold dWait; simp)
          have EW := Lib.hid (show dW W true L x = W by unfold dW; rw [E1.out]; rfl)
          have EL := Lib.hid (show dL W true L x = L by unfold dL; rw [E2.out]; rfl)
          clear c1 c2 c3 hW
          go_enter Try.func42, Try.ntmps42
          go_wp2_with fail
          refine HR.out.mono ?_
          rintro e w' ⟨rfl, rfl⟩
          go_wp2_with fail
          refine HH.out.mono ?_
          rintro e w' ⟨rfl, rfl⟩
          go_wp2_with fail
          go_ret3
          exact ⟨by rw [E.out, E1.out, E2.out]; rfl, by rw [EW.out, EL.out]; exact HS.out⟩
        | false =>
          have hbg := c1 rfl
          by_cases hW0 : 0 ≤ W
          · rw [decide_eq_true hW0] at hbg
            have E1 := Lib.hid (show dRun W false L x = false by unfold dRun; exact decide_eq_false (by omega))
            have E2 := Lib.hid (show dWait W false L x = true by unfold dWait; rw [E.out]; exact decide_eq_true ⟨rfl, rfl, hW0⟩)
            have EW := Lib.hid (show dW W false L x = W by unfold dW; rw [E1.out]; rfl)
            have EL := Lib.hid (show dL W false L x = L ++ [x] by unfold dL; rw [E2.out]; rfl)
            have CC := Lib.hid (show ∀ w' F', qP 132 b [.bool bg, .bool false, .int .i64 wh] (L ++ [x]) w' F' → oP b W false (L ++ [x]) w' F' from fun w' F' h => ⟨bg, wh, c1, c2, c3, h⟩)
            rw [hbg] at hc0
            clear c1 c2 c3 hW
            go_enter Try.func42, Try.ntmps42
            go_wp2_with fail
            refine HR.out.mono ?_
            rintro e w' ⟨rfl, rfl⟩
            go_wp2_with fail
            refine HH.out.mono ?_
            rintro e w' ⟨rfl, rfl⟩
            go_wp2_with fail
            refine HA.out.mono ?_
            rintro e w2 ⟨rfl, hs⟩
            have S := Lib.hid hs
            clear hs
            go_wp2_with fail
            go_ret3
            exact ⟨by rw [E.out, E1.out, E2.out]; rfl, by rw [EW.out, EL.out]; exact Step.imp S.out (fun F' h => CC.out _ _ h)⟩
          · rw [decide_eq_false hW0] at hbg
            have E1 := Lib.hid (show dRun W false L x = true by unfold dRun; rw [E.out]; exact decide_eq_true ⟨rfl, rfl, by omega⟩)
            have E2 := Lib.hid (show dWait W false L x = false by unfold dWait; exact decide_eq_false (by omega))
            have EW := Lib.hid (show dW W false L x = x by unfold dW; rw [E1.out]; rfl)
            have EL := Lib.hid (show dL W false L x = L by unfold dL; rw [E2.out]; rfl)
            have B2 := Lib.hid ((B.out.put 0 (.bool true)).put 2 (.int .i64 x))
            have hx0 := Lib.hid hx
            rw [hbg] at hc0
            clear c1 c2 c3 hW
            go_enter Try.func42, Try.ntmps42
            go_wp2_with fail
            refine HR.out.mono ?_
            rintro e w' ⟨rfl, rfl⟩
            go_wp2_with fail
            refine HH.out.mono ?_
            rintro e w' ⟨rfl, rfl⟩
            go_wp2_with fail
            go_ret3
            refine ⟨by rw [E.out, E1.out, E2.out]; rfl, ?_⟩
            rw [EW.out, EL.out]
            have hne := R.out.apart B.out (by decide)
            refine ⟨F, ⟨true, x, fun _ => (decide_eq_true (by have := hx0.out; omega)).symm, fun _ => ⟨rfl, rfl⟩, fun h => absurd h (by have := hx0.out; omega), _, by simpa using B2.out, R.out.keep (((Keep.same (fun k => k = b) w').set (p := ⟨b, 0, none⟩) (.inl rfl) (.bool true)).set (p := ⟨b, 2, none⟩) (.inl rfl) (.int .i64 x)) (fun g hg e => hne (by rw [hg, e])), FF.out⟩,
              ((Keep.same F w').set (p := ⟨b, 0, none⟩) (.inl ((FF.out b).2 (.inl rfl))) _).set (p := ⟨b, 2, none⟩) (.inl ((FF.out b).2 (.inl rfl))) _, fun k hk => .inl hk⟩
def fE (W x : Int) : Int := if x < 0 ∨ W ≠ x then 13 else 0
def fR (W x : Int) (L : List Int) : List Int := if fE W x = 0 then L else []
def fL (W x : Int) (L : List Int) : List Int := if fE W x = 0 then [] else L
def fW (W x : Int) : Int := if fE W x = 0 then -1 else W
def fO (W x : Int) (ov : Bool) : Bool := if fE W x = 0 then true else ov
def DonePost (w : World) (F : Nat → Prop) (P : Int → Bool → List Int → SP) (W : Int) (ov : Bool) (L : List Int) (x : Int) (e : Ending) (w' : World) : Prop :=
  ∃ a : Option Addr × Nat, e = .returned (.tuple #[.slice a.1 (fR W x L).length a.2, .int .i64 (fE W x)]) ∧ Step w F (star (rowP 3 1 (.slice a.1 (fR W x L).length a.2) (fR W x L).length (ints (fR W x L))) (P (fW W x) (fO W x ov) (fL W x L))) w'
theorem star_imp {w : World} {F : Nat → Prop} {P Q Q' : SP} (h : star P Q w F) (hi : ∀ F', Q w F' → Q' w F') : star P Q' w F := by
  obtain ⟨F1, F2, h1, h2, h3, h4⟩ := h
  exact ⟨F1, F2, h1, hi _ h2, h3, h4⟩
set_option maxHeartbeats 1600000 in
theorem done_calls (w : World) (b : Nat) (F : Nat → Prop) (W x : Int) (ov : Bool) (L : List Int) (h : oP b W ov L w F) :
    Calls Try.prog 40 #[.pointer (some ⟨b, 0, none⟩), .int .i64 x] w (DonePost w F (oP b) W ov L x) := by
  have hu := Try.underlying132
  obtain ⟨bg, wh, c1, c2, c3, hq⟩ := h
  obtain ⟨v, hb, hr, hF⟩ := hq
  obtain ⟨A, c, rfl, _, _⟩ := hr.form
  have HR := Lib.hid (runs_calls w b bg ov wh x _ hb)
  have hc1 := hb.cell 1
  have hf1 := hb.free 1
  have B := Lib.hid hb
  have R := Lib.hid hr
  have FF := Lib.hid hF
  have B1 := Lib.hid (B.out.put 1 (.bool true))
  have HALL := Lib.hid (all_calls _ b 3 132 _ (.slice A L.length c) B1.out rfl)
  clear hb hr hF
  by_cases hx : x < 0 ∨ W ≠ x
  · have E := Lib.hid (show fE W x = 13 by unfold fE; rw [if_pos hx])
    have ER := Lib.hid (show fR W x L = [] by unfold fR; rw [E.out, if_neg (by omega)])
    have EL := Lib.hid (show fL W x L = L by unfold fL; rw [E.out, if_neg (by omega)])
    have EW := Lib.hid (show fW W x = W by unfold fW; rw [E.out, if_neg (by omega)])
    have EO := Lib.hid (show fO W x ov = ov by unfold fO; rw [E.out, if_neg (by omega)])
    have hrun : (bg && !ov && (wh == x)) = false := by
      by_cases hW : 0 ≤ W
      · obtain ⟨e1, e2⟩ := c2 hW
        have : (wh == x) = false := by rw [beq_eq_false_iff_ne]; omega
        rw [this]; simp
      · cases ov with
        | true => simp
        | false => rw [c1 rfl, decide_eq_false hW]; rfl
    rw [hrun] at HR
    have CC := Lib.hid (show ∀ w' F', qP 132 b [.bool bg, .bool ov, .int .i64 wh] L w' F' → oP b W ov L w' F' from fun w' F' h => ⟨bg, wh, c1, c2, c3, h⟩)
    clear c1 c2 c3 hx hrun
    go_enter Try.func40, Try.ntmps40
    go_wp2_with fail
    refine HR.out.mono ?_
    rintro e w' ⟨rfl, rfl⟩
    go_wp2_with fail
    go_ret2
    refine ⟨(none, 0), by rw [E.out, ER.out]; rfl, ?_⟩
    rw [ER.out, EL.out, EW.out, EO.out]
    exact Step.imp (q_stays (cs := [.bool bg, .bool ov, .int .i64 wh]) (cs' := [.bool bg, .bool ov, .int .i64 wh]) (by decide) B.out R.out FF.out B.out (Keep.same _ _)) (fun F' h => star_imp h (fun F'' h => CC.out _ _ h))
  · have E := Lib.hid (show fE W x = 0 by unfold fE; rw [if_neg hx])
    have ER := Lib.hid (show fR W x L = L by unfold fR; rw [if_pos E.out])
    have EL := Lib.hid (show fL W x L = [] by unfold fL; rw [if_pos E.out])
    have EW := Lib.hid (show fW W x = -1 by unfold fW; rw [if_pos E.out])
    have EO := Lib.hid (show fO W x ov = true by unfold fO; rw [if_pos E.out])
    have hrun : (bg && !ov && (wh == x)) = true := by
      obtain ⟨e1, e2⟩ := c2 (by omega)
      rw [c1 e2, e2, e1, decide_eq_true (by omega)]
      simp; omega
    rw [hrun] at HR
    have B2 := Lib.hid (B1.out.put 3 (.slice none 0 0))
    clear c1 c2 c3 hx hrun
    go_enter Try.func40, Try.ntmps40
    go_wp2_with fail
    refine HR.out.mono ?_
    rintro e w' ⟨rfl, rfl⟩
    go_wp2_with fail
    refine HALL.out.mono ?_
    rintro e w2 ⟨rfl, hw⟩
    have WW := Lib.hid hw
    clear hw
    go_wp2_with fail
    go_ret2
    refine ⟨(A, c), by rw [E.out, ER.out]; rfl, ?_⟩
    rw [ER.out, EL.out, EW.out, EO.out, WW.out]
    exact Step.imp (q_leaves (cs := [.bool bg, .bool ov, .int .i64 wh]) (cs' := [.bool bg, .bool true, .int .i64 wh]) (by decide) rfl B.out R.out FF.out (by simpa using B2.out) (((Keep.same (fun k => k = b) w').set (p := ⟨b, 1, none⟩) (.inl rfl) _).set (p := ⟨b, 3, none⟩) (.inl rfl) _)) (fun F' h => star_imp h (fun F'' h => ⟨bg, wh, fun h => (by cases h), fun h => (by omega), fun _ => rfl, h⟩))
theorem state_calls (w : World) (b : Nat) (F : Nat → Prop) (W : Int) (ov : Bool) (L : List Int) (h : oP b W ov L w F) :
    Calls Try.prog 44 #[.pointer (some ⟨b, 0, none⟩)] w (Pure w (.tuple #[.int .i64 W, .bool ov])) := by
  have hu := Try.underlying132
  obtain ⟨bg, wh, c1, c2, c3, hq⟩ := h
  obtain ⟨v, hb, hr, hF⟩ := hq
  have h0 := hb.cell 0
  have h1 := hb.cell 1
  have h2 := hb.cell 2
  clear hb hr hF
  cases ov with
  | true =>
    have : W = -1 := by
      by_cases hW : 0 ≤ W
      · have := (c2 hW).2; cases this
      · exact c3 (by omega)
    subst this
    clear c1 c2 c3
    go_enter Try.func44, Try.ntmps44
    go_wp2_with fail
    go_quiet (fail)
    go_wp2_with fail
    go_ret2
    exact ⟨rfl, (Drew.same _).more _⟩
  | false =>
    by_cases hW : 0 ≤ W
    · obtain ⟨rfl, _⟩ := c2 hW
      have := c1 rfl
      rw [decide_eq_true hW] at this
      subst this
      clear c1 c2 c3
      go_enter Try.func44, Try.ntmps44
      go_wp2_with fail
      go_ret2
      exact ⟨rfl, Drew.same _⟩
    · have := c3 (by omega)
      subst this
      have := c1 rfl
      rw [decide_eq_false hW] at this
      subst this
      clear c1 c2 c3
      go_enter Try.func44, Try.ntmps44
      go_wp2_with fail
      go_quiet (fail)
      go_wp2_with fail
      go_ret2
      exact ⟨rfl, (Drew.same _).more _⟩
end Go.Proofs.Ytmohpjkbhpgidaa.A
