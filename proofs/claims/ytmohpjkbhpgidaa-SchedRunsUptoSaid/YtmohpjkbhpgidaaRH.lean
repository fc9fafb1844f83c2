/-
  The reference's mutex.
-/
import Derived.Test.YtmohpjkbhpgidaaRG
namespace Go.Proofs.Ytmohpjkbhpgidaa.A
open Go.RowKit Go.Proofs.Ytmohpjkbhpgidaa.U
set_option linter.unusedVariables false
set_option linter.unusedSimpArgs false
set_option maxRecDepth 100000

abbrev smP (b : Nat) (W : Int) (L : List Int) : SP := qP 62 b [.int .i64 W] L
def smLock (W : Int) (L : List Int) (x : Int) : Bool × Int × Int × List Int :=
  if x < 0 then (false, 1, W, L) else if W == x || decide (x ∈ L) then (false, 12, W, L) else if W < 0 then (true, 0, x, L) else (false, 0, W, L ++ [x])
def smUnlock (W : Int) (L : List Int) (x : Int) : Int × Int × Int × List Int :=
  if x < 0 || W != x then (0, 13, W, L) else match L with
    | [] => (-1, 0, -1, [])
    | y :: l => (y, 0, y, l)
/-- The block changes ahead of the slice. -/
theorem q_ahead {w w' : World} {t b : Nat} {cs cs' : List Value} {L : List Int} {v : Value} {F : Nat → Prop} (ht : t ≠ 3) (hb : Blk w b t (cs ++ [v]).toArray) (hr : Row w 3 1 v L.length (ints L)) (hF : ∀ k, F k ↔ k = b ∨ v.ownBlock = some k)
    (hb' : Blk w' b t (cs' ++ [v]).toArray) (hk : Keep (fun k => k = b) w w') : Step w F (qP t b cs' L) w' := by
  have hne := hr.apart hb (fun e => ht e.symm)
  exact ⟨F, ⟨_, hb', hr.keep hk (fun g hg e => hne (by rw [hg, e])), hF⟩, hk.wider (fun k hk => .inl ((hF k).2 (.inl hk))), fun k hk => .inl hk⟩
set_option maxHeartbeats 1600000 in
theorem smlock_calls (w : World) (b : Nat) (F : Nat → Prop) (W x : Int) (L : List Int) (h : smP b W L w F) (hL : L.length ≤ 1000000) :
    Calls Try.prog 36 #[.pointer (some ⟨b, 0, none⟩), .int .i64 x] w (fun e w' => e = .returned (.tuple #[.bool (smLock W L x).1, .int .i64 (smLock W L x).2.1]) ∧ Step w F (smP b (smLock W L x).2.2.1 (smLock W L x).2.2.2) w') := by
  have hu := Try.underlying62
  have HS := Lib.hid (Step.none_ (qP_stable 62 b [.int .i64 W] L) h (Keep.same _ w))
  obtain ⟨v, hb, hr, hF⟩ := h
  obtain ⟨A, c, rfl, _, _⟩ := hr.form
  have HH := Lib.hid (has_calls w A L.length c L x hr.src hL)
  have hc0 := hb.cell 0
  have hc1 := hb.cell 1
  have hf0 := hb.free 0
  have hf1 := hb.free 1
  have B := Lib.hid hb
  have R := Lib.hid hr
  have FF := Lib.hid hF
  clear hb hr hF
  by_cases hx : x < 0
  · have E := Lib.hid (show smLock W L x = (false, 1, W, L) by unfold smLock; rw [if_pos hx])
    go_enter Try.func36, Try.ntmps36
    go_wp2_with fail
    go_ret2
    rw [E.out]
    exact ⟨rfl, HS.out⟩
  · have g0 : decide (x < 0) = false := decide_eq_false hx
    by_cases hW : W = x
    · have g1 : (W == x) = true := by rw [beq_iff_eq]; exact hW
      have E := Lib.hid (show smLock W L x = (false, 12, W, L) by unfold smLock; rw [if_neg hx, g1]; rfl)
      clear hW
      go_enter Try.func36, Try.ntmps36
      go_wp2_with fail
      go_ret2
      rw [E.out]
      exact ⟨rfl, HS.out⟩
    · have g1 : (W == x) = false := by rw [beq_eq_false_iff_ne]; exact hW
      by_cases hm : x ∈ L
      · rw [decide_eq_true hm] at HH
        have E := Lib.hid (show smLock W L x = (false, 12, W, L) by unfold smLock; rw [if_neg hx, g1, decide_eq_true hm]; rfl)
        clear hW hm
        go_enter Try.func36, Try.ntmps36
        go_wp2_with fail
        refine HH.out.mono ?_
        rintro e w' ⟨rfl, rfl⟩
        go_wp2_with fail
        go_ret2
        rw [E.out]
        exact ⟨rfl, HS.out⟩
      · rw [decide_eq_false hm] at HH
        by_cases hW0 : W < 0
        · have E := Lib.hid (show smLock W L x = (true, 0, x, L) by unfold smLock; rw [if_neg hx, g1, decide_eq_false hm, if_pos hW0]; rfl)
          have g2 : decide (W < 0) = true := decide_eq_true (by omega)
          have B2 := Lib.hid (B.out.put 0 (.int .i64 x))
          clear hW hm
          go_enter Try.func36, Try.ntmps36
          go_wp2_with fail
          refine HH.out.mono ?_
          rintro e w' ⟨rfl, rfl⟩
          go_wp2_with fail
          go_ret2
          rw [E.out]
          exact ⟨rfl, q_ahead (cs := [.int .i64 W]) (cs' := [.int .i64 x]) (by decide) B.out R.out FF.out (by simpa using B2.out) ((Keep.same (fun k => k = b) w').set (p := ⟨b, 0, none⟩) (.inl rfl) _)⟩
        · have E := Lib.hid (show smLock W L x = (false, 0, W, L ++ [x]) by unfold smLock; rw [if_neg hx, g1, decide_eq_false hm, if_neg hW0]; rfl)
          have g2 : decide (W < 0) = false := decide_eq_false (by omega)
          have O1 := Lib.hid (ints_one L)
          clear hW hm
          go_enter Try.func36, Try.ntmps36
          go_wp2_with fail
          refine HH.out.mono ?_
          rintro e w' ⟨rfl, rfl⟩
          go_wp2_with (at_builtin; refine wpList_app _ rfl E26 (.const (.slice none 0 0)) (.tmp 35) rfl (Row.nil w' 3 1) R.out.src c rfl rfl O1.out (by unfold maxLen; omega) (by omega) ?_)
          intro v1 w1 hr1 hg1 hl1
          obtain ⟨A1, c1, rfl, _, _⟩ := hr1.form
          have K1 := Lib.hid ((Keep.same Nothing w').grown hg1 (fun i hi => by simp [Value.ownBlock] at hi))
          have O2 := Lib.hid (show ∀ k, (Value.slice A1 L.length c1).ownBlock = some k → w'.heap.size ≤ k by
            intro k hk
            rcases hl1 with h | h
            · rw [h] at hk; simp [Value.ownBlock] at hk
            · rw [h] at hk; injection hk with hk; omega)
          have R1 := Lib.hid hr1
          clear hr1 hg1 hl1
          go_wp2_with (at_builtin; refine wpList_app _ rfl E26 (.tmp 36) (.tmp 38) rfl (R1.out.alloc _) (U.Src.one w1 (.int .i64 x) 3) 1 rfl rfl (by simp [Value.oneCell']) (by unfold maxLen; omega) (by omega) ?_)
          intro v2 w2 hr2 hg2 hl2
          obtain ⟨A2, c2, rfl, _, _⟩ := hr2.form
          have K2 := Lib.hid ((K1.out.alloc (.cells #[.int .i64 x] 3)).grown hg2 (fun i hi => .inr (O2.out i hi)))
          have hsz := K1.out.size
          have O3 := Lib.hid (show ∀ k, (Value.slice A2 (L.length + 1) c2).ownBlock = some k → w'.heap.size ≤ k by
            intro k hk
            rcases hl2 with h | h
            · rw [h] at hk; exact O2.out k hk
            · rw [h] at hk; injection hk with hk; omega)
          have B2 := Lib.hid (B.out.keep K2.out (fun h => h))
          have hcell2 := B2.out.cell 1
          have hfree2 := B2.out.free 1
          have R2 := Lib.hid (show Row w2 3 1 (.slice A2 (L.length + 1) c2) (L ++ [x]).length (ints (L ++ [x])) by rw [List.length_append, ints_app]; exact hr2)
          clear hr2 hg2 hl2
          go_wp2_with fail
          go_ret2
          rw [E.out]
          exact ⟨rfl, q_fresh (cs := [.int .i64 W]) (by decide) rfl B.out R.out FF.out K2.out O3.out R2.out⟩
theorem ints_drop1 (L : List Int) : (ints L).drop (1 * 1) = ints (L.drop 1) := by simp [ints]
set_option maxHeartbeats 1600000 in
theorem smunlock_calls (w : World) (b : Nat) (F : Nat → Prop) (W x : Int) (L : List Int) (h : smP b W L w F) (hL : L.length ≤ 1000000) :
    Calls Try.prog 35 #[.pointer (some ⟨b, 0, none⟩), .int .i64 x] w (fun e w' => e = .returned (.tuple #[.int .i64 (smUnlock W L x).1, .int .i64 (smUnlock W L x).2.1]) ∧ Step w F (smP b (smUnlock W L x).2.2.1 (smUnlock W L x).2.2.2) w') := by
  have hu := Try.underlying62
  have HS := Lib.hid (Step.none_ (qP_stable 62 b [.int .i64 W] L) h (Keep.same _ w))
  obtain ⟨v, hb, hr, hF⟩ := h
  obtain ⟨A, c, rfl, _, _⟩ := hr.form
  have hc0 := hb.cell 0
  have hc1 := hb.cell 1
  have hf0 := hb.free 0
  have hf1 := hb.free 1
  have B := Lib.hid hb
  have R := Lib.hid hr
  have FF := Lib.hid hF
  clear hb hr hF
  by_cases hx : x < 0
  · have E := Lib.hid (show smUnlock W L x = (0, 13, W, L) by unfold smUnlock; simp [hx])
    go_enter Try.func35, Try.ntmps35
    go_wp2_with fail
    go_ret2
    rw [E.out]
    exact ⟨rfl, HS.out⟩
  · have g0 : decide (x < 0) = false := decide_eq_false hx
    cases g1 : W != x with
    | true =>
      have E := Lib.hid (show smUnlock W L x = (0, 13, W, L) by unfold smUnlock; rw [g1]; simp)
      go_enter Try.func35, Try.ntmps35
      go_wp2_with fail
      go_ret2
      rw [E.out]
      exact ⟨rfl, HS.out⟩
    | false =>
      have B2 := Lib.hid (B.out.put 0 (.int .i64 (-1)))
      have c0 := B2.out.cell 0
      have c1 := B2.out.cell 1
      have f0 := B2.out.free 0
      have f1 := B2.out.free 1
      have g2 := g1
      rw [bne_eq_false_iff_eq] at g2
      have WX := Lib.hid g2
      clear g2
      cases L with
      | nil =>
        have E := Lib.hid (show smUnlock W [] x = (-1, 0, -1, []) by unfold smUnlock; rw [g1, g0]; rfl)
        go_enter Try.func35, Try.ntmps35
        go_wp2_with fail
        go_ret2
        rw [E.out]
        exact ⟨rfl, q_ahead (cs := [.int .i64 W]) (cs' := [.int .i64 (-1)]) (by decide) B.out R.out FF.out (by simpa using B2.out) ((Keep.same (fun k => k = b) w).set (p := ⟨b, 0, none⟩) (.inl rfl) _)⟩
      | cons y l =>
        have E := Lib.hid (show smUnlock W (y :: l) x = (y, 0, y, l) by unfold smUnlock; rw [g1, g0]; rfl)
        have hne := R.out.apart B.out (by decide)
        have R2 := Lib.hid (R.out.far (p := ⟨b, 0, none⟩) hne (.int .i64 (-1)))
        obtain ⟨ad, y', rfl, hy, hc⟩ := i_at R2.out.src (show 0 < (y :: l).length by simp)
        injection hy with hy
        subst hy
        have hc' : (w.setCell ⟨b, 0, none⟩ (.int .i64 (-1))).cell? ad = some (.int .i64 y) := by simpa [Addr.add] using hc
        have B3 := Lib.hid (B2.out.put 0 (.int .i64 y))
        have d1 := B3.out.cell 1
        have h1 := B3.out.free 1
        have RD := Lib.hid ((R2.out.far (p := ⟨b, 0, none⟩) hne (.int .i64 y)).drop_ (k := 1) (by simp))
        obtain ⟨A1, hA1, hs1⟩ : ∃ A1 : Option Addr, A1 = (if c = 1 then some ad else (some ad).map (·.add (1 * 1))) ∧ ∀ w : World, (Instr.slice 26 (.slice (some ad) (l.length + 1) c) (some (.int .i64 1)) none none).run Try.prog w = .ok (.slice A1 l.length (c - 1)) w := ⟨_, rfl, fun w => run_from (P := Try.prog) w E26 (some ad) (l.length + 1) c 1 1 rfl (by omega)⟩
        rw [← hA1, ints_drop1] at RD
        have RD := Lib.hid (show Row _ 3 1 (.slice A1 l.length (c - 1)) l.length (ints l) from RD.out)
        have OB := Lib.hid (show ∀ k, (Value.slice A1 l.length (c - 1)).ownBlock = some k → (Value.slice (some ad) (y :: l).length c).ownBlock = some k by
          intro k hk
          rw [hA1] at hk
          split at hk
          · simpa [Value.ownBlock] using hk
          · simpa [Value.ownBlock, addBlock] using hk)
        have ND := Lib.hid (show ∀ g, (Value.slice A1 l.length (c - 1)).ownBlock = some g → g ≠ b from fun g hg e => hne (by rw [OB.out g hg, e]))
        clear hne hc hA1
        go_enter Try.func35, Try.ntmps35
        go_wp2_with fail
        have B4 := Lib.hid (B3.out.put 1 (.slice A1 l.length (c - 1)))
        have m0 := B4.out.cell 0
        go_wp2_with fail
        go_ret2
        rw [E.out]
        refine ⟨rfl, ⟨fun k => k = b ∨ (Value.slice A1 l.length (c - 1)).ownBlock = some k, ⟨_, by simpa using B4.out, ?_, fun k => Iff.rfl⟩, ?_, fun k hk => ?_⟩⟩
        · exact RD.out.keep ((Keep.same (fun k => k = b) _).set (p := ⟨b, 1, none⟩) (.inl rfl) _) (fun g hg e => ND.out g hg e)
        · exact (((Keep.same F w).set (p := ⟨b, 0, none⟩) (.inl ((FF.out b).2 (.inl rfl))) _).set (p := ⟨b, 0, none⟩) (.inl ((FF.out b).2 (.inl rfl))) _).set (p := ⟨b, 1, none⟩) (.inl ((FF.out b).2 (.inl rfl))) _
        · rcases hk with hk | hk
          · exact .inl ((FF.out k).2 (.inl hk))
          · exact .inl ((FF.out k).2 (.inr (OB.out k hk)))
theorem smnew_calls (w : World) : Calls Try.prog 34 #[] w (fun e w' => e = .returned (.pointer (some ⟨w.heap.size, 0, none⟩)) ∧ w' = w.alloc (.cells #[.int .i64 (-1), .slice none 0 0] 62)) := by
  have hu := Try.underlying62
  go_enter Try.func34, Try.ntmps34
  go_wp2_with fail
  go_ret
  exact ⟨rfl, rfl⟩
section
variable {B : Nat} {w0 w : World} {Q : SP} {b : Nat} {W : Int} {L : List Int}
theorem x_smlock (h : Holds B w0 w (star (smP b W L) Q)) (hQ : Stable Q) (hL : L.length ≤ 1000000) (x : Int) :
    Calls Try.prog 36 #[.pointer (some ⟨b, 0, none⟩), .int .i64 x] w (fun e w' => e = .returned (.tuple #[.bool (smLock W L x).1, .int .i64 (smLock W L x).2.1]) ∧ Holds B w0 w' (star (smP b (smLock W L x).2.2.1 (smLock W L x).2.2.2) Q)) :=
  h.on_left hQ (post := fun e => e = .returned (.tuple #[.bool (smLock W L x).1, .int .i64 (smLock W L x).2.1])) fun F hm => smlock_calls w b F W x L hm hL
theorem x_smunlock (h : Holds B w0 w (star (smP b W L) Q)) (hQ : Stable Q) (hL : L.length ≤ 1000000) (x : Int) :
    Calls Try.prog 35 #[.pointer (some ⟨b, 0, none⟩), .int .i64 x] w (fun e w' => e = .returned (.tuple #[.int .i64 (smUnlock W L x).1, .int .i64 (smUnlock W L x).2.1]) ∧ Holds B w0 w' (star (smP b (smUnlock W L x).2.2.1 (smUnlock W L x).2.2.2) Q)) :=
  h.on_left hQ (post := fun e => e = .returned (.tuple #[.int .i64 (smUnlock W L x).1, .int .i64 (smUnlock W L x).2.1])) fun F hm => smunlock_calls w b F W x L hm hL
end
/-- What ties the mutex to the reference's. -/
def MGood (h : Bool) (who : Int) (L : List Wt) : Prop := (h = true → 0 ≤ who) ∧ (h = false → L = []) ∧ ∀ t ∈ tasks L, 0 ≤ t
def whoOf (h : Bool) (who : Int) : Int := if h then who else -1
theorem hasW_tasks (L : List Wt) (x : Int) : hasW L x = decide (x ∈ tasks L) := by
  rw [Bool.eq_iff_iff, ← mem_tasks_hasW]; simp
theorem tasks_snoc (L : List Wt) (x : Int) (r d : Bool) : tasks (L ++ [⟨x, r, d⟩]) = tasks L ++ [x] := by simp [tasks]
theorem lock_both {h : Bool} {who : Int} {L : List Wt} (g : MGood h who L) (x : Int) :
    smLock (whoOf h who) (tasks L) x = ((mLock h who L x).1, (mLock h who L x).2.1, whoOf (mLock h who L x).2.2.1 (mLock h who L x).2.2.2.1, tasks (mLock h who L x).2.2.2.2) ∧
      MGood (mLock h who L x).2.2.1 (mLock h who L x).2.2.2.1 (mLock h who L x).2.2.2.2 := by
  obtain ⟨g1, g2, g3⟩ := g
  unfold smLock mLock
  by_cases hx : x < 0
  · rw [if_pos hx, if_pos hx]; exact ⟨rfl, g1, g2, g3⟩
  · rw [if_neg hx, if_neg hx, hasW_tasks]
    cases h with
    | false =>
      obtain rfl := g2 rfl
      have h1 : ((-1 : Int) == x) = false := by rw [beq_eq_false_iff_ne]; omega
      simp [whoOf, h1, tasks]
      exact ⟨fun _ => by omega, fun h => (by cases h), by simp [tasks]⟩
    | true =>
      have hw := g1 rfl
      cases h1 : (who == x) || decide (x ∈ tasks L) with
      | true =>
        simp only [whoOf, Bool.true_and, if_true, h1]
        exact ⟨trivial, g1, g2, g3⟩
      | false =>
        simp only [whoOf, Bool.true_and, if_true, h1]
        rw [if_neg (show ¬ who < 0 by omega)]
        refine ⟨by simp [tasks_snoc], g1, fun h => (by cases h), fun t ht => ?_⟩
        simp [tasks_snoc] at ht
        rcases ht with h | h
        · exact g3 t h
        · omega
theorem unlock_both {h : Bool} {who : Int} {L : List Wt} (g : MGood h who L) (x : Int) :
    smUnlock (whoOf h who) (tasks L) x = ((mUnlock h who L x).1, (mUnlock h who L x).2.1, whoOf (mUnlock h who L x).2.2.1 (mUnlock h who L x).2.2.2.1, tasks (mUnlock h who L x).2.2.2.2) ∧
      MGood (mUnlock h who L x).2.2.1 (mUnlock h who L x).2.2.2.1 (mUnlock h who L x).2.2.2.2 := by
  obtain ⟨g1, g2, g3⟩ := g
  cases h with
  | false =>
    have h1 : (decide (x < 0) || (-1 : Int) != x) = true := by
      by_cases hx : x < 0
      · simp [hx]
      · have : ((-1 : Int) != x) = true := by rw [bne_iff_ne]; omega
        simp [this]
    have e1 : smUnlock (whoOf false who) (tasks L) x = (0, 13, -1, tasks L) := by unfold smUnlock whoOf; simp only [Bool.false_eq_true, if_false, h1, if_true]
    have e2 : mUnlock false who L x = (0, 13, false, who, L) := by unfold mUnlock; simp
    rw [e1, e2]
    exact ⟨rfl, g1, g2, g3⟩
  | true =>
    have hw := g1 rfl
    cases h1 : who != x with
    | true =>
      have e1 : smUnlock (whoOf true who) (tasks L) x = (0, 13, who, tasks L) := by unfold smUnlock whoOf; simp [h1]
      have e2 : mUnlock true who L x = (0, 13, true, who, L) := by unfold mUnlock; simp [h1]
      rw [e1, e2]
      exact ⟨rfl, g1, g2, g3⟩
    | false =>
      have h2 : who = x := by simpa using h1
      have h3 : decide (x < 0) = false := decide_eq_false (by omega)
      cases L with
      | nil =>
        have e1 : smUnlock (whoOf true who) (tasks []) x = (-1, 0, -1, []) := by unfold smUnlock whoOf; simp [h1, h3, tasks]
        have e2 : mUnlock true who [] x = (-1, 0, false, who, []) := by unfold mUnlock; simp [h1]
        rw [e1, e2]
        exact ⟨rfl, fun h => (by cases h), fun _ => rfl, fun t ht => by simp [tasks] at ht⟩
      | cons y l =>
        have e1 : smUnlock (whoOf true who) (tasks (y :: l)) x = (y.t, 0, y.t, tasks l) := by unfold smUnlock whoOf; simp [h1, h3, tasks]
        have e2 : mUnlock true who (y :: l) x = (y.t, 0, true, y.t, l) := by unfold mUnlock; simp [h1]
        rw [e1, e2]
        exact ⟨rfl, fun _ => g3 y.t (by simp [tasks]), fun h => (by cases h), fun t ht => g3 t (by simp [tasks] at ht ⊢; exact .inr ht)⟩
end Go.Proofs.Ytmohpjkbhpgidaa.A
