/-
  The mutex.
-/
import Derived.Test.YtmohpjkbhpgidaaQ2
namespace Go.Proofs.Ytmohpjkbhpgidaa.A
open Go.RowKit Go.Proofs.Ytmohpjkbhpgidaa.U
set_option linter.unusedVariables false
set_option linter.unusedSimpArgs false
set_option maxRecDepth 100000

def mP (b : Nat) (h : Bool) (who : Int) (L : List Wt) : SP := fun w F => ∃ v, Blk w b 128 #[v, .bool h, .int .i64 who] ∧ Row w 119 3 v L.length (wts L) ∧ ∀ k, F k ↔ k = b ∨ v.ownBlock = some k
theorem mP_stable (b : Nat) (h : Bool) (who : Int) (L : List Wt) : Stable (mP b h who L) where
  keep := fun ⟨v, hb, hr, hF⟩ hk hn => ⟨v, hb.keep hk (hn b ((hF b).2 (.inl rfl))), hr.keep hk (fun g hg => hn g ((hF g).2 (.inr hg))), hF⟩
  lt := fun ⟨v, hb, hr, hF⟩ hk => by
    rcases (hF _).1 hk with h | h
    · rw [h]; exact hb.lt
    · exact hr.lt _ h
theorem mP_new (w : World) : mP w.heap.size false 0 [] (w.alloc (.cells #[.slice none 0 0, .bool false, .int .i64 0] 128)) (fun k => k = w.heap.size) :=
  ⟨.slice none 0 0, Blk.fresh w 128 _, Row.nil _ 119 3, fun k => by simp [Value.ownBlock]⟩
/-- The queue was changed, and then the two others. -/
theorem mP_q {w w1 w' : World} {b : Nat} {h' : Bool} {who' : Int} {L' : List Wt} {v v' : Value} {F : Nat → Prop} (hF : ∀ k, F k ↔ k = b ∨ v.ownBlock = some k)
    (hk : Keep (fun k => k = b ∨ v.ownBlock = some k) w w1) (hb : Blk w' b 128 #[v', .bool h', .int .i64 who']) (hr : Row w' 119 3 v' L'.length (wts L')) (ho : ∀ k, v'.ownBlock = some k → v.ownBlock = some k ∨ w.heap.size ≤ k) (hk2 : Keep (fun k => k = b) w1 w') :
    Step w F (mP b h' who' L') w' :=
  ⟨fun k => k = b ∨ v'.ownBlock = some k, ⟨v', hb, hr, fun _ => Iff.rfl⟩, (hk.trans hk2 (fun i hi => .inl (.inl hi))).wider (fun i hi => .inl ((hF i).2 hi)), fun k hk => by
    rcases hk with h | h
    · exact .inl ((hF k).2 (.inl h))
    · exact (ho k h).imp (fun h => (hF k).2 (.inr h)) id⟩
def mLock (h : Bool) (who : Int) (L : List Wt) (x : Int) : Bool × Int × Bool × Int × List Wt :=
  if x < 0 then (false, 1, h, who, L) else if (h && who == x) || hasW L x then (false, 12, h, who, L) else if h then (false, 0, h, who, L ++ [⟨x, false, true⟩]) else (true, 0, true, x, L)
def LockPost (w : World) (F : Nat → Prop) (b : Nat) (r : Bool × Int × Bool × Int × List Wt) (e : Ending) (w' : World) : Prop :=
  e = .returned (.tuple #[.bool r.1, .int .i64 r.2.1]) ∧ Step w F (mP b r.2.2.1 r.2.2.2.1 r.2.2.2.2) w'
set_option maxHeartbeats 3200000 in
theorem mlock_calls (w : World) (b : Nat) (F : Nat → Prop) (h : Bool) (who : Int) (L : List Wt) (hm : mP b h who L w F) (hL : L.length ≤ 1000000) (x : Int) :
    Calls Try.prog 30 #[.pointer (some ⟨b, 0, none⟩), .int .i64 x] w (LockPost w F b (mLock h who L x)) := by
  have hu := Try.underlying128
  have hu2 := Try.underlying113
  have HM := Lib.hid hm
  obtain ⟨v, hb, hr, hF⟩ := hm
  have ap := hr.apart hb (by decide)
  have B := Lib.hid hb
  have R := Lib.hid hr
  have FF := Lib.hid hF
  have AP := Lib.hid ap
  have HW := Lib.hid (waiting_calls w b 128 _ v L hb rfl hr x)
  have hc1 := hb.cell 1
  have hc2 := hb.cell 2
  have hf1 := hb.free 1
  have hf2 := hb.free 2
  clear hb hr hF ap
  by_cases hx : x < 0
  · have E := Lib.hid (show mLock h who L x = (false, 1, h, who, L) by unfold mLock; rw [if_pos hx])
    go_enter Try.func30, Try.ntmps30
    go_wp2_with fail
    go_ret2
    rw [E.out]
    exact ⟨rfl, Step.none_ (mP_stable b h who L) HM.out (Keep.same _ _)⟩
  · have NX := Lib.hid hx
    have hx0 : 0 ≤ x := by omega
    clear hx
    have hxx : ¬ (x < 0) := NX.out
    cases hw : (h && who == x) with
    | true =>
      simp only [Bool.and_eq_true] at hw
      obtain ⟨rfl, hw⟩ := hw
      have E := Lib.hid (show mLock true who L x = (false, 12, true, who, L) by unfold mLock; rw [if_neg (show ¬ (x < 0) by omega)]; simp [hw])
      go_enter Try.func30, Try.ntmps30
      go_wp2_with fail
      go_ret2
      rw [E.out]
      exact ⟨rfl, Step.none_ (mP_stable b true who L) HM.out (Keep.same _ _)⟩
    | false =>
      have WF := Lib.hid hw
      clear hw
      cases h with
      | false =>
        go_enter Try.func30, Try.ntmps30
        go_wp2_with fail
        refine HW.out.mono ?_
        rintro e w1 ⟨rfl, hk⟩
        have K1 := Lib.hid hk
        have B1 := Lib.hid (B.out.keep hk (fun h => h))
        have d1 := B1.out.cell 1
        have d2 := B1.out.cell 2
        have g1 := B1.out.free 1
        have g2 := B1.out.free 2
        clear hk hc1 hc2 hf1 hf2
        cases hq : hasW L x with
        | true =>
          have E := Lib.hid (show mLock false who L x = (false, 12, false, who, L) by unfold mLock; rw [if_neg (show ¬ (x < 0) by omega)]; simp [hq])
          clear hq
          go_wp2_with fail
          go_ret2
          rw [E.out]
          exact ⟨rfl, Step.none_ (mP_stable b false who L) HM.out K1.out⟩
        | false =>
          have E := Lib.hid (show mLock false who L x = (true, 0, true, x, L) by unfold mLock; rw [if_neg (show ¬ (x < 0) by omega)]; simp [hq])
          clear hq
          have B2 := Lib.hid (B1.out.put 1 (.bool true))
          have B3 := Lib.hid ((B1.out.put 1 (.bool true)).put 2 (.int .i64 x))
          have e2 := B2.out.cell 2
          have i2 := B2.out.free 2
          go_wp2_with fail
          go_ret2
          rw [E.out]
          exact ⟨rfl, mP_q FF.out (K1.out.wider (fun i h => h.elim)) B3.out (((R.out.keep K1.out (fun _ _ h => h)).far (p := ⟨b, 1, none⟩) AP.out _).far (p := ⟨b, 2, none⟩) AP.out _) (fun k hk => .inl hk)
            (((Keep.same (fun k => k = b) _).set (p := ⟨b, 1, none⟩) (.inl rfl) _).set (p := ⟨b, 2, none⟩) (.inl rfl) _)⟩
      | true =>
        have wf : (who == x) = false := by simpa using WF.out
        go_enter Try.func30, Try.ntmps30
        go_wp2_with fail
        refine HW.out.mono ?_
        rintro e w1 ⟨rfl, hk⟩
        have K1 := Lib.hid hk
        have B1 := Lib.hid (B.out.keep hk (fun h => h))
        have R1 := Lib.hid (R.out.keep hk (fun _ _ h => h))
        have d1 := B1.out.cell 1
        have d2 := B1.out.cell 2
        clear hk hc1 hc2 hf1 hf2
        cases hq : hasW L x with
        | true =>
          have E := Lib.hid (show mLock true who L x = (false, 12, true, who, L) by unfold mLock; rw [if_neg (show ¬ (x < 0) by omega)]; simp [hq])
          clear hq
          go_wp2_with fail
          go_ret2
          rw [E.out]
          exact ⟨rfl, Step.none_ (mP_stable b true who L) HM.out K1.out⟩
        | false =>
          have E := Lib.hid (show mLock true who L x = (false, 0, true, who, L ++ [⟨x, false, true⟩]) by unfold mLock; rw [if_neg (show ¬ (x < 0) by omega), wf, hq]; simp)
          have HJ := Lib.hid (join_calls w1 b 128 _ v L (by decide) B1.out rfl R1.out hL x false)
          clear hq
          go_wp2_with fail
          refine HJ.out.mono ?_
          rintro e w2 ⟨rfl, v2, hb2, hr2, hk2, ho2⟩
          have B2 := Lib.hid hb2
          have R2 := Lib.hid hr2
          have K2 := Lib.hid hk2
          have O2 := Lib.hid ho2
          clear hb2 hr2 hk2 ho2 d1 d2
          go_wp2_with fail
          go_ret2
          rw [E.out]
          exact ⟨rfl, mP_q FF.out ((K1.out.wider (fun i h => h.elim)).then K2.out) B2.out R2.out (fun k hk => (O2.out k hk).imp id fun h => Nat.le_trans K1.out.size h) (Keep.same _ _)⟩
end Go.Proofs.Ytmohpjkbhpgidaa.A
