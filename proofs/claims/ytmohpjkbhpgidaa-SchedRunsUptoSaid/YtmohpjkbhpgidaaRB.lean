/-
  The rwlock: Lock, Holders, Queue.
-/
import Derived.Test.YtmohpjkbhpgidaaRA
namespace Go.Proofs.Ytmohpjkbhpgidaa.A
open Go.RowKit Go.Proofs.Ytmohpjkbhpgidaa.U
set_option linter.unusedVariables false
set_option linter.unusedSimpArgs false
set_option maxRecDepth 100000

def rwLock (W : List Int) (wr : Bool) (L : List Wt) (x : Int) (r : Bool) : Bool × Int × List Int × Bool × List Wt :=
  if x < 0 then (false, 1, W, wr, L) else if decide (x ∈ W) || hasW L x then (false, 12, W, wr, L) else
  if !L.isEmpty || !openB W wr r then (false, 0, W, wr, L ++ [⟨x, r, true⟩]) else (true, 0, putI W x, !r, L)
def RLockPost (w : World) (F : Nat → Prop) (b : Nat) (q : Bool × Int × List Int × Bool × List Wt) (e : Ending) (w' : World) : Prop :=
  e = .returned (.tuple #[.bool q.1, .int .i64 q.2.1]) ∧ Step w F (rwP b q.2.2.1 q.2.2.2.1 q.2.2.2.2) w'
set_option maxHeartbeats 6400000 in
theorem rwlock_calls (w : World) (b : Nat) (F : Nat → Prop) (W : List Int) (wr : Bool) (L : List Wt) (hm : rwP b W wr L w F) (hL : L.length ≤ 1000000) (hW : W.length ≤ 1000000) (hri : Rising W) (x : Int) (r : Bool) :
    Calls Try.prog 23 #[.pointer (some ⟨b, 0, none⟩), .int .i64 x, .bool r] w (RLockPost w F b (rwLock W wr L x r)) := by
  have hu := Try.underlying115
  have hu2 := Try.underlying113
  have hu3 := Try.underlying119
  have HM := Lib.hid hm
  obtain ⟨v, u, hb, hr, hs, hF⟩ := hm
  obtain ⟨A, c, rfl, _, _⟩ := hs.form
  have ap := hr.apart hb (by decide)
  have aq := hs.apart hb (by decide)
  have B := Lib.hid hb
  have R := Lib.hid hr
  have S := Lib.hid hs
  have FF := Lib.hid hF
  have AP := Lib.hid ap
  have AQ := Lib.hid aq
  have RI := Lib.hid hri
  have HC := Lib.hid (contains_calls w A W.length c W x hs.src hW)
  have HW := Lib.hid (waiting_calls w b 115 _ v L hb rfl hr x)
  have hc1 := hb.cell 1
  clear hb hr hs hF ap aq hri
  by_cases hx : x < 0
  · have E := Lib.hid (show rwLock W wr L x r = (false, 1, W, wr, L) by unfold rwLock; rw [if_pos hx])
    go_enter Try.func23, Try.ntmps23
    go_wp2_with fail
    go_ret2
    rw [E.out]
    exact ⟨rfl, Step.none_ (rwP_stable b W wr L) HM.out (Keep.same _ _)⟩
  · have hx0 : 0 ≤ x := by omega
    cases hw : decide (x ∈ W) with
    | true =>
      have E := Lib.hid (show rwLock W wr L x r = (false, 12, W, wr, L) by unfold rwLock; rw [if_neg hx, hw]; simp)
      rw [hw] at HC
      clear hw
      go_enter Try.func23, Try.ntmps23
      go_wp2_with fail
      refine HC.out.mono ?_
      rintro e w1 ⟨rfl, rfl⟩
      go_wp2_with fail
      go_ret2
      rw [E.out]
      exact ⟨rfl, Step.none_ (rwP_stable b W wr L) HM.out (Keep.same _ _)⟩
    | false =>
      have WF := Lib.hid hw
      rw [hw] at HC
      clear hw
      go_enter Try.func23, Try.ntmps23
      go_wp2_with fail
      refine HC.out.mono ?_
      rintro e w1 ⟨rfl, rfl⟩
      go_wp2_with fail
      refine HW.out.mono ?_
      rintro e w1' ⟨rfl, hk⟩
      have K1 := Lib.hid hk
      have B1 := Lib.hid (B.out.keep hk (fun h => h))
      have R1 := Lib.hid (R.out.keep hk (fun _ _ h => h))
      have S1 := Lib.hid (S.out.keep hk (fun _ _ h => h))
      have HFR := Lib.hid (front_calls w1' b 115 _ v L B1.out rfl R1.out)
      clear hk hc1
      cases hq : hasW L x with
      | true =>
        have E := Lib.hid (show rwLock W wr L x r = (false, 12, W, wr, L) by unfold rwLock; rw [if_neg (show ¬ (x < 0) by omega), WF.out, hq]; simp)
        clear hq
        go_wp2_with fail
        go_ret2
        rw [E.out]
        exact ⟨rfl, Step.none_ (rwP_stable b W wr L) HM.out K1.out⟩
      | false =>
        have QF := Lib.hid hq
        clear hq
        go_wp2_with fail
        refine HFR.out.mono ?_
        rintro e w2 ⟨rfl, hk2⟩
        have K2 := Lib.hid ((K1.out.then hk2).alloc (.cells (headW L).cs 119))
        have B2 := Lib.hid (B.out.keep K2.out (fun h => h))
        have R2 := Lib.hid (R.out.keep K2.out (fun _ _ h => h))
        have S2 := Lib.hid (S.out.keep K2.out (fun _ _ h => h))
        have HJ := Lib.hid (join_calls (w2.alloc (.cells (headW L).cs 119)) b 115 _ v L (by decide) B2.out rfl R2.out hL x r)
        have HO := Lib.hid (open_calls (w2.alloc (.cells (headW L).cs 119)) b v _ W wr B2.out S2.out r)
        have HG := Lib.hid (give_calls (w2.alloc (.cells (headW L).cs 119)) b v _ W wr B2.out S2.out hW RI.out x r)
        obtain ⟨y, hy⟩ : ∃ y, headW L = y := ⟨_, rfl⟩
        rw [hy] at K2 B2 R2 S2 HJ HO HG
        rw [hy]
        clear hk2 hy
        cases he : L.isEmpty with
        | false =>
          have E := Lib.hid (show rwLock W wr L x r = (false, 0, W, wr, L ++ [⟨x, r, true⟩]) by unfold rwLock; rw [if_neg (show ¬ (x < 0) by omega), WF.out, QF.out, he]; simp)
          clear he
          go_wp2_with fail
          refine HJ.out.mono ?_
          rintro e w3 ⟨rfl, v2, hb2, hr2, hk3, ho2⟩
          have B3 := Lib.hid hb2
          have R3 := Lib.hid hr2
          have K3 := Lib.hid hk3
          have O3 := Lib.hid ho2
          clear hb2 hr2 hk3 ho2
          go_wp2_with fail
          go_ret2
          rw [E.out]
          exact ⟨rfl, rwP_step FF.out ((K2.out.wider (fun i h => h.elim)).trans K3.out (fun i hi => .inl (hi.imp id .inl))) B3.out R3.out (S2.out.keep K3.out (fun g hg h => by
            rcases h with h | h
            · exact AQ.out (by rw [hg, h])
            · exact R2.out.apart2 S2.out (by decide) g h hg)) (fun k hk => (O3.out k hk).imp id fun h => Nat.le_trans K2.out.size h) (fun k hk => .inl hk)⟩
        | true =>
          have LE := Lib.hid he
          clear he
          go_wp2_with fail
          refine HO.out.mono ?_
          rintro e w3 ⟨rfl, rfl⟩
          cases ho : openB W wr r with
          | false =>
            have E := Lib.hid (show rwLock W wr L x r = (false, 0, W, wr, L ++ [⟨x, r, true⟩]) by unfold rwLock; rw [if_neg (show ¬ (x < 0) by omega), WF.out, QF.out, ho]; simp)
            clear ho
            go_wp2_with fail
            refine HJ.out.mono ?_
            rintro e w3 ⟨rfl, v2, hb2, hr2, hk3, ho2⟩
            have B3 := Lib.hid hb2
            have R3 := Lib.hid hr2
            have K3 := Lib.hid hk3
            have O3 := Lib.hid ho2
            clear hb2 hr2 hk3 ho2
            go_wp2_with fail
            go_ret2
            rw [E.out]
            exact ⟨rfl, rwP_step FF.out ((K2.out.wider (fun i h => h.elim)).trans K3.out (fun i hi => .inl (hi.imp id .inl))) B3.out R3.out (S2.out.keep K3.out (fun g hg h => by
              rcases h with h | h
              · exact AQ.out (by rw [hg, h])
              · exact R2.out.apart2 S2.out (by decide) g h hg)) (fun k hk => (O3.out k hk).imp id fun h => Nat.le_trans K2.out.size h) (fun k hk => .inl hk)⟩
          | true =>
            have E := Lib.hid (show rwLock W wr L x r = (true, 0, putI W x, !r, L) by unfold rwLock; rw [if_neg (show ¬ (x < 0) by omega), WF.out, QF.out, LE.out, ho]; simp)
            clear ho
            go_wp2_with fail
            refine HG.out.mono ?_
            rintro e w3 ⟨rfl, u2, hb2, hr2, hk3, ho2⟩
            have B3 := Lib.hid hb2
            have S3 := Lib.hid hr2
            have K3 := Lib.hid hk3
            have O3 := Lib.hid ho2
            clear hb2 hr2 hk3 ho2
            go_wp2_with fail
            go_ret2
            rw [E.out]
            exact ⟨rfl, rwP_step FF.out ((K2.out.wider (fun i h => h.elim)).trans K3.out (fun i hi => .inl (hi.imp id .inr))) B3.out (R2.out.keep K3.out (fun g hg h => by
              rcases h with h | h
              · exact AP.out (by rw [hg, h])
              · exact R2.out.apart2 S2.out (by decide) g hg h)) S3.out (fun k hk => .inl hk) (fun k hk => (O3.out k hk).imp id fun h => Nat.le_trans K2.out.size h)⟩
end Go.Proofs.Ytmohpjkbhpgidaa.A
