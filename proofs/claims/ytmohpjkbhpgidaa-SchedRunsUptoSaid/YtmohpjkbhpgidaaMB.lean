/-
  The mutex: Unlock, Holder, Queue, New.
-/
import Derived.Test.YtmohpjkbhpgidaaMA
namespace Go.Proofs.Ytmohpjkbhpgidaa.A
open Go.RowKit Go.Proofs.Ytmohpjkbhpgidaa.U
set_option linter.unusedVariables false
set_option linter.unusedSimpArgs false
set_option maxRecDepth 100000

def mUnlock (h : Bool) (who : Int) (L : List Wt) (x : Int) : Int × Int × Bool × Int × List Wt :=
  if !h || who != x then (0, 13, h, who, L) else match L with | [] => (-1, 0, false, who, []) | y :: l => (y.t, 0, true, y.t, l)
def UnlockPost (w : World) (F : Nat → Prop) (b : Nat) (r : Int × Int × Bool × Int × List Wt) (e : Ending) (w' : World) : Prop :=
  e = .returned (.tuple #[.int .i64 r.1, .int .i64 r.2.1]) ∧ Step w F (mP b r.2.2.1 r.2.2.2.1 r.2.2.2.2) w'
theorem mnew_calls (w : World) : Calls Try.prog 29 #[] w (fun e w' => e = .returned (.pointer (some ⟨w.heap.size, 0, none⟩)) ∧ w' = w.alloc (.cells #[.slice none 0 0, .bool false, .int .i64 0] 128)) := by
  have hu := Try.underlying128
  go_enter Try.func29, Try.ntmps29
  go_wp2_with fail
  go_ret
  exact ⟨rfl, rfl⟩
theorem holder_calls (w : World) (b : Nat) (F : Nat → Prop) (h : Bool) (who : Int) (L : List Wt) (hm : mP b h who L w F) :
    Calls Try.prog 33 #[.pointer (some ⟨b, 0, none⟩)] w (fun e w' => e = .returned (.int .i64 (if h then who else -1)) ∧ w' = w) := by
  have hu := Try.underlying128
  obtain ⟨v, hb, hr, hF⟩ := hm
  have hc1 := hb.cell 1
  have hc2 := hb.cell 2
  clear hb hr hF
  cases h with
  | false =>
    go_enter Try.func33, Try.ntmps33
    go_wp2_with fail
    go_ret
    exact ⟨rfl, rfl⟩
  | true =>
    go_enter Try.func33, Try.ntmps33
    go_wp2_with fail
    go_ret
    exact ⟨rfl, rfl⟩
set_option maxHeartbeats 3200000 in
theorem munlock_calls (w : World) (b : Nat) (F : Nat → Prop) (h : Bool) (who : Int) (L : List Wt) (hm : mP b h who L w F) (hL : L.length ≤ 1000000) (x : Int) :
    Calls Try.prog 32 #[.pointer (some ⟨b, 0, none⟩), .int .i64 x] w (UnlockPost w F b (mUnlock h who L x)) := by
  have hu := Try.underlying128
  have hu2 := Try.underlying113
  have hu3 := Try.underlying119
  have HM := Lib.hid hm
  obtain ⟨v, hb, hr, hF⟩ := hm
  have ap := hr.apart hb (by decide)
  have B := Lib.hid hb
  have R := Lib.hid hr
  have FF := Lib.hid hF
  have AP := Lib.hid ap
  have HW := Lib.hid (front_calls w b 128 _ v L hb rfl hr)
  have hc1 := hb.cell 1
  have hc2 := hb.cell 2
  clear hb hr hF ap
  cases h with
  | false =>
    have E := Lib.hid (show mUnlock false who L x = (0, 13, false, who, L) by unfold mUnlock; simp)
    go_enter Try.func32, Try.ntmps32
    go_wp2_with fail
    go_ret2
    rw [E.out]
    exact ⟨rfl, Step.none_ (mP_stable b false who L) HM.out (Keep.same _ _)⟩
  | true =>
    by_cases hw : who = x
    · subst hw
      cases L with
      | nil =>
        have E := Lib.hid (show mUnlock true who [] who = (-1, 0, false, who, []) by unfold mUnlock; simp)
        go_enter Try.func32, Try.ntmps32
        go_wp2_with fail
        refine HW.out.mono ?_
        rintro e w1 ⟨rfl, hk⟩
        unfold headW
        have K1 := Lib.hid hk
        have B1 := Lib.hid ((B.out.keep hk (fun h => h)).alloc (.cells #[.int .i64 0, .bool false, .bool false] 119))
        have d1 := B1.out.cell 1
        have g1 := B1.out.free 1
        clear hk hc1 hc2
        go_wp2_with fail
        go_ret2
        rw [E.out]
        have K2 := K1.out.alloc (.cells #[.int .i64 0, .bool false, .bool false] 119)
        exact ⟨rfl, mP_q FF.out (K2.wider (fun i h => h.elim)) (B1.out.put 1 _) ((R.out.keep K2 (fun _ _ h => h)).far (p := ⟨b, 1, none⟩) AP.out _) (fun k hk => .inl hk)
            ((Keep.same (fun k => k = b) _).set (p := ⟨b, 1, none⟩) (.inl rfl) _)⟩
      | cons y L =>
        have E := Lib.hid (show mUnlock true who (y :: L) who = (y.t, 0, true, y.t, L) by unfold mUnlock; simp)
        go_enter Try.func32, Try.ntmps32
        go_wp2_with fail
        refine HW.out.mono ?_
        rintro e w1 ⟨rfl, hk⟩
        unfold headW
        have K1 := Lib.hid (hk.alloc (.cells y.cs 119))
        have B1 := Lib.hid ((B.out.keep hk (fun h => h)).alloc (.cells y.cs 119))
        have R1 := Lib.hid (R.out.keep K1.out (fun _ _ h => h))
        have D1 := Lib.hid (Blk.fresh w1 119 y.cs)
        have HL := Lib.hid (leave_calls (w1.alloc (.cells y.cs 119)) b 128 _ v (y :: L) (by decide) B1.out rfl R1.out hL (by simp))
        have AW := Lib.hid (show b < w1.heap.size from Nat.lt_of_lt_of_le B.out.lt hk.size)
        have AV := Lib.hid (show ∀ k, v.ownBlock = some k → k < w1.heap.size from fun k h => Nat.lt_of_lt_of_le (R.out.lt k h) hk.size)
        clear hk hc1 hc2
        go_wp2_with fail
        refine HL.out.mono ?_
        rintro e w2 ⟨rfl, v2, hb2, hr2, hk2, ho2⟩
        have B2 := Lib.hid hb2
        have R2 := Lib.hid hr2
        have K2 := Lib.hid hk2
        have O2 := Lib.hid ho2
        have D2 := Lib.hid (D1.out.keep hk2 (fun h => by
          rcases h with h | h
          · have := AW.out; omega
          · have := AV.out _ h; omega))
        have d0 := D2.out.cell 0
        have g2 := B2.out.free 2
        have d2 := B2.out.cell 2
        have D3 := D2.out.far (p := ⟨b, 2, none⟩) (by have := AW.out; show w1.heap.size ≠ b; omega) (.int .i64 y.t)
        have d3 := D3.cell 0
        clear hb2 hr2 hk2 ho2 D3
        go_wp2_with fail
        go_ret2
        rw [E.out]
        have hne : v2.ownBlock ≠ some b := fun e => by
          rcases O2.out b e with h | h
          · exact AP.out h
          · have := AW.out; simp at h; omega
        exact ⟨rfl, mP_q FF.out ((K1.out.wider (fun i h => h.elim)).then K2.out) (B2.out.put 2 _) (R2.out.far (p := ⟨b, 2, none⟩) hne _) (fun k hk => (O2.out k hk).imp id fun h => Nat.le_trans K1.out.size h)
            ((Keep.same (fun k => k = b) _).set (p := ⟨b, 2, none⟩) (.inl rfl) _)⟩
    · have g0 : (who == x) = false := by rw [beq_eq_false_iff_ne]; exact hw
      have E := Lib.hid (show mUnlock true who L x = (0, 13, true, who, L) by unfold mUnlock; simp [hw])
      clear hw
      go_enter Try.func32, Try.ntmps32
      go_wp2_with fail
      go_ret2
      rw [E.out]
      exact ⟨rfl, Step.none_ (mP_stable b true who L) HM.out (Keep.same _ _)⟩
end Go.Proofs.Ytmohpjkbhpgidaa.A
