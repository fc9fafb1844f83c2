/-
  The rwlock: Holders, Queue.
-/
import Derived.Test.YtmohpjkbhpgidaaRB
import Derived.Deep.RegionHeld3
namespace Go.Proofs.Ytmohpjkbhpgidaa.A
open Go.RowKit Go.Proofs.Ytmohpjkbhpgidaa.U
set_option linter.unusedVariables false
set_option linter.unusedSimpArgs false
set_option maxRecDepth 100000

def HoldPost (W : List Int) (wr : Bool) (w : World) (e : Ending) (w' : World) : Prop := ∃ A c, e = .returned (.tuple #[.slice A W.length c, .bool (wr && !W.isEmpty)]) ∧ Row w' 3 1 (.slice A W.length c) W.length (ints W) ∧ Keep Nothing w w' ∧ ∀ k, (Value.slice A W.length c).ownBlock = some k → w.heap.size ≤ k
def FreshWts (L : List Wt) (w : World) (e : Ending) (w' : World) : Prop := ∃ A c, e = .returned (.slice A L.length c) ∧ Row w' 119 3 (.slice A L.length c) L.length (wts L) ∧ Keep Nothing w w' ∧ ∀ k, (Value.slice A L.length c).ownBlock = some k → w.heap.size ≤ k
theorem rwqueue_calls (w : World) (b : Nat) (F : Nat → Prop) (W : List Int) (wr : Bool) (L : List Wt) (hm : rwP b W wr L w F) (hL : L.length ≤ 1000000) :
    Calls Try.prog 27 #[.pointer (some ⟨b, 0, none⟩)] w (FreshWts L w) := by
  have hu := Try.underlying115
  have hu2 := Try.underlying113
  obtain ⟨v, u, hb, hr, hs, hF⟩ := hm
  obtain ⟨A, c, rfl, _, _⟩ := hr.form
  have hc0 := hb.cell 0
  have HC := Lib.hid (clonew_calls w A L.length c L hr.src hL)
  clear hb hr hs hF
  go_enter Try.func27, Try.ntmps27
  go_wp2_with fail
  refine HC.out.mono ?_
  rintro e w1 ⟨A1, c1, rfl, hr1, hk1, ho1⟩
  have R1 := Lib.hid hr1
  have K1 := Lib.hid hk1
  have O1 := Lib.hid ho1
  clear hr1 hk1 ho1
  go_wp2_with fail
  go_ret
  exact ⟨A1, c1, rfl, R1.out, K1.out, O1.out⟩
set_option maxHeartbeats 3200000 in
theorem holders_calls (w : World) (b : Nat) (F : Nat → Prop) (W : List Int) (wr : Bool) (L : List Wt) (hm : rwP b W wr L w F) (hW : W.length ≤ 1000000) :
    Calls Try.prog 25 #[.pointer (some ⟨b, 0, none⟩)] w (HoldPost W wr w) := by
  have hu := Try.underlying115
  obtain ⟨v, u, hb, hr, hs, hF⟩ := hm
  obtain ⟨A, c, rfl, _, _⟩ := hs.form
  have hc1 : w.cell? ⟨b, 1, none⟩ = some (.slice A W.length c) := hb.cell 1
  have hc2 : w.cell? ⟨b, 2, none⟩ = some (.bool wr) := hb.cell 2
  have SR := Lib.hid hs.src
  clear hb hr hs hF
  cases W with
  | nil =>
    go_enter Try.func25, Try.ntmps25
    go_wp2_with fail
    go_ret2
    exact ⟨none, 0, by simp, Row.nil _ 3 1, Keep.same _ _, fun k hk => by simp [Value.ownBlock] at hk⟩
  | cons y W =>
    have g0 : (((W.length + 1 : Nat) : Int) == 0) = false := by rw [beq_eq_false_iff_ne]; omega
    have HC := Lib.hid (fun n => clone_calls (w.drewN n) A (y :: W).length c (y :: W) (⟨SR.out.1, SR.out.2⟩) hW)
    go_enter Try.func25, Try.ntmps25
    go_wp2_with fail
    go_region_held3 (fun w' => w'.cell? ⟨b, 1, none⟩ = some (.slice A (y :: W).length c) ∧ w'.cell? ⟨b, 2, none⟩ = some (.bool wr)) (first | exact ⟨hc1, hc2⟩ | exact y9 | go_keep) ((first | (go_at_call 82; refine (HC.out _).mono ?_; rintro e w6 ⟨A1, c1, rfl, hr1, hk1, ho1⟩; have K6 := Lib.hid hk1; have R6 := Lib.hid hr1; have O6 := Lib.hid ho1; have y9 : w6.cell? ⟨b, 1, none⟩ = some (.slice A (y :: W).length c) ∧ w6.cell? ⟨b, 2, none⟩ = some (.bool wr) := ⟨hk1.cell hc1 (fun h => h), hk1.cell hc2 (fun h => h)⟩; clear hr1 hk1 ho1)))
    go_wp2_with fail
    go_ret2
    exact ⟨A1, c1, by simp, by first | exact R6.out | exact R6.out.drewN _, by first | exact K6.out | exact ((Keep.same _ w).drewN _).then K6.out | exact (((Keep.same _ w).drewN _).then K6.out).drewN _, O6.out⟩
end Go.Proofs.Ytmohpjkbhpgidaa.A
