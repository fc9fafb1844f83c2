/-
  The reference: which tasks are ready, blocked, at their end. Printed by gen_wa.py.
-/
import Derived.Test.YtmohpjkbhpgidaaWD
import Derived.Test.YtmohpjkbhpgidaaYK
namespace Go.Proofs.Ytmohpjkbhpgidaa.A
open Go.RowKit Go.Proofs.Ytmohpjkbhpgidaa.U
set_option linter.unusedVariables false
set_option linter.unusedSimpArgs false
set_option maxRecDepth 100000
set_option maxHeartbeats 1600000

def rdy (R : List RTk) (i : Int) : Bool := decide (0 ≤ i) && (match R[i.toNat]? with | some r => r.T.ready | none => false)
theorem ready93n (w : World) (b : Nat) (R : List RTk) (A : Option Addr) (c : Nat) (h : RTasks w b R A c) (i : Int) (hi : i < 0) :
    Calls Try.prog 93 #[.pointer (some ⟨b, 0, none⟩), .int .i64 i] w (fun e w' => e = .returned (.bool (rdy R i)) ∧ Keep Nothing w w') := by
  have E := Lib.hid (show rdy R i = false by unfold rdy; rw [decide_eq_false (by omega)]; rfl)
  have d1 : decide (0 ≤ i) = false := decide_eq_false (by omega)
  have hT : (fun _ => True : World → Prop) w := trivial
  have hu := Try.underlying155
  clear h hi
  go_enter Try.func93, Try.ntmps93
  go_wp2_with fail
  refine wp_region_noPanic ?_
  refine wp_region_held_drew (S := (fun _ => True)) (by kernel_rfl) hT (fun hHeld => ?_)
  refine tk 0 ?_
  (try simp only [pn])
  refine tk 1 ?_
  (try simp only [pn])
  refine tk 2 ?_
  (try simp only [pn])
  refine wpAnyH_take (i := 3) (oi := _) (v := undef) (by simp only [List.getElem?_toArray, List.getElem?_cons_succ, List.getElem?_cons_zero]; rfl) (by kernel_rfl) (by kernel_rfl) (by kernel_rfl) (fun _ _ _ h => h) (Or.inr ⟨by rfl, rfl⟩) (by assumption) ?_
  (try simp only [pn])
  refine wpAnyH_take (i := 4) (oi := _) (v := undef) (by simp only [List.getElem?_toArray, List.getElem?_cons_succ, List.getElem?_cons_zero]; rfl) (by kernel_rfl) (by kernel_rfl) (by kernel_rfl) (fun _ _ _ h => h) (Or.inr ⟨by rfl, rfl⟩) (by assumption) ?_
  (try simp only [pn])
  refine wpAnyH_take (i := 5) (oi := _) (v := undef) (by simp only [List.getElem?_toArray, List.getElem?_cons_succ, List.getElem?_cons_zero]; rfl) (by kernel_rfl) (by kernel_rfl) (by kernel_rfl) (fun _ _ _ h => h) (Or.inr ⟨by rfl, rfl⟩) (by assumption) ?_
  (try simp only [pn])
  refine wpAnyH_take (i := 6) (oi := _) (v := undef) (by simp only [List.getElem?_toArray, List.getElem?_cons_succ, List.getElem?_cons_zero]; rfl) (by kernel_rfl) (by kernel_rfl) (by kernel_rfl) (fun _ _ _ h => h) (Or.inr ⟨by rfl, rfl⟩) (by assumption) ?_
  (try simp only [pn])
  refine wpAnyH_take (i := 7) (oi := _) (v := undef) (by simp only [List.getElem?_toArray, List.getElem?_cons_succ, List.getElem?_cons_zero]; rfl) (by kernel_rfl) (by kernel_rfl) (by kernel_rfl) (fun _ _ _ h => h) (Or.inr ⟨by rfl, rfl⟩) (by assumption) ?_
  (try simp only [pn])
  refine wpAnyH_take (i := 8) (oi := _) (v := undef) (by simp only [List.getElem?_toArray, List.getElem?_cons_succ, List.getElem?_cons_zero]; rfl) (by kernel_rfl) (by kernel_rfl) (by kernel_rfl) (fun _ _ _ h => h) (Or.inr ⟨by rfl, rfl⟩) (by assumption) ?_
  (try simp only [pn])
  refine wpAnyH_take (i := 9) (oi := _) (v := undef) (by simp only [List.getElem?_toArray, List.getElem?_cons_succ, List.getElem?_cons_zero]; rfl) (by kernel_rfl) (by kernel_rfl) (by kernel_rfl) (fun _ _ _ h => h) (Or.inr ⟨by rfl, rfl⟩) (by assumption) ?_
  (try simp only [pn])
  refine tk 10 ?_
  (try simp only [pn])
  refine tk 11 ?_
  (try simp only [pn])
  refine wpAnyH_take (i := 12) (oi := _) (v := undef) (by simp only [List.getElem?_toArray, List.getElem?_cons_succ, List.getElem?_cons_zero]; rfl) (by kernel_rfl) (by kernel_rfl) (by kernel_rfl) (fun _ _ _ h => h) (Or.inr ⟨by rfl, rfl⟩) (by assumption) ?_
  (try simp only [pn])
  refine wpAnyH_take (i := 13) (oi := _) (v := undef) (by simp only [List.getElem?_toArray, List.getElem?_cons_succ, List.getElem?_cons_zero]; rfl) (by kernel_rfl) (by kernel_rfl) (by kernel_rfl) (fun _ _ _ h => h) (Or.inr ⟨by rfl, rfl⟩) (by assumption) ?_
  (try simp only [pn])
  refine wpAnyH_take (i := 14) (oi := _) (v := undef) (by simp only [List.getElem?_toArray, List.getElem?_cons_succ, List.getElem?_cons_zero]; rfl) (by kernel_rfl) (by kernel_rfl) (by kernel_rfl) (fun _ _ _ h => h) (Or.inr ⟨by rfl, rfl⟩) (by assumption) ?_
  (try simp only [pn])
  refine wpAnyH_take (i := 15) (oi := _) (v := undef) (by simp only [List.getElem?_toArray, List.getElem?_cons_succ, List.getElem?_cons_zero]; rfl) (by kernel_rfl) (by kernel_rfl) (by kernel_rfl) (fun _ _ _ h => h) (Or.inr ⟨by rfl, rfl⟩) (by assumption) ?_
  (try simp only [pn])
  refine wpAnyH_take (i := 16) (oi := _) (v := undef) (by simp only [List.getElem?_toArray, List.getElem?_cons_succ, List.getElem?_cons_zero]; rfl) (by kernel_rfl) (by kernel_rfl) (by kernel_rfl) (fun _ _ _ h => h) (Or.inr ⟨by rfl, rfl⟩) (by assumption) ?_
  (try simp only [pn])
  refine wpAnyH_take (i := 17) (oi := _) (v := undef) (by simp only [List.getElem?_toArray, List.getElem?_cons_succ, List.getElem?_cons_zero]; rfl) (by kernel_rfl) (by kernel_rfl) (by kernel_rfl) (fun _ _ _ h => h) (Or.inr ⟨by rfl, rfl⟩) (by assumption) ?_
  (try simp only [pn])
  refine wpAnyH_take (i := 18) (oi := _) (v := undef) (by simp only [List.getElem?_toArray, List.getElem?_cons_succ, List.getElem?_cons_zero]; rfl) (by kernel_rfl) (by kernel_rfl) (by kernel_rfl) (fun _ _ _ h => h) (Or.inr ⟨by rfl, rfl⟩) (by assumption) ?_
  (try simp only [pn])
  refine wpAnyH_take (i := 19) (oi := _) (v := undef) (by simp only [List.getElem?_toArray, List.getElem?_cons_succ, List.getElem?_cons_zero]; rfl) (by kernel_rfl) (by kernel_rfl) (by kernel_rfl) (fun _ _ _ h => h) (Or.inr ⟨by rfl, rfl⟩) (by assumption) ?_
  (try simp only [pn])
  refine wpAnyH_take (i := 20) (oi := _) (v := undef) (by simp only [List.getElem?_toArray, List.getElem?_cons_succ, List.getElem?_cons_zero]; rfl) (by kernel_rfl) (by kernel_rfl) (by kernel_rfl) (fun _ _ _ h => h) (Or.inr ⟨by rfl, rfl⟩) (by assumption) ?_
  (try simp only [pn])
  refine tk 21 ?_
  (try simp only [pn])
  refine tk 22 ?_
  (try simp only [pn])
  refine wpAnyH_take (i := 23) (oi := _) (v := undef) (by simp only [List.getElem?_toArray, List.getElem?_cons_succ, List.getElem?_cons_zero]; rfl) (by kernel_rfl) (by kernel_rfl) (by kernel_rfl) (fun _ _ _ h => h) (Or.inr ⟨by rfl, rfl⟩) (by assumption) ?_
  (try simp only [pn])
  refine wpAnyH_take (i := 24) (oi := _) (v := undef) (by simp only [List.getElem?_toArray, List.getElem?_cons_succ, List.getElem?_cons_zero]; rfl) (by kernel_rfl) (by kernel_rfl) (by kernel_rfl) (fun _ _ _ h => h) (Or.inr ⟨by rfl, rfl⟩) (by assumption) ?_
  (try simp only [pn])
  refine wpAnyH_take (i := 25) (oi := _) (v := undef) (by simp only [List.getElem?_toArray, List.getElem?_cons_succ, List.getElem?_cons_zero]; rfl) (by kernel_rfl) (by kernel_rfl) (by kernel_rfl) (fun _ _ _ h => h) (Or.inr ⟨by rfl, rfl⟩) (by assumption) ?_
  (try simp only [pn])
  refine wpAnyH_take (i := 26) (oi := _) (v := undef) (by simp only [List.getElem?_toArray, List.getElem?_cons_succ, List.getElem?_cons_zero]; rfl) (by kernel_rfl) (by kernel_rfl) (by kernel_rfl) (fun _ _ _ h => h) (Or.inr ⟨by rfl, rfl⟩) (by assumption) ?_
  (try simp only [pn])
  refine wpAnyH_take (i := 27) (oi := _) (v := undef) (by simp only [List.getElem?_toArray, List.getElem?_cons_succ, List.getElem?_cons_zero]; rfl) (by kernel_rfl) (by kernel_rfl) (by kernel_rfl) (fun _ _ _ h => h) (Or.inr ⟨by rfl, rfl⟩) (by assumption) ?_
  (try simp only [pn])
  refine wpAnyH_take (i := 28) (oi := _) (v := undef) (by simp only [List.getElem?_toArray, List.getElem?_cons_succ, List.getElem?_cons_zero]; rfl) (by kernel_rfl) (by kernel_rfl) (by kernel_rfl) (fun _ _ _ h => h) (Or.inr ⟨by rfl, rfl⟩) (by assumption) ?_
  (try simp only [pn])
  refine wpAnyH_take (i := 29) (oi := _) (v := undef) (by simp only [List.getElem?_toArray, List.getElem?_cons_succ, List.getElem?_cons_zero]; rfl) (by kernel_rfl) (by kernel_rfl) (by kernel_rfl) (fun _ _ _ h => h) (Or.inr ⟨by rfl, rfl⟩) (by assumption) ?_
  (try simp only [pn])
  refine wpAnyH_take (i := 30) (oi := _) (v := undef) (by simp only [List.getElem?_toArray, List.getElem?_cons_succ, List.getElem?_cons_zero]; rfl) (by kernel_rfl) (by kernel_rfl) (by kernel_rfl) (fun _ _ _ h => h) (Or.inr ⟨by rfl, rfl⟩) (by assumption) ?_
  (try simp only [pn])
  refine wpAnyH_take (i := 31) (oi := _) (v := undef) (by simp only [List.getElem?_toArray, List.getElem?_cons_succ, List.getElem?_cons_zero]; rfl) (by kernel_rfl) (by kernel_rfl) (by kernel_rfl) (fun _ _ _ h => h) (Or.inr ⟨by rfl, rfl⟩) (by assumption) ?_
  (try simp only [pn])
  refine wpAnyH_take (i := 32) (oi := _) (v := undef) (by simp only [List.getElem?_toArray, List.getElem?_cons_succ, List.getElem?_cons_zero]; rfl) (by kernel_rfl) (by kernel_rfl) (by kernel_rfl) (fun _ _ _ h => h) (Or.inr ⟨by rfl, rfl⟩) (by assumption) ?_
  (try simp only [pn])
  refine wpAnyH_take (i := 33) (oi := _) (v := undef) (by simp only [List.getElem?_toArray, List.getElem?_cons_succ, List.getElem?_cons_zero]; rfl) (by kernel_rfl) (by kernel_rfl) (by kernel_rfl) (fun _ _ _ h => h) (Or.inr ⟨by rfl, rfl⟩) (by assumption) ?_
  (try simp only [pn])
  refine wpAnyH_take (i := 34) (oi := _) (v := undef) (by simp only [List.getElem?_toArray, List.getElem?_cons_succ, List.getElem?_cons_zero]; rfl) (by kernel_rfl) (by kernel_rfl) (by kernel_rfl) (fun _ _ _ h => h) (Or.inr ⟨by rfl, rfl⟩) (by assumption) ?_
  (try simp only [pn])
  refine wpAnyH_take (i := 35) (oi := _) (v := undef) (by simp only [List.getElem?_toArray, List.getElem?_cons_succ, List.getElem?_cons_zero]; rfl) (by kernel_rfl) (by kernel_rfl) (by kernel_rfl) (fun _ _ _ h => h) (Or.inr ⟨by rfl, rfl⟩) (by assumption) ?_
  (try simp only [pn])
  refine wpAnyH_take (i := 36) (oi := _) (v := undef) (by simp only [List.getElem?_toArray, List.getElem?_cons_succ, List.getElem?_cons_zero]; rfl) (by kernel_rfl) (by kernel_rfl) (by kernel_rfl) (fun _ _ _ h => h) (Or.inr ⟨by rfl, rfl⟩) (by assumption) ?_
  (try simp only [pn])
  refine wpAnyH_take (i := 37) (oi := _) (v := undef) (by simp only [List.getElem?_toArray, List.getElem?_cons_succ, List.getElem?_cons_zero]; rfl) (by kernel_rfl) (by kernel_rfl) (by kernel_rfl) (fun _ _ _ h => h) (Or.inr ⟨by rfl, rfl⟩) (by assumption) ?_
  (try simp only [pn])
  refine wpAnyH_take (i := 38) (oi := _) (v := undef) (by simp only [List.getElem?_toArray, List.getElem?_cons_succ, List.getElem?_cons_zero]; rfl) (by kernel_rfl) (by kernel_rfl) (by kernel_rfl) (fun _ _ _ h => h) (Or.inr ⟨by rfl, rfl⟩) (by assumption) ?_
  (try simp only [pn])
  refine wpAnyH_take (i := 39) (oi := _) (v := undef) (by simp only [List.getElem?_toArray, List.getElem?_cons_succ, List.getElem?_cons_zero]; rfl) (by kernel_rfl) (by kernel_rfl) (by kernel_rfl) (fun _ _ _ h => h) (Or.inr ⟨by rfl, rfl⟩) (by assumption) ?_
  (try simp only [pn])
  refine wpAnyH_take (i := 40) (oi := _) (v := undef) (by simp only [List.getElem?_toArray, List.getElem?_cons_succ, List.getElem?_cons_zero]; rfl) (by kernel_rfl) (by kernel_rfl) (by kernel_rfl) (fun _ _ _ h => h) (Or.inr ⟨by rfl, rfl⟩) (by assumption) ?_
  (try simp only [pn])
  refine tk 41 ?_
  (try simp only [pn])
  refine tk 42 ?_
  (try simp only [pn])
  refine wpAnyH_done (by kernel_rfl) ?_ _
  refine NoPanic.normal ?_
  clear hT
  go_wp2_with fail
  go_ret
  exact ⟨by (rw [E.out]; rfl), (Keep.same Nothing w).drew⟩
theorem ready93b (w : World) (b : Nat) (R : List RTk) (A : Option Addr) (c : Nat) (h : RTasks w b R A c) (i : Nat) (hi : ¬ i < R.length) :
    Calls Try.prog 93 #[.pointer (some ⟨b, 0, none⟩), .int .i64 i] w (fun e w' => e = .returned (.bool (rdy R i)) ∧ Keep Nothing w w') := by
  have E := Lib.hid (show rdy R i = false by unfold rdy; rw [Int.toNat_natCast, List.getElem?_eq_none (by omega)]; simp)
  have hu := Try.underlying155
  have hH : (fun w' => w'.cell? ⟨b, 0, none⟩ = some (.slice A R.length c)) w := h.c0
  dsimp only at hH
  clear h
  go_enter Try.func93, Try.ntmps93
  go_wp2_with fail
  refine wp_region_noPanic ?_
  refine wp_region_held_drew (S := (fun w' => w'.cell? ⟨b, 0, none⟩ = some (.slice A R.length c))) (by kernel_rfl) hH (fun hHeld => ?_)
  refine tk 0 ?_
  (try simp only [pn])
  refine tk 1 ?_
  (try simp only [pn])
  refine tk 2 ?_
  (try simp only [pn])
  refine tk 3 ?_
  (try simp only [pn])
  refine tk 4 ?_
  (try simp only [pn])
  refine tk 5 ?_
  (try simp only [pn])
  refine tk 6 ?_
  (try simp only [pn])
  refine tk 7 ?_
  (try simp only [pn])
  refine tk 8 ?_
  (try simp only [pn])
  refine tk 9 ?_
  (try simp only [pn])
  refine tk 10 ?_
  (try simp only [pn])
  refine tk 11 ?_
  (try simp only [pn])
  refine wpAnyH_take (i := 12) (oi := _) (v := undef) (by simp only [List.getElem?_toArray, List.getElem?_cons_succ, List.getElem?_cons_zero]; rfl) (by kernel_rfl) (by kernel_rfl) (by kernel_rfl) (fun _ _ _ h => h) (Or.inr ⟨by rfl, rfl⟩) (by assumption) ?_
  (try simp only [pn])
  refine wpAnyH_take (i := 13) (oi := _) (v := undef) (by simp only [List.getElem?_toArray, List.getElem?_cons_succ, List.getElem?_cons_zero]; rfl) (by kernel_rfl) (by kernel_rfl) (by kernel_rfl) (fun _ _ _ h => h) (Or.inr ⟨by rfl, rfl⟩) (by assumption) ?_
  (try simp only [pn])
  refine wpAnyH_take (i := 14) (oi := _) (v := undef) (by simp only [List.getElem?_toArray, List.getElem?_cons_succ, List.getElem?_cons_zero]; rfl) (by kernel_rfl) (by kernel_rfl) (by kernel_rfl) (fun _ _ _ h => h) (Or.inr ⟨by rfl, rfl⟩) (by assumption) ?_
  (try simp only [pn])
  refine wpAnyH_take (i := 15) (oi := _) (v := undef) (by simp only [List.getElem?_toArray, List.getElem?_cons_succ, List.getElem?_cons_zero]; rfl) (by kernel_rfl) (by kernel_rfl) (by kernel_rfl) (fun _ _ _ h => h) (Or.inr ⟨by rfl, rfl⟩) (by assumption) ?_
  (try simp only [pn])
  refine wpAnyH_take (i := 16) (oi := _) (v := undef) (by simp only [List.getElem?_toArray, List.getElem?_cons_succ, List.getElem?_cons_zero]; rfl) (by kernel_rfl) (by kernel_rfl) (by kernel_rfl) (fun _ _ _ h => h) (Or.inr ⟨by rfl, rfl⟩) (by assumption) ?_
  (try simp only [pn])
  refine wpAnyH_take (i := 17) (oi := _) (v := undef) (by simp only [List.getElem?_toArray, List.getElem?_cons_succ, List.getElem?_cons_zero]; rfl) (by kernel_rfl) (by kernel_rfl) (by kernel_rfl) (fun _ _ _ h => h) (Or.inr ⟨by rfl, rfl⟩) (by assumption) ?_
  (try simp only [pn])
  refine wpAnyH_take (i := 18) (oi := _) (v := undef) (by simp only [List.getElem?_toArray, List.getElem?_cons_succ, List.getElem?_cons_zero]; rfl) (by kernel_rfl) (by kernel_rfl) (by kernel_rfl) (fun _ _ _ h => h) (Or.inr ⟨by rfl, rfl⟩) (by assumption) ?_
  (try simp only [pn])
  refine wpAnyH_take (i := 19) (oi := _) (v := undef) (by simp only [List.getElem?_toArray, List.getElem?_cons_succ, List.getElem?_cons_zero]; rfl) (by kernel_rfl) (by kernel_rfl) (by kernel_rfl) (fun _ _ _ h => h) (Or.inr ⟨by rfl, rfl⟩) (by assumption) ?_
  (try simp only [pn])
  refine wpAnyH_take (i := 20) (oi := _) (v := undef) (by simp only [List.getElem?_toArray, List.getElem?_cons_succ, List.getElem?_cons_zero]; rfl) (by kernel_rfl) (by kernel_rfl) (by kernel_rfl) (fun _ _ _ h => h) (Or.inr ⟨by rfl, rfl⟩) (by assumption) ?_
  (try simp only [pn])
  refine tk 21 ?_
  (try simp only [pn])
  refine tk 22 ?_
  (try simp only [pn])
  refine wpAnyH_take (i := 23) (oi := _) (v := undef) (by simp only [List.getElem?_toArray, List.getElem?_cons_succ, List.getElem?_cons_zero]; rfl) (by kernel_rfl) (by kernel_rfl) (by kernel_rfl) (fun _ _ _ h => h) (Or.inr ⟨by rfl, rfl⟩) (by assumption) ?_
  (try simp only [pn])
  refine wpAnyH_take (i := 24) (oi := _) (v := undef) (by simp only [List.getElem?_toArray, List.getElem?_cons_succ, List.getElem?_cons_zero]; rfl) (by kernel_rfl) (by kernel_rfl) (by kernel_rfl) (fun _ _ _ h => h) (Or.inr ⟨by rfl, rfl⟩) (by assumption) ?_
  (try simp only [pn])
  refine wpAnyH_take (i := 25) (oi := _) (v := undef) (by simp only [List.getElem?_toArray, List.getElem?_cons_succ, List.getElem?_cons_zero]; rfl) (by kernel_rfl) (by kernel_rfl) (by kernel_rfl) (fun _ _ _ h => h) (Or.inr ⟨by rfl, rfl⟩) (by assumption) ?_
  (try simp only [pn])
  refine wpAnyH_take (i := 26) (oi := _) (v := undef) (by simp only [List.getElem?_toArray, List.getElem?_cons_succ, List.getElem?_cons_zero]; rfl) (by kernel_rfl) (by kernel_rfl) (by kernel_rfl) (fun _ _ _ h => h) (Or.inr ⟨by rfl, rfl⟩) (by assumption) ?_
  (try simp only [pn])
  refine wpAnyH_take (i := 27) (oi := _) (v := undef) (by simp only [List.getElem?_toArray, List.getElem?_cons_succ, List.getElem?_cons_zero]; rfl) (by kernel_rfl) (by kernel_rfl) (by kernel_rfl) (fun _ _ _ h => h) (Or.inr ⟨by rfl, rfl⟩) (by assumption) ?_
  (try simp only [pn])
  refine wpAnyH_take (i := 28) (oi := _) (v := undef) (by simp only [List.getElem?_toArray, List.getElem?_cons_succ, List.getElem?_cons_zero]; rfl) (by kernel_rfl) (by kernel_rfl) (by kernel_rfl) (fun _ _ _ h => h) (Or.inr ⟨by rfl, rfl⟩) (by assumption) ?_
  (try simp only [pn])
  refine wpAnyH_take (i := 29) (oi := _) (v := undef) (by simp only [List.getElem?_toArray, List.getElem?_cons_succ, List.getElem?_cons_zero]; rfl) (by kernel_rfl) (by kernel_rfl) (by kernel_rfl) (fun _ _ _ h => h) (Or.inr ⟨by rfl, rfl⟩) (by assumption) ?_
  (try simp only [pn])
  refine wpAnyH_take (i := 30) (oi := _) (v := undef) (by simp only [List.getElem?_toArray, List.getElem?_cons_succ, List.getElem?_cons_zero]; rfl) (by kernel_rfl) (by kernel_rfl) (by kernel_rfl) (fun _ _ _ h => h) (Or.inr ⟨by rfl, rfl⟩) (by assumption) ?_
  (try simp only [pn])
  refine wpAnyH_take (i := 31) (oi := _) (v := undef) (by simp only [List.getElem?_toArray, List.getElem?_cons_succ, List.getElem?_cons_zero]; rfl) (by kernel_rfl) (by kernel_rfl) (by kernel_rfl) (fun _ _ _ h => h) (Or.inr ⟨by rfl, rfl⟩) (by assumption) ?_
  (try simp only [pn])
  refine wpAnyH_take (i := 32) (oi := _) (v := undef) (by simp only [List.getElem?_toArray, List.getElem?_cons_succ, List.getElem?_cons_zero]; rfl) (by kernel_rfl) (by kernel_rfl) (by kernel_rfl) (fun _ _ _ h => h) (Or.inr ⟨by rfl, rfl⟩) (by assumption) ?_
  (try simp only [pn])
  refine wpAnyH_take (i := 33) (oi := _) (v := undef) (by simp only [List.getElem?_toArray, List.getElem?_cons_succ, List.getElem?_cons_zero]; rfl) (by kernel_rfl) (by kernel_rfl) (by kernel_rfl) (fun _ _ _ h => h) (Or.inr ⟨by rfl, rfl⟩) (by assumption) ?_
  (try simp only [pn])
  refine wpAnyH_take (i := 34) (oi := _) (v := undef) (by simp only [List.getElem?_toArray, List.getElem?_cons_succ, List.getElem?_cons_zero]; rfl) (by kernel_rfl) (by kernel_rfl) (by kernel_rfl) (fun _ _ _ h => h) (Or.inr ⟨by rfl, rfl⟩) (by assumption) ?_
  (try simp only [pn])
  refine wpAnyH_take (i := 35) (oi := _) (v := undef) (by simp only [List.getElem?_toArray, List.getElem?_cons_succ, List.getElem?_cons_zero]; rfl) (by kernel_rfl) (by kernel_rfl) (by kernel_rfl) (fun _ _ _ h => h) (Or.inr ⟨by rfl, rfl⟩) (by assumption) ?_
  (try simp only [pn])
  refine wpAnyH_take (i := 36) (oi := _) (v := undef) (by simp only [List.getElem?_toArray, List.getElem?_cons_succ, List.getElem?_cons_zero]; rfl) (by kernel_rfl) (by kernel_rfl) (by kernel_rfl) (fun _ _ _ h => h) (Or.inr ⟨by rfl, rfl⟩) (by assumption) ?_
  (try simp only [pn])
  refine wpAnyH_take (i := 37) (oi := _) (v := undef) (by simp only [List.getElem?_toArray, List.getElem?_cons_succ, List.getElem?_cons_zero]; rfl) (by kernel_rfl) (by kernel_rfl) (by kernel_rfl) (fun _ _ _ h => h) (Or.inr ⟨by rfl, rfl⟩) (by assumption) ?_
  (try simp only [pn])
  refine wpAnyH_take (i := 38) (oi := _) (v := undef) (by simp only [List.getElem?_toArray, List.getElem?_cons_succ, List.getElem?_cons_zero]; rfl) (by kernel_rfl) (by kernel_rfl) (by kernel_rfl) (fun _ _ _ h => h) (Or.inr ⟨by rfl, rfl⟩) (by assumption) ?_
  (try simp only [pn])
  refine wpAnyH_take (i := 39) (oi := _) (v := undef) (by simp only [List.getElem?_toArray, List.getElem?_cons_succ, List.getElem?_cons_zero]; rfl) (by kernel_rfl) (by kernel_rfl) (by kernel_rfl) (fun _ _ _ h => h) (Or.inr ⟨by rfl, rfl⟩) (by assumption) ?_
  (try simp only [pn])
  refine wpAnyH_take (i := 40) (oi := _) (v := undef) (by simp only [List.getElem?_toArray, List.getElem?_cons_succ, List.getElem?_cons_zero]; rfl) (by kernel_rfl) (by kernel_rfl) (by kernel_rfl) (fun _ _ _ h => h) (Or.inr ⟨by rfl, rfl⟩) (by assumption) ?_
  (try simp only [pn])
  refine tk 41 ?_
  (try simp only [pn])
  refine tk 42 ?_
  (try simp only [pn])
  refine wpAnyH_done (by kernel_rfl) ?_ _
  refine NoPanic.normal ?_
  clear hH
  go_wp2_with fail
  go_ret
  exact ⟨by (rw [E.out]; rfl), (Keep.same Nothing w).drew⟩
theorem ready93i (w : World) (b : Nat) (R : List RTk) (A : Option Addr) (c : Nat) (h : RTasks w b R A c) (i : Nat) (hil : i < R.length) :
    Calls Try.prog 93 #[.pointer (some ⟨b, 0, none⟩), .int .i64 i] w (fun e w' => e = .returned (.bool (rdy R i)) ∧ Keep Nothing w w') := by
  have hu := Try.underlying155
  have hu2 := Try.underlying157
  have HT := Lib.hid h
  clear h
  obtain ⟨ad, r, hA, hR, hat⟩ := rt_at HT.out.src hil
  subst hA
  obtain ⟨A1, c1, A2, c2, hf1, hf2⟩ := HT.out.form r (List.mem_of_getElem? hR)
  obtain ⟨m, hm⟩ : ∃ m, r.T.ops.length = m := ⟨_, rfl⟩
  obtain ⟨a, ha⟩ : ∃ a, r.T.at_ = a := ⟨_, rfl⟩
  have E0 := Lib.hid (show rdy R i = (!r.T.blk && decide (a < m)) by unfold rdy; rw [Int.toNat_natCast, hR]; simp [Tk.ready, ha, hm])
  cases hb : r.T.blk
  · have hH : (fun w' => w'.cell? ⟨b, 0, none⟩ = some (.slice (some ad) R.length c) ∧ w'.cell? (ad.add (i * 4)) = some (.slice A1 m c1) ∧ w'.cell? ⟨(ad.add (i * 4)).block, (ad.add (i * 4)).off + 1, none⟩ = some (.int .i64 a) ∧ w'.cell? ⟨(ad.add (i * 4)).block, (ad.add (i * 4)).off + 2, none⟩ = some (.bool false)) w := ⟨HT.out.c0, by rw [← hm, ← hf1]; exact hat.o, by rw [← ha]; exact hat.a, by rw [← hb]; exact hat.b⟩
    dsimp only at hH
    rw [hb] at E0
    clear hat hm ha hf1 hf2 hR hb
    go_enter Try.func93, Try.ntmps93
    go_wp2_with fail
    refine wp_region_noPanic ?_
    refine wp_region_held_drew (S := (fun w' => w'.cell? ⟨b, 0, none⟩ = some (.slice (some ad) R.length c) ∧ w'.cell? (ad.add (i * 4)) = some (.slice A1 m c1) ∧ w'.cell? ⟨(ad.add (i * 4)).block, (ad.add (i * 4)).off + 1, none⟩ = some (.int .i64 a) ∧ w'.cell? ⟨(ad.add (i * 4)).block, (ad.add (i * 4)).off + 2, none⟩ = some (.bool false))) (by kernel_rfl) hH (fun hHeld => ?_)
    refine tk 0 ?_
    (try simp only [pn])
    refine tk 1 ?_
    (try simp only [pn])
    refine tk 2 ?_
    (try simp only [pn])
    refine tk 3 ?_
    (try simp only [pn])
    refine tk 4 ?_
    (try simp only [pn])
    refine tk 5 ?_
    (try simp only [pn])
    refine tk 6 ?_
    (try simp only [pn])
    refine tk 7 ?_
    (try simp only [pn])
    refine tk 8 ?_
    (try simp only [pn])
    refine tk 9 ?_
    (try simp only [pn])
    refine tk 10 ?_
    (try simp only [pn])
    refine tk 11 ?_
    (try simp only [pn])
    refine tk 12 ?_
    (try simp only [pn])
    refine tk 13 ?_
    (try simp only [pn])
    refine tk 14 ?_
    (try simp only [pn])
    refine tk 15 ?_
    (try simp only [pn])
    refine tk 16 ?_
    (try simp only [pn])
    refine tk 17 ?_
    (try simp only [pn])
    refine tk 18 ?_
    (try simp only [pn])
    refine tk 19 ?_
    (try simp only [pn])
    refine tk 20 ?_
    (try simp only [pn])
    refine tk 21 ?_
    (try simp only [pn])
    refine tk 22 ?_
    (try simp only [pn])
    refine tk 23 ?_
    (try simp only [pn])
    refine tk 24 ?_
    (try simp only [pn])
    refine tk 25 ?_
    (try simp only [pn])
    refine tk 26 ?_
    (try simp only [pn])
    refine tk 27 ?_
    (try simp only [pn])
    refine tk 28 ?_
    (try simp only [pn])
    refine tk 29 ?_
    (try simp only [pn])
    refine tk 30 ?_
    (try simp only [pn])
    refine tk 31 ?_
    (try simp only [pn])
    refine tk 32 ?_
    (try simp only [pn])
    refine tk 33 ?_
    (try simp only [pn])
    refine tk 34 ?_
    (try simp only [pn])
    refine tk 35 ?_
    (try simp only [pn])
    refine tk 36 ?_
    (try simp only [pn])
    refine tk 37 ?_
    (try simp only [pn])
    refine tk 38 ?_
    (try simp only [pn])
    refine tk 39 ?_
    (try simp only [pn])
    refine tk 40 ?_
    (try simp only [pn])
    refine tk 41 ?_
    (try simp only [pn])
    refine tk 42 ?_
    (try simp only [pn])
    refine wpAnyH_done (by kernel_rfl) ?_ _
    refine NoPanic.normal ?_
    clear hH
    go_wp2_with fail
    go_ret
    exact ⟨by (rw [E0.out]; rfl), (Keep.same Nothing w).drew⟩
  · have hH : (fun w' => w'.cell? ⟨b, 0, none⟩ = some (.slice (some ad) R.length c) ∧ w'.cell? (ad.add (i * 4)) = some (.slice A1 m c1) ∧ w'.cell? ⟨(ad.add (i * 4)).block, (ad.add (i * 4)).off + 1, none⟩ = some (.int .i64 a) ∧ w'.cell? ⟨(ad.add (i * 4)).block, (ad.add (i * 4)).off + 2, none⟩ = some (.bool true)) w := ⟨HT.out.c0, by rw [← hm, ← hf1]; exact hat.o, by rw [← ha]; exact hat.a, by rw [← hb]; exact hat.b⟩
    dsimp only at hH
    rw [hb] at E0
    clear hat hm ha hf1 hf2 hR hb
    go_enter Try.func93, Try.ntmps93
    go_wp2_with fail
    refine wp_region_noPanic ?_
    refine wp_region_held_drew (S := (fun w' => w'.cell? ⟨b, 0, none⟩ = some (.slice (some ad) R.length c) ∧ w'.cell? (ad.add (i * 4)) = some (.slice A1 m c1) ∧ w'.cell? ⟨(ad.add (i * 4)).block, (ad.add (i * 4)).off + 1, none⟩ = some (.int .i64 a) ∧ w'.cell? ⟨(ad.add (i * 4)).block, (ad.add (i * 4)).off + 2, none⟩ = some (.bool true))) (by kernel_rfl) hH (fun hHeld => ?_)
    refine tk 0 ?_
    (try simp only [pn])
    refine tk 1 ?_
    (try simp only [pn])
    refine tk 2 ?_
    (try simp only [pn])
    refine tk 3 ?_
    (try simp only [pn])
    refine tk 4 ?_
    (try simp only [pn])
    refine tk 5 ?_
    (try simp only [pn])
    refine tk 6 ?_
    (try simp only [pn])
    refine tk 7 ?_
    (try simp only [pn])
    refine tk 8 ?_
    (try simp only [pn])
    refine tk 9 ?_
    (try simp only [pn])
    refine tk 10 ?_
    (try simp only [pn])
    refine tk 11 ?_
    (try simp only [pn])
    refine tk 12 ?_
    (try simp only [pn])
    refine tk 13 ?_
    (try simp only [pn])
    refine tk 14 ?_
    (try simp only [pn])
    refine tk 15 ?_
    (try simp only [pn])
    refine tk 16 ?_
    (try simp only [pn])
    refine tk 17 ?_
    (try simp only [pn])
    refine tk 18 ?_
    (try simp only [pn])
    refine tk 19 ?_
    (try simp only [pn])
    refine tk 20 ?_
    (try simp only [pn])
    refine tk 21 ?_
    (try simp only [pn])
    refine tk 22 ?_
    (try simp only [pn])
    refine wpAnyH_take (i := 23) (oi := _) (v := undef) (by simp only [List.getElem?_toArray, List.getElem?_cons_succ, List.getElem?_cons_zero]; rfl) (by kernel_rfl) (by kernel_rfl) (by kernel_rfl) (fun _ _ _ h => h) (Or.inr ⟨by rfl, rfl⟩) (by assumption) ?_
    (try simp only [pn])
    refine wpAnyH_take (i := 24) (oi := _) (v := undef) (by simp only [List.getElem?_toArray, List.getElem?_cons_succ, List.getElem?_cons_zero]; rfl) (by kernel_rfl) (by kernel_rfl) (by kernel_rfl) (fun _ _ _ h => h) (Or.inr ⟨by rfl, rfl⟩) (by assumption) ?_
    (try simp only [pn])
    refine wpAnyH_take (i := 25) (oi := _) (v := undef) (by simp only [List.getElem?_toArray, List.getElem?_cons_succ, List.getElem?_cons_zero]; rfl) (by kernel_rfl) (by kernel_rfl) (by kernel_rfl) (fun _ _ _ h => h) (Or.inr ⟨by rfl, rfl⟩) (by assumption) ?_
    (try simp only [pn])
    refine wpAnyH_take (i := 26) (oi := _) (v := undef) (by simp only [List.getElem?_toArray, List.getElem?_cons_succ, List.getElem?_cons_zero]; rfl) (by kernel_rfl) (by kernel_rfl) (by kernel_rfl) (fun _ _ _ h => h) (Or.inr ⟨by rfl, rfl⟩) (by assumption) ?_
    (try simp only [pn])
    refine wpAnyH_take (i := 27) (oi := _) (v := undef) (by simp only [List.getElem?_toArray, List.getElem?_cons_succ, List.getElem?_cons_zero]; rfl) (by kernel_rfl) (by kernel_rfl) (by kernel_rfl) (fun _ _ _ h => h) (Or.inr ⟨by rfl, rfl⟩) (by assumption) ?_
    (try simp only [pn])
    refine wpAnyH_take (i := 28) (oi := _) (v := undef) (by simp only [List.getElem?_toArray, List.getElem?_cons_succ, List.getElem?_cons_zero]; rfl) (by kernel_rfl) (by kernel_rfl) (by kernel_rfl) (fun _ _ _ h => h) (Or.inr ⟨by rfl, rfl⟩) (by assumption) ?_
    (try simp only [pn])
    refine wpAnyH_take (i := 29) (oi := _) (v := undef) (by simp only [List.getElem?_toArray, List.getElem?_cons_succ, List.getElem?_cons_zero]; rfl) (by kernel_rfl) (by kernel_rfl) (by kernel_rfl) (fun _ _ _ h => h) (Or.inr ⟨by rfl, rfl⟩) (by assumption) ?_
    (try simp only [pn])
    refine wpAnyH_take (i := 30) (oi := _) (v := undef) (by simp only [List.getElem?_toArray, List.getElem?_cons_succ, List.getElem?_cons_zero]; rfl) (by kernel_rfl) (by kernel_rfl) (by kernel_rfl) (fun _ _ _ h => h) (Or.inr ⟨by rfl, rfl⟩) (by assumption) ?_
    (try simp only [pn])
    refine wpAnyH_take (i := 31) (oi := _) (v := undef) (by simp only [List.getElem?_toArray, List.getElem?_cons_succ, List.getElem?_cons_zero]; rfl) (by kernel_rfl) (by kernel_rfl) (by kernel_rfl) (fun _ _ _ h => h) (Or.inr ⟨by rfl, rfl⟩) (by assumption) ?_
    (try simp only [pn])
    refine wpAnyH_take (i := 32) (oi := _) (v := undef) (by simp only [List.getElem?_toArray, List.getElem?_cons_succ, List.getElem?_cons_zero]; rfl) (by kernel_rfl) (by kernel_rfl) (by kernel_rfl) (fun _ _ _ h => h) (Or.inr ⟨by rfl, rfl⟩) (by assumption) ?_
    (try simp only [pn])
    refine wpAnyH_take (i := 33) (oi := _) (v := undef) (by simp only [List.getElem?_toArray, List.getElem?_cons_succ, List.getElem?_cons_zero]; rfl) (by kernel_rfl) (by kernel_rfl) (by kernel_rfl) (fun _ _ _ h => h) (Or.inr ⟨by rfl, rfl⟩) (by assumption) ?_
    (try simp only [pn])
    refine wpAnyH_take (i := 34) (oi := _) (v := undef) (by simp only [List.getElem?_toArray, List.getElem?_cons_succ, List.getElem?_cons_zero]; rfl) (by kernel_rfl) (by kernel_rfl) (by kernel_rfl) (fun _ _ _ h => h) (Or.inr ⟨by rfl, rfl⟩) (by assumption) ?_
    (try simp only [pn])
    refine wpAnyH_take (i := 35) (oi := _) (v := undef) (by simp only [List.getElem?_toArray, List.getElem?_cons_succ, List.getElem?_cons_zero]; rfl) (by kernel_rfl) (by kernel_rfl) (by kernel_rfl) (fun _ _ _ h => h) (Or.inr ⟨by rfl, rfl⟩) (by assumption) ?_
    (try simp only [pn])
    refine wpAnyH_take (i := 36) (oi := _) (v := undef) (by simp only [List.getElem?_toArray, List.getElem?_cons_succ, List.getElem?_cons_zero]; rfl) (by kernel_rfl) (by kernel_rfl) (by kernel_rfl) (fun _ _ _ h => h) (Or.inr ⟨by rfl, rfl⟩) (by assumption) ?_
    (try simp only [pn])
    refine wpAnyH_take (i := 37) (oi := _) (v := undef) (by simp only [List.getElem?_toArray, List.getElem?_cons_succ, List.getElem?_cons_zero]; rfl) (by kernel_rfl) (by kernel_rfl) (by kernel_rfl) (fun _ _ _ h => h) (Or.inr ⟨by rfl, rfl⟩) (by assumption) ?_
    (try simp only [pn])
    refine wpAnyH_take (i := 38) (oi := _) (v := undef) (by simp only [List.getElem?_toArray, List.getElem?_cons_succ, List.getElem?_cons_zero]; rfl) (by kernel_rfl) (by kernel_rfl) (by kernel_rfl) (fun _ _ _ h => h) (Or.inr ⟨by rfl, rfl⟩) (by assumption) ?_
    (try simp only [pn])
    refine wpAnyH_take (i := 39) (oi := _) (v := undef) (by simp only [List.getElem?_toArray, List.getElem?_cons_succ, List.getElem?_cons_zero]; rfl) (by kernel_rfl) (by kernel_rfl) (by kernel_rfl) (fun _ _ _ h => h) (Or.inr ⟨by rfl, rfl⟩) (by assumption) ?_
    (try simp only [pn])
    refine wpAnyH_take (i := 40) (oi := _) (v := undef) (by simp only [List.getElem?_toArray, List.getElem?_cons_succ, List.getElem?_cons_zero]; rfl) (by kernel_rfl) (by kernel_rfl) (by kernel_rfl) (fun _ _ _ h => h) (Or.inr ⟨by rfl, rfl⟩) (by assumption) ?_
    (try simp only [pn])
    refine tk 41 ?_
    (try simp only [pn])
    refine tk 42 ?_
    (try simp only [pn])
    refine wpAnyH_done (by kernel_rfl) ?_ _
    refine NoPanic.normal ?_
    clear hH
    go_wp2_with fail
    go_ret
    exact ⟨by (rw [E0.out]; rfl), (Keep.same Nothing w).drew⟩
theorem ready93 (w : World) (b : Nat) (R : List RTk) (A : Option Addr) (c : Nat) (h : RTasks w b R A c) (i : Int) :
    Calls Try.prog 93 #[.pointer (some ⟨b, 0, none⟩), .int .i64 i] w (fun e w' => e = .returned (.bool (rdy R i)) ∧ Keep Nothing w w') := by
  by_cases hi : i < 0
  · exact ready93n w b R A c h i hi
  · obtain ⟨k, rfl⟩ : ∃ k : Nat, i = k := ⟨i.toNat, by omega⟩
    by_cases hk : k < R.length
    · exact ready93i w b R A c h k hk
    · exact ready93b w b R A c h k hk
def pickR (p : Tk → Bool) (R : List RTk) : List Int := pickT p (R.map (·.T)) R.length
theorem pickT_next {p : Tk → Bool} {T : List Tk} {k : Nat} {t : Tk} (h : T[k]? = some t) : pickT p T (k + 1) = if p t then pickT p T k ++ [(k : Int)] else pickT p T k := by
  show pickT p T k ++ _ = _
  rw [h]
  dsimp only
  cases hp : p t <;> simp
theorem rdy_at {R : List RTk} {k : Nat} {r : RTk} (h : R[k]? = some r) : rdy R k = r.T.ready := by
  unfold rdy
  rw [Int.toNat_natCast, h]
  simp
theorem ready66 (w : World) (b : Nat) (R : List RTk) (A : Option Addr) (c : Nat) (h : RTasks w b R A c) : Calls Try.prog 66 #[.pointer (some ⟨b, 0, none⟩)] w (PickPost (pickR Tk.ready R) w) := by
  have hu := Try.underlying155
  have hu2 := Try.underlying157
  have HT := Lib.hid h
  have HL := Lib.hid h.len
  clear h
  go_enter Try.func66, Try.ntmps66
  go_wp2_with fail
  go_loopw [3, 4] (fun lv iv wr => ∃ (k : Nat) (A' : Option Addr) (c' : Nat), k ≤ R.length ∧ iv = .int .i64 k ∧ lv = .slice A' (pickT Tk.ready (R.map (·.T)) k).length c' ∧ Row wr 3 1 (.slice A' (pickT Tk.ready (R.map (·.T)) k).length c') (pickT Tk.ready (R.map (·.T)) k).length (ints (pickT Tk.ready (R.map (·.T)) k)) ∧ Keep Nothing w wr ∧ ∀ g, (Value.slice A' (pickT Tk.ready (R.map (·.T)) k).length c').ownBlock = some g → w.heap.size ≤ g) (fun _ iv _ => R.length - (intOf iv).toNat)
  case atStart => exact ⟨0, none, 0, by omega, by simp, rfl, Row.nil _ 3 1, Keep.same _ _, fun g hg => by simp [Value.ownBlock] at hg⟩
  case round =>
    obtain ⟨k, A', c', hk, rfl, rfl, hr, hkw, ho⟩ := hrel
    have HR := Lib.hid hr
    have HK := Lib.hid hkw
    have HF := Lib.hid ho
    have HTW := Lib.hid (HT.out.keep HK.out)
    have c0 := HTW.out.c0
    have hlen := pickT_len Tk.ready (R.map (·.T)) k
    have hxl := HL.out
    clear hr hkw ho
    by_cases hlt : k < R.length
    · have HLT := Lib.hid hlt
      obtain ⟨ad, r, hA, hR, hat⟩ := rt_at HTW.out.src hlt
      subst hA
      have hTk : (R.map (·.T))[k]? = some r.T := by rw [List.getElem?_map, hR]; rfl
      have RD := Lib.hid (fun w' (hk' : Keep Nothing wr w') => ready93 w' b R _ c (HTW.out.keep hk') k)
      have RE := Lib.hid (rdy_at hR)
      have cb := hat.b
      cases hp : Tk.ready r.T with
      | false =>
        have E := Lib.hid (show pickT Tk.ready (R.map (·.T)) (k + 1) = pickT Tk.ready (R.map (·.T)) k by rw [pickT_next hTk, hp]; rfl)
        rw [show Tk.ready r.T = false from hp] at RE
        clear hR hat hTk hp
        go_wp2_with fail
        refine (RD.out _ kn).mono ?_
        rintro e w3 ⟨rfl, hk3⟩
        rw [RE.out]
        have K3 := Lib.hid ((Keep.then kn hk3 : Keep Nothing wr w3))
        clear hk3
        go_wp2_with fail
        go_roundw
        case rel => exact ⟨k + 1, A', c', by have := HLT.out; omega, by go_num, by rw [E.out], by rw [E.out]; exact HR.out.keep K3.out (fun _ _ h => h), HK.out.then K3.out, by rw [E.out]; exact HF.out⟩
        case measure => have := HLT.out; simp [intOf]; omega
      | true =>
        have E := Lib.hid (show pickT Tk.ready (R.map (·.T)) (k + 1) = pickT Tk.ready (R.map (·.T)) k ++ [(k : Int)] by rw [pickT_next hTk, hp]; rfl)
        rw [show Tk.ready r.T = true from hp] at RE
        clear hR hat hTk hp
        go_wp2_with fail
        refine (RD.out _ kn).mono ?_
        rintro e w3 ⟨rfl, hk3⟩
        rw [RE.out]
        have K3 := Lib.hid ((Keep.then kn hk3 : Keep Nothing wr w3))
        clear hk3
        have R3 := Lib.hid (HR.out.keep K3.out (fun _ _ h => h))
        go_wp2_with (at_builtin; refine wpList_app _ rfl E26 (.tmp 17) (.tmp 19) rfl (R3.out.alloc _) (Go.Proofs.Ytmohpjkbhpgidaa.U.Src.one w3 (.int .i64 (k : Int)) 3) 1 rfl rfl (by simp [Value.oneCell']) (by unfold maxLen; omega) (by omega) ?_)
        intro v4 w4 hr4 hg4 hl4
        obtain ⟨A4, c4, rfl, _, _⟩ := hr4.form
        have K4 := Lib.hid (((HK.out.then K3.out).alloc (.cells #[.int .i64 (k : Int)] 3)).grown hg4 (fun i hi => .inr (HF.out i hi)))
        have O4 := Lib.hid (show ∀ g, (Value.slice A4 ((pickT Tk.ready (R.map (·.T)) k).length + 1) c4).ownBlock = some g → w.heap.size ≤ g by
          intro g hg
          have hz := HK.out.size
          have hz3 := (K3.out).size
          rcases hl4 with h | h
          · rw [h] at hg; exact HF.out g hg
          · rw [h] at hg; injection hg with hg; rw [← hg]; simp; omega)
        have e5 : (pickT Tk.ready (R.map (·.T)) (k + 1)).length = (pickT Tk.ready (R.map (·.T)) k).length + 1 := by rw [E.out]; simp
        have R4 := Lib.hid (show Row w4 3 1 (.slice A4 (pickT Tk.ready (R.map (·.T)) (k + 1)).length c4) (pickT Tk.ready (R.map (·.T)) (k + 1)).length (ints (pickT Tk.ready (R.map (·.T)) (k + 1))) by rw [e5, E.out, ints_app]; exact hr4)
        have E5 := Lib.hid e5
        clear hr4 hg4 hl4 e5
        go_wp2_with fail
        go_roundw
        case rel => exact ⟨k + 1, A4, c4, by have := HLT.out; omega, by go_num, by rw [E5.out], R4.out, K4.out, by rw [E5.out]; exact O4.out⟩
        case measure => have := HLT.out; simp [intOf]; omega
    · obtain rfl : k = R.length := by omega
      go_wp2_with fail
      go_ret
      exact ⟨A', c', rfl, HR.out, HK.out, HF.out⟩
theorem blocked68 (w : World) (b : Nat) (R : List RTk) (A : Option Addr) (c : Nat) (h : RTasks w b R A c) : Calls Try.prog 68 #[.pointer (some ⟨b, 0, none⟩)] w (PickPost (pickR Tk.blk R) w) := by
  have hu := Try.underlying155
  have hu2 := Try.underlying157
  have HT := Lib.hid h
  have HL := Lib.hid h.len
  clear h
  go_enter Try.func68, Try.ntmps68
  go_wp2_with fail
  go_loopw [3, 4] (fun lv iv wr => ∃ (k : Nat) (A' : Option Addr) (c' : Nat), k ≤ R.length ∧ iv = .int .i64 k ∧ lv = .slice A' (pickT Tk.blk (R.map (·.T)) k).length c' ∧ Row wr 3 1 (.slice A' (pickT Tk.blk (R.map (·.T)) k).length c') (pickT Tk.blk (R.map (·.T)) k).length (ints (pickT Tk.blk (R.map (·.T)) k)) ∧ Keep Nothing w wr ∧ ∀ g, (Value.slice A' (pickT Tk.blk (R.map (·.T)) k).length c').ownBlock = some g → w.heap.size ≤ g) (fun _ iv _ => R.length - (intOf iv).toNat)
  case atStart => exact ⟨0, none, 0, by omega, by simp, rfl, Row.nil _ 3 1, Keep.same _ _, fun g hg => by simp [Value.ownBlock] at hg⟩
  case round =>
    obtain ⟨k, A', c', hk, rfl, rfl, hr, hkw, ho⟩ := hrel
    have HR := Lib.hid hr
    have HK := Lib.hid hkw
    have HF := Lib.hid ho
    have HTW := Lib.hid (HT.out.keep HK.out)
    have c0 := HTW.out.c0
    have hlen := pickT_len Tk.blk (R.map (·.T)) k
    have hxl := HL.out
    clear hr hkw ho
    by_cases hlt : k < R.length
    · have HLT := Lib.hid hlt
      obtain ⟨ad, r, hA, hR, hat⟩ := rt_at HTW.out.src hlt
      subst hA
      have hTk : (R.map (·.T))[k]? = some r.T := by rw [List.getElem?_map, hR]; rfl
      have RD := Lib.hid (fun w' (hk' : Keep Nothing wr w') => ready93 w' b R _ c (HTW.out.keep hk') k)
      have RE := Lib.hid (rdy_at hR)
      have cb := hat.b
      cases hp : Tk.blk r.T with
      | false =>
        have E := Lib.hid (show pickT Tk.blk (R.map (·.T)) (k + 1) = pickT Tk.blk (R.map (·.T)) k by rw [pickT_next hTk, hp]; rfl)
        rw [show Tk.blk r.T = false from hp] at cb
        clear hR hat hTk hp
        go_wp2_with fail
        go_roundw
        case rel => exact ⟨k + 1, A', c', by have := HLT.out; omega, by go_num, by rw [E.out], by rw [E.out]; exact HR.out.keep (Keep.same Nothing wr) (fun _ _ h => h), HK.out.then (Keep.same Nothing wr), by rw [E.out]; exact HF.out⟩
        case measure => have := HLT.out; simp [intOf]; omega
      | true =>
        have E := Lib.hid (show pickT Tk.blk (R.map (·.T)) (k + 1) = pickT Tk.blk (R.map (·.T)) k ++ [(k : Int)] by rw [pickT_next hTk, hp]; rfl)
        rw [show Tk.blk r.T = true from hp] at cb
        clear hR hat hTk hp
        have R3 := Lib.hid (HR.out.keep (Keep.same Nothing wr) (fun _ _ h => h))
        go_wp2_with (at_builtin; refine wpList_app _ rfl E26 (.tmp 22) (.tmp 24) rfl (R3.out.alloc _) (Go.Proofs.Ytmohpjkbhpgidaa.U.Src.one wr (.int .i64 (k : Int)) 3) 1 rfl rfl (by simp [Value.oneCell']) (by unfold maxLen; omega) (by omega) ?_)
        intro v4 w4 hr4 hg4 hl4
        obtain ⟨A4, c4, rfl, _, _⟩ := hr4.form
        have K4 := Lib.hid (((HK.out.then (Keep.same Nothing wr)).alloc (.cells #[.int .i64 (k : Int)] 3)).grown hg4 (fun i hi => .inr (HF.out i hi)))
        have O4 := Lib.hid (show ∀ g, (Value.slice A4 ((pickT Tk.blk (R.map (·.T)) k).length + 1) c4).ownBlock = some g → w.heap.size ≤ g by
          intro g hg
          have hz := HK.out.size
          have hz3 := ((Keep.same Nothing wr)).size
          rcases hl4 with h | h
          · rw [h] at hg; exact HF.out g hg
          · rw [h] at hg; injection hg with hg; rw [← hg]; simp; omega)
        have e5 : (pickT Tk.blk (R.map (·.T)) (k + 1)).length = (pickT Tk.blk (R.map (·.T)) k).length + 1 := by rw [E.out]; simp
        have R4 := Lib.hid (show Row w4 3 1 (.slice A4 (pickT Tk.blk (R.map (·.T)) (k + 1)).length c4) (pickT Tk.blk (R.map (·.T)) (k + 1)).length (ints (pickT Tk.blk (R.map (·.T)) (k + 1))) by rw [e5, E.out, ints_app]; exact hr4)
        have E5 := Lib.hid e5
        clear hr4 hg4 hl4 e5
        go_wp2_with fail
        go_roundw
        case rel => exact ⟨k + 1, A4, c4, by have := HLT.out; omega, by go_num, by rw [E5.out], R4.out, K4.out, by rw [E5.out]; exact O4.out⟩
        case measure => have := HLT.out; simp [intOf]; omega
    · obtain rfl : k = R.length := by omega
      go_wp2_with fail
      go_ret
      exact ⟨A', c', rfl, HR.out, HK.out, HF.out⟩
theorem pickT_none {p : Tk → Bool} {T : List Tk} (h : ∀ t ∈ T, p t = false) : ∀ k, pickT p T k = []
  | 0 => rfl
  | k + 1 => by
    unfold pickT
    rw [pickT_none h k]
    cases hk : T[k]? with
    | none => rfl
    | some t => simp [h t (List.mem_of_getElem? hk)]
theorem pick_some {R : List RTk} (r : RTk) (h : r ∈ R) (ho : r.T.open_ = true) : (pickR Tk.open_ R).isEmpty = false := by
  obtain ⟨i, hi, he⟩ := List.getElem_of_mem h
  have hT : (R.map (·.T))[i]? = some r.T := by rw [List.getElem?_map, List.getElem?_eq_getElem hi, he]; rfl
  have key : ∀ k, i < k → k ≤ R.length → pickT Tk.open_ (R.map (·.T)) k ≠ [] := by
    intro k
    induction k with
    | zero => intro h; omega
    | succ k ih =>
      intro h1 h2 h3
      unfold pickT at h3
      rw [List.append_eq_nil_iff] at h3
      by_cases hik : i = k
      · subst hik
        rw [hT] at h3
        simp [ho] at h3
      · exact ih (by omega) (by omega) h3.1
  unfold pickR
  cases hl : pickT Tk.open_ (R.map (·.T)) R.length with
  | nil => exact absurd hl (key _ hi (Nat.le_refl _))
  | cons a l => rfl
theorem ended69 (w : World) (b : Nat) (R : List RTk) (A : Option Addr) (c : Nat) (h : RTasks w b R A c) : Calls Try.prog 69 #[.pointer (some ⟨b, 0, none⟩)] w (fun e w' => e = .returned (.bool (pickR Tk.open_ R).isEmpty) ∧ Keep Nothing w w') := by
  have hu := Try.underlying155
  have hu2 := Try.underlying157
  have HT := Lib.hid h
  have HL := Lib.hid h.len
  have NE := Lib.hid (fun r h ho => pick_some (R := R) r h ho)
  clear h
  go_enter Try.func69, Try.ntmps69
  go_wp2_with fail
  go_loopw [3] (fun iv wr => ∃ (k : Nat), k ≤ R.length ∧ iv = .int .i64 k ∧ (∀ j r, j < k → R[j]? = some r → r.T.open_ = false) ∧ Keep Nothing w wr) (fun iv _ => R.length - (intOf iv).toNat)
  case atStart => exact ⟨0, by omega, by simp, fun j r hj => by omega, Keep.same _ _⟩
  case round =>
    obtain ⟨k, hk, rfl, hall, hkw⟩ := hrel
    have HK := Lib.hid hkw
    have HA := Lib.hid hall
    have HTW := Lib.hid (HT.out.keep HK.out)
    have c0 := HTW.out.c0
    have hxl := HL.out
    clear hkw hall
    by_cases hlt : k < R.length
    · have HLT := Lib.hid hlt
      have hil := hlt
      obtain ⟨ad, r, hA, hR, hat⟩ := rt_at HTW.out.src hil
      subst hA
      obtain ⟨A1, c1, A2, c2, hf1, hf2⟩ := HTW.out.form r (List.mem_of_getElem? hR)
      obtain ⟨m, hm⟩ : ∃ m, r.T.ops.length = m := ⟨_, rfl⟩
      obtain ⟨a, ha⟩ : ∃ a, r.T.at_ = a := ⟨_, rfl⟩
      have HRR := Lib.hid hR
      have E0 := Lib.hid (show r.T.open_ = (r.T.blk || decide (a < m)) by unfold Tk.open_; rw [ha, hm])
      cases hb : r.T.blk
      · have hH : (fun w' => w'.cell? ⟨b, 0, none⟩ = some (.slice (some ad) R.length c) ∧ w'.cell? (ad.add (k * 4)) = some (.slice A1 m c1) ∧ w'.cell? ⟨(ad.add (k * 4)).block, (ad.add (k * 4)).off + 1, none⟩ = some (.int .i64 a) ∧ w'.cell? ⟨(ad.add (k * 4)).block, (ad.add (k * 4)).off + 2, none⟩ = some (.bool false)) wr := ⟨c0, by rw [← hm, ← hf1]; exact hat.o, by rw [← ha]; exact hat.a, by rw [← hb]; exact hat.b⟩
        dsimp only at hH
        rw [hb] at E0
        clear hat hm ha hf1 hf2 hR hb hil
        by_cases ham : a < m
        · have OP := Lib.hid (show r.T.open_ = true by rw [E0.out]; simp [ham])
          go_wp2_with fail
          refine wp_region_noPanic ?_
          refine wp_region_held_drew (S := (fun w' => w'.cell? ⟨b, 0, none⟩ = some (.slice (some ad) R.length c) ∧ w'.cell? (ad.add (k * 4)) = some (.slice A1 m c1) ∧ w'.cell? ⟨(ad.add (k * 4)).block, (ad.add (k * 4)).off + 1, none⟩ = some (.int .i64 a) ∧ w'.cell? ⟨(ad.add (k * 4)).block, (ad.add (k * 4)).off + 2, none⟩ = some (.bool false))) (by kernel_rfl) hH (fun hHeld => ?_)
          refine tk 0 ?_
          (try simp only [pn])
          refine tk 1 ?_
          (try simp only [pn])
          refine tk 2 ?_
          (try simp only [pn])
          refine tk 3 ?_
          (try simp only [pn])
          refine tk 4 ?_
          (try simp only [pn])
          refine tk 5 ?_
          (try simp only [pn])
          refine tk 6 ?_
          (try simp only [pn])
          refine tk 7 ?_
          (try simp only [pn])
          refine tk 8 ?_
          (try simp only [pn])
          refine tk 9 ?_
          (try simp only [pn])
          refine tk 10 ?_
          (try simp only [pn])
          refine tk 11 ?_
          (try simp only [pn])
          refine tk 12 ?_
          (try simp only [pn])
          refine tk 13 ?_
          (try simp only [pn])
          refine tk 14 ?_
          (try simp only [pn])
          refine tk 15 ?_
          (try simp only [pn])
          refine tk 16 ?_
          (try simp only [pn])
          refine tk 17 ?_
          (try simp only [pn])
          refine tk 18 ?_
          (try simp only [pn])
          refine tk 19 ?_
          (try simp only [pn])
          refine tk 20 ?_
          (try simp only [pn])
          refine tk 21 ?_
          (try simp only [pn])
          refine tk 22 ?_
          (try simp only [pn])
          refine tk 23 ?_
          (try simp only [pn])
          refine tk 24 ?_
          (try simp only [pn])
          refine tk 25 ?_
          (try simp only [pn])
          refine tk 26 ?_
          (try simp only [pn])
          refine tk 27 ?_
          (try simp only [pn])
          refine wpAnyH_done (by kernel_rfl) ?_ _
          refine NoPanic.normal ?_
          clear hH
          go_wp2_with fail
          go_ret
          refine ⟨?_, HK.out.then kn⟩
          rw [show (pickR Tk.open_ R).isEmpty = false from NE.out r (List.mem_of_getElem? HRR.out) OP.out]
          rfl
        · have OP := Lib.hid (show r.T.open_ = false by rw [E0.out]; simp [ham])
          go_wp2_with fail
          refine wp_region_noPanic ?_
          refine wp_region_held_drew (S := (fun w' => w'.cell? ⟨b, 0, none⟩ = some (.slice (some ad) R.length c) ∧ w'.cell? (ad.add (k * 4)) = some (.slice A1 m c1) ∧ w'.cell? ⟨(ad.add (k * 4)).block, (ad.add (k * 4)).off + 1, none⟩ = some (.int .i64 a) ∧ w'.cell? ⟨(ad.add (k * 4)).block, (ad.add (k * 4)).off + 2, none⟩ = some (.bool false))) (by kernel_rfl) hH (fun hHeld => ?_)
          refine tk 0 ?_
          (try simp only [pn])
          refine tk 1 ?_
          (try simp only [pn])
          refine tk 2 ?_
          (try simp only [pn])
          refine tk 3 ?_
          (try simp only [pn])
          refine tk 4 ?_
          (try simp only [pn])
          refine tk 5 ?_
          (try simp only [pn])
          refine tk 6 ?_
          (try simp only [pn])
          refine tk 7 ?_
          (try simp only [pn])
          refine tk 8 ?_
          (try simp only [pn])
          refine tk 9 ?_
          (try simp only [pn])
          refine tk 10 ?_
          (try simp only [pn])
          refine tk 11 ?_
          (try simp only [pn])
          refine tk 12 ?_
          (try simp only [pn])
          refine tk 13 ?_
          (try simp only [pn])
          refine tk 14 ?_
          (try simp only [pn])
          refine tk 15 ?_
          (try simp only [pn])
          refine tk 16 ?_
          (try simp only [pn])
          refine tk 17 ?_
          (try simp only [pn])
          refine tk 18 ?_
          (try simp only [pn])
          refine tk 19 ?_
          (try simp only [pn])
          refine tk 20 ?_
          (try simp only [pn])
          refine tk 21 ?_
          (try simp only [pn])
          refine tk 22 ?_
          (try simp only [pn])
          refine tk 23 ?_
          (try simp only [pn])
          refine tk 24 ?_
          (try simp only [pn])
          refine tk 25 ?_
          (try simp only [pn])
          refine tk 26 ?_
          (try simp only [pn])
          refine tk 27 ?_
          (try simp only [pn])
          refine wpAnyH_done (by kernel_rfl) ?_ _
          refine NoPanic.normal ?_
          clear hH
          go_wp2_with fail
          go_roundw
          case rel => exact ⟨k + 1, HLT.out, by go_num, fun j r' hj hr' => by
            rcases (show j < k ∨ j = k by omega) with h | rfl
            · exact HA.out j r' h hr'
            · rw [HRR.out] at hr'; injection hr' with hr'; rw [← hr']; exact OP.out, HK.out.then kn⟩
          case measure => have := HLT.out; simp [intOf]; omega
      · have hH : (fun w' => w'.cell? ⟨b, 0, none⟩ = some (.slice (some ad) R.length c) ∧ w'.cell? (ad.add (k * 4)) = some (.slice A1 m c1) ∧ w'.cell? ⟨(ad.add (k * 4)).block, (ad.add (k * 4)).off + 1, none⟩ = some (.int .i64 a) ∧ w'.cell? ⟨(ad.add (k * 4)).block, (ad.add (k * 4)).off + 2, none⟩ = some (.bool true)) wr := ⟨c0, by rw [← hm, ← hf1]; exact hat.o, by rw [← ha]; exact hat.a, by rw [← hb]; exact hat.b⟩
        dsimp only at hH
        rw [hb] at E0
        have OP := Lib.hid (show r.T.open_ = true by rw [E0.out]; rfl)
        clear hat hm ha hf1 hf2 hR hb hil
        go_wp2_with fail
        refine wp_region_noPanic ?_
        refine wp_region_held_drew (S := (fun w' => w'.cell? ⟨b, 0, none⟩ = some (.slice (some ad) R.length c) ∧ w'.cell? (ad.add (k * 4)) = some (.slice A1 m c1) ∧ w'.cell? ⟨(ad.add (k * 4)).block, (ad.add (k * 4)).off + 1, none⟩ = some (.int .i64 a) ∧ w'.cell? ⟨(ad.add (k * 4)).block, (ad.add (k * 4)).off + 2, none⟩ = some (.bool true))) (by kernel_rfl) hH (fun hHeld => ?_)
        refine tk 0 ?_
        (try simp only [pn])
        refine tk 1 ?_
        (try simp only [pn])
        refine tk 2 ?_
        (try simp only [pn])
        refine tk 3 ?_
        (try simp only [pn])
        refine tk 4 ?_
        (try simp only [pn])
        refine tk 5 ?_
        (try simp only [pn])
        refine tk 6 ?_
        (try simp only [pn])
        refine tk 7 ?_
        (try simp only [pn])
        refine tk 8 ?_
        (try simp only [pn])
        refine wpAnyH_take (i := 9) (oi := _) (v := undef) (by simp only [List.getElem?_toArray, List.getElem?_cons_succ, List.getElem?_cons_zero]; rfl) (by kernel_rfl) (by kernel_rfl) (by kernel_rfl) (fun _ _ _ h => h) (Or.inr ⟨by rfl, rfl⟩) (by assumption) ?_
        (try simp only [pn])
        refine wpAnyH_take (i := 10) (oi := _) (v := undef) (by simp only [List.getElem?_toArray, List.getElem?_cons_succ, List.getElem?_cons_zero]; rfl) (by kernel_rfl) (by kernel_rfl) (by kernel_rfl) (fun _ _ _ h => h) (Or.inr ⟨by rfl, rfl⟩) (by assumption) ?_
        (try simp only [pn])
        refine wpAnyH_take (i := 11) (oi := _) (v := undef) (by simp only [List.getElem?_toArray, List.getElem?_cons_succ, List.getElem?_cons_zero]; rfl) (by kernel_rfl) (by kernel_rfl) (by kernel_rfl) (fun _ _ _ h => h) (Or.inr ⟨by rfl, rfl⟩) (by assumption) ?_
        (try simp only [pn])
        refine wpAnyH_take (i := 12) (oi := _) (v := undef) (by simp only [List.getElem?_toArray, List.getElem?_cons_succ, List.getElem?_cons_zero]; rfl) (by kernel_rfl) (by kernel_rfl) (by kernel_rfl) (fun _ _ _ h => h) (Or.inr ⟨by rfl, rfl⟩) (by assumption) ?_
        (try simp only [pn])
        refine wpAnyH_take (i := 13) (oi := _) (v := undef) (by simp only [List.getElem?_toArray, List.getElem?_cons_succ, List.getElem?_cons_zero]; rfl) (by kernel_rfl) (by kernel_rfl) (by kernel_rfl) (fun _ _ _ h => h) (Or.inr ⟨by rfl, rfl⟩) (by assumption) ?_
        (try simp only [pn])
        refine wpAnyH_take (i := 14) (oi := _) (v := undef) (by simp only [List.getElem?_toArray, List.getElem?_cons_succ, List.getElem?_cons_zero]; rfl) (by kernel_rfl) (by kernel_rfl) (by kernel_rfl) (fun _ _ _ h => h) (Or.inr ⟨by rfl, rfl⟩) (by assumption) ?_
        (try simp only [pn])
        refine wpAnyH_take (i := 15) (oi := _) (v := undef) (by simp only [List.getElem?_toArray, List.getElem?_cons_succ, List.getElem?_cons_zero]; rfl) (by kernel_rfl) (by kernel_rfl) (by kernel_rfl) (fun _ _ _ h => h) (Or.inr ⟨by rfl, rfl⟩) (by assumption) ?_
        (try simp only [pn])
        refine wpAnyH_take (i := 16) (oi := _) (v := undef) (by simp only [List.getElem?_toArray, List.getElem?_cons_succ, List.getElem?_cons_zero]; rfl) (by kernel_rfl) (by kernel_rfl) (by kernel_rfl) (fun _ _ _ h => h) (Or.inr ⟨by rfl, rfl⟩) (by assumption) ?_
        (try simp only [pn])
        refine wpAnyH_take (i := 17) (oi := _) (v := undef) (by simp only [List.getElem?_toArray, List.getElem?_cons_succ, List.getElem?_cons_zero]; rfl) (by kernel_rfl) (by kernel_rfl) (by kernel_rfl) (fun _ _ _ h => h) (Or.inr ⟨by rfl, rfl⟩) (by assumption) ?_
        (try simp only [pn])
        refine wpAnyH_take (i := 18) (oi := _) (v := undef) (by simp only [List.getElem?_toArray, List.getElem?_cons_succ, List.getElem?_cons_zero]; rfl) (by kernel_rfl) (by kernel_rfl) (by kernel_rfl) (fun _ _ _ h => h) (Or.inr ⟨by rfl, rfl⟩) (by assumption) ?_
        (try simp only [pn])
        refine wpAnyH_take (i := 19) (oi := _) (v := undef) (by simp only [List.getElem?_toArray, List.getElem?_cons_succ, List.getElem?_cons_zero]; rfl) (by kernel_rfl) (by kernel_rfl) (by kernel_rfl) (fun _ _ _ h => h) (Or.inr ⟨by rfl, rfl⟩) (by assumption) ?_
        (try simp only [pn])
        refine wpAnyH_take (i := 20) (oi := _) (v := undef) (by simp only [List.getElem?_toArray, List.getElem?_cons_succ, List.getElem?_cons_zero]; rfl) (by kernel_rfl) (by kernel_rfl) (by kernel_rfl) (fun _ _ _ h => h) (Or.inr ⟨by rfl, rfl⟩) (by assumption) ?_
        (try simp only [pn])
        refine wpAnyH_take (i := 21) (oi := _) (v := undef) (by simp only [List.getElem?_toArray, List.getElem?_cons_succ, List.getElem?_cons_zero]; rfl) (by kernel_rfl) (by kernel_rfl) (by kernel_rfl) (fun _ _ _ h => h) (Or.inr ⟨by rfl, rfl⟩) (by assumption) ?_
        (try simp only [pn])
        refine wpAnyH_take (i := 22) (oi := _) (v := undef) (by simp only [List.getElem?_toArray, List.getElem?_cons_succ, List.getElem?_cons_zero]; rfl) (by kernel_rfl) (by kernel_rfl) (by kernel_rfl) (fun _ _ _ h => h) (Or.inr ⟨by rfl, rfl⟩) (by assumption) ?_
        (try simp only [pn])
        refine wpAnyH_take (i := 23) (oi := _) (v := undef) (by simp only [List.getElem?_toArray, List.getElem?_cons_succ, List.getElem?_cons_zero]; rfl) (by kernel_rfl) (by kernel_rfl) (by kernel_rfl) (fun _ _ _ h => h) (Or.inr ⟨by rfl, rfl⟩) (by assumption) ?_
        (try simp only [pn])
        refine wpAnyH_take (i := 24) (oi := _) (v := undef) (by simp only [List.getElem?_toArray, List.getElem?_cons_succ, List.getElem?_cons_zero]; rfl) (by kernel_rfl) (by kernel_rfl) (by kernel_rfl) (fun _ _ _ h => h) (Or.inr ⟨by rfl, rfl⟩) (by assumption) ?_
        (try simp only [pn])
        refine wpAnyH_take (i := 25) (oi := _) (v := undef) (by simp only [List.getElem?_toArray, List.getElem?_cons_succ, List.getElem?_cons_zero]; rfl) (by kernel_rfl) (by kernel_rfl) (by kernel_rfl) (fun _ _ _ h => h) (Or.inr ⟨by rfl, rfl⟩) (by assumption) ?_
        (try simp only [pn])
        refine wpAnyH_take (i := 26) (oi := _) (v := undef) (by simp only [List.getElem?_toArray, List.getElem?_cons_succ, List.getElem?_cons_zero]; rfl) (by kernel_rfl) (by kernel_rfl) (by kernel_rfl) (fun _ _ _ h => h) (Or.inr ⟨by rfl, rfl⟩) (by assumption) ?_
        (try simp only [pn])
        refine tk 27 ?_
        (try simp only [pn])
        refine wpAnyH_done (by kernel_rfl) ?_ _
        refine NoPanic.normal ?_
        clear hH
        go_wp2_with fail
        go_ret
        refine ⟨?_, HK.out.then kn⟩
        rw [show (pickR Tk.open_ R).isEmpty = false from NE.out r (List.mem_of_getElem? HRR.out) OP.out]
        rfl
    · obtain rfl : k = R.length := by omega
      have EM := Lib.hid (show (pickR Tk.open_ R).isEmpty = true by
        unfold pickR
        rw [pickT_none (fun t ht => ?_)]
        · rfl
        · obtain ⟨r, hr, rfl⟩ := List.mem_map.1 ht
          obtain ⟨i, hi, he⟩ := List.getElem_of_mem hr
          exact HA.out i r hi (by rw [List.getElem?_eq_getElem hi, he]))
      go_wp2_with fail
      go_ret
      exact ⟨by (rw [EM.out]; rfl), HK.out⟩
end Go.Proofs.Ytmohpjkbhpgidaa.A
