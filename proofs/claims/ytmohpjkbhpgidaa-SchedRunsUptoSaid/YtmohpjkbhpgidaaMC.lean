/-
  The mutex: Queue.
-/
import Derived.Test.YtmohpjkbhpgidaaMB
namespace Go.Proofs.Ytmohpjkbhpgidaa.A
open Go.RowKit Go.Proofs.Ytmohpjkbhpgidaa.U
set_option linter.unusedVariables false
set_option linter.unusedSimpArgs false
set_option maxRecDepth 100000

def tasks (L : List Wt) : List Int := L.map Wt.t
theorem tasks_next {L : List Wt} {k : Nat} {y : Wt} (h : L[k]? = some y) : tasks (L.take (k + 1)) = tasks (L.take k) ++ [y.t] := by
  obtain ⟨hk, he⟩ := List.getElem?_eq_some_iff.1 h
  unfold tasks
  rw [List.take_succ_eq_append_getElem hk, he, List.map_append]
  rfl
/-- A fresh row of numbers is given. -/
def FreshInts (L : List Int) (w : World) (e : Ending) (w' : World) : Prop := ∃ A c, e = .returned (.slice A L.length c) ∧ Row w' 3 1 (.slice A L.length c) L.length (ints L) ∧ Keep Nothing w w' ∧ ∀ k, (Value.slice A L.length c).ownBlock = some k → w.heap.size ≤ k
set_option maxHeartbeats 3200000 in
theorem mqueue_calls (w : World) (b : Nat) (F : Nat → Prop) (h : Bool) (who : Int) (L : List Wt) (hm : mP b h who L w F) (hL : L.length ≤ 1000000) :
    Calls Try.prog 37 #[.pointer (some ⟨b, 0, none⟩)] w (FreshInts (tasks L) w) := by
  have hu := Try.underlying128
  have hu2 := Try.underlying113
  have hu3 := Try.underlying119
  obtain ⟨v, hb, hr, hF⟩ := hm
  obtain ⟨A, c, rfl, _, _⟩ := hr.form
  have hc0 := hb.cell 0
  have HS := Lib.hid hr.src
  clear hb hr hF
  go_enter Try.func37, Try.ntmps37
  go_wp2_with fail
  go_loopw [3, 14] (fun vs vi wr => ∃ (k : Nat) (A2 : Option Addr) (c2 : Nat), k ≤ L.length ∧ vi = .int .i64 k ∧ vs = .slice A2 k c2 ∧ Row wr 3 1 (.slice A2 k c2) k (ints (tasks (L.take k))) ∧ Keep Nothing w wr ∧ ∀ g, (Value.slice A2 k c2).ownBlock = some g → w.heap.size ≤ g) (fun vs vi _ => L.length - (intOf vi).toNat)
  case atStart => exact ⟨0, none, 0, by omega, by simp, by simp, Row.nil _ 3 1, Keep.same _ _, fun g hg => by simp [Value.ownBlock] at hg⟩
  case round =>
    obtain ⟨k, A2, c2, hk, rfl, rfl, hr2, hk2, ho2⟩ := hrel
    have R2 := Lib.hid hr2
    have K2 := Lib.hid hk2
    have O2 := Lib.hid ho2
    clear hr2 hk2 ho2
    by_cases hlt : k < L.length
    · obtain ⟨ad, y, rfl, hy, he⟩ := wt_at HS.out hlt
      obtain ⟨c0, c1, c2'⟩ := he.keep K2.out (fun h => h)
      have HY := Lib.hid hy
      have D := Lib.hid (Blk.fresh wr 119 y.cs)
      have d0 := D.out.cell 0
      have src0 := U.Src.one (wr.alloc (.cells y.cs 119)) (.int .i64 y.t) 3
      rw [show (wr.alloc (.cells y.cs 119)).heap.size = wr.heap.size + 1 by simp] at src0
      have SRC := Lib.hid src0
      clear src0
      clear hy he
      go_wp2_with (at_builtin; refine wpList_app _ rfl E26 (.tmp 18) (.tmp 21) rfl ((R2.out.alloc _).alloc _) SRC.out 1 rfl rfl (by simp [Value.oneCell']) (by unfold maxLen; omega) (by omega) ?_)
      intro v3 w3 hr3 hg3 hl3
      obtain ⟨A3, c3, rfl, _, _⟩ := hr3.form
      have R3 := Lib.hid hr3
      have G3 := Lib.hid hg3
      have L3 := Lib.hid hl3
      clear hr3 hg3 hl3 c0 c1 c2' d0
      go_wp2_with fail
      go_roundw
      case rel =>
        refine ⟨k + 1, A3, c3, by omega, by go_num, by simp, ?_, ?_, ?_⟩
        · have := R3.out
          rw [tasks_next HY.out, ints_app]
          exact this
        · exact ((K2.out.alloc _).alloc _).grown G3.out (fun i hi => .inr (O2.out i hi))
        · intro g hg
          rcases L3.out with h | h
          · exact O2.out g (by rw [← h]; exact hg)
          · rw [h] at hg
            injection hg with hg
            have := K2.out.size
            omega
      case measure => simp [intOf]; omega
    · obtain rfl : k = L.length := by omega
      go_wp2_with fail
      go_ret
      have e : (tasks L).length = L.length := by simp [tasks]
      unfold FreshInts
      rw [e]
      have := R2.out
      rw [List.take_length] at this
      exact ⟨A2, c2, rfl, this, K2.out, O2.out⟩
end Go.Proofs.Ytmohpjkbhpgidaa.A
