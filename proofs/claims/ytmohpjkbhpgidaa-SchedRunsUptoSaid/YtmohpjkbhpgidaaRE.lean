/-
  The rwlock beside other things: what each call makes of it.
-/
import Derived.Test.YtmohpjkbhpgidaaRD
namespace Go.Proofs.Ytmohpjkbhpgidaa.A
open Go.RowKit Go.Proofs.Ytmohpjkbhpgidaa.U
set_option linter.unusedVariables false
set_option linter.unusedSimpArgs false

section
variable {B : Nat} {w0 w : World} {Q : SP} {b : Nat} {W : List Int} {wr : Bool} {L : List Wt}
theorem x_front (h : Holds B w0 w (star (rwP b W wr L) Q)) (hQ : Stable Q) :
    Calls Try.prog 72 #[.pointer (some ⟨b, 0, none⟩)] w (fun e w' => e = .returned (.tuple #[(headW L).val, .bool (!L.isEmpty)]) ∧ Holds B w0 w' (star (rwP b W wr L) Q)) := by
  obtain ⟨F, v, u, hb, hr, hs, hF⟩ := h.left
  exact (front_calls w b 115 _ v L hb rfl hr).mono fun e w' ⟨he, hk⟩ => ⟨he, h.kept ((rwP_stable b W wr L).star hQ) hk⟩
theorem x_open (h : Holds B w0 w (star (rwP b W wr L) Q)) (r : Bool) :
    Calls Try.prog 73 #[.pointer (some ⟨b, 0, none⟩), .bool r] w (fun e w' => e = .returned (.bool (openB W wr r)) ∧ w' = w) := by
  obtain ⟨F, v, u, hb, hr, hs, hF⟩ := h.left
  exact open_calls w b v u W wr hb hs r
theorem x_leave (h : Holds B w0 w (star (rwP b W wr L) Q)) (hQ : Stable Q) (hL : L.length ≤ 1000000) (h0 : 0 < L.length) :
    Calls Try.prog 74 #[.pointer (some ⟨b, 0, none⟩)] w (fun e w' => e = .returned (.tuple #[]) ∧ Holds B w0 w' (star (rwP b W wr (L.drop 1)) Q)) := by
  refine h.on_left hQ (post := fun e => e = .returned (.tuple #[])) fun F ⟨v, u, hb, hr, hs, hF⟩ => ?_
  refine (leave_calls w b 115 _ v L (by decide) hb rfl hr hL h0).mono fun e w' ⟨he, v', hb', hr', hk, ho⟩ => ⟨he, ?_⟩
  have aq := hs.apart hb (by decide)
  exact rwP_step hF (hk.wider fun i hi => .inl (hi.imp id .inl)) hb' hr' (hs.keep hk (fun g hg h => by
    rcases h with h | h
    · exact aq (by rw [hg, h])
    · exact hr.apart2 hs (by decide) g h hg)) ho (fun k hk => .inl hk)
theorem x_give (h : Holds B w0 w (star (rwP b W wr L) Q)) (hQ : Stable Q) (hW : W.length ≤ 1000000) (hri : Rising W) (x : Int) (r : Bool) :
    Calls Try.prog 75 #[.pointer (some ⟨b, 0, none⟩), .int .i64 x, .bool r] w (fun e w' => e = .returned (.tuple #[]) ∧ Holds B w0 w' (star (rwP b (putI W x) (!r) L) Q)) := by
  refine h.on_left hQ (post := fun e => e = .returned (.tuple #[])) fun F ⟨v, u, hb, hr, hs, hF⟩ => ?_
  refine (give_calls w b v u W wr hb hs hW hri x r).mono fun e w' ⟨he, u', hb', hs', hk, ho⟩ => ⟨he, ?_⟩
  have ap := hr.apart hb (by decide)
  exact rwP_step hF (hk.wider fun i hi => .inl (hi.imp id .inr)) hb' (hr.keep hk (fun g hg h => by
    rcases h with h | h
    · exact ap (by rw [hg, h])
    · exact hr.apart2 hs (by decide) g hg h)) hs' (fun k hk => .inl hk) ho
theorem x_rwlock (h : Holds B w0 w (star (rwP b W wr L) Q)) (hQ : Stable Q) (hL : L.length ≤ 1000000) (hW : W.length ≤ 1000000) (hri : Rising W) (x : Int) (r : Bool) :
    Calls Try.prog 23 #[.pointer (some ⟨b, 0, none⟩), .int .i64 x, .bool r] w (fun e w' => e = .returned (.tuple #[.bool (rwLock W wr L x r).1, .int .i64 (rwLock W wr L x r).2.1]) ∧
      Holds B w0 w' (star (rwP b (rwLock W wr L x r).2.2.1 (rwLock W wr L x r).2.2.2.1 (rwLock W wr L x r).2.2.2.2) Q)) :=
  h.on_left hQ (post := fun e => e = .returned (.tuple #[.bool (rwLock W wr L x r).1, .int .i64 (rwLock W wr L x r).2.1])) fun F hm => rwlock_calls w b F W wr L hm hL hW hri x r
end
end Go.Proofs.Ytmohpjkbhpgidaa.A
