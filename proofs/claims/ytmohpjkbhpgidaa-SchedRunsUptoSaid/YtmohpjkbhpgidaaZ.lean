/-
  Things in any order: star is commutative and associative.
-/
import Derived.Test.YtmohpjkbhpgidaaS
namespace Go.Proofs.Ytmohpjkbhpgidaa.U
open Go.RowKit
set_option linter.unusedVariables false

theorem star_comm' (P Q : SP) : star P Q = star Q P := by
  funext w F
  apply propext
  constructor
  · rintro ⟨F1, F2, h1, h2, h3, h4⟩
    exact ⟨F2, F1, h2, h1, fun k hk hk' => h3 k hk' hk, fun k => (h4 k).trans Or.comm⟩
  · rintro ⟨F1, F2, h1, h2, h3, h4⟩
    exact ⟨F2, F1, h2, h1, fun k hk hk' => h3 k hk' hk, fun k => (h4 k).trans Or.comm⟩
theorem star_assoc' (P Q R : SP) : star (star P Q) R = star P (star Q R) := by
  funext w F
  apply propext
  constructor
  · rintro ⟨F1, F2, ⟨F3, F4, h5, h6, h7, h8⟩, h2, h3, h4⟩
    exact ⟨F3, fun k => F4 k ∨ F2 k, h5, ⟨F4, F2, h6, h2, fun k a b => h3 k ((h8 k).2 (.inr a)) b, fun _ => Iff.rfl⟩,
      fun k a b => by rcases b with b | b; exact h7 k a b; exact h3 k ((h8 k).2 (.inl a)) b,
      fun k => by rw [h4, h8, or_assoc]⟩
  · rintro ⟨F1, F2, h1, ⟨F3, F4, h5, h6, h7, h8⟩, h3, h4⟩
    exact ⟨fun k => F1 k ∨ F3 k, F4, ⟨F1, F3, h1, h5, fun k a b => h3 k a ((h8 k).2 (.inl b)), fun _ => Iff.rfl⟩, h6,
      fun k a b => by rcases a with a | a; exact h3 k a ((h8 k).2 (.inr b)); exact h7 k a b,
      fun k => by rw [h4, h8, or_assoc]⟩
instance : Std.Commutative (α := SP) star := ⟨star_comm'⟩
instance : Std.Associative (α := SP) star := ⟨star_assoc'⟩
theorem Holds.perm {B : Nat} {w0 w : World} {P Q : SP} (h : Holds B w0 w P) (e : P = Q) : Holds B w0 w Q := e ▸ h
example (P Q R S T : SP) : star P (star Q (star R (star S T))) = star S (star P (star T (star R Q))) := by ac_rfl
end Go.Proofs.Ytmohpjkbhpgidaa.U
