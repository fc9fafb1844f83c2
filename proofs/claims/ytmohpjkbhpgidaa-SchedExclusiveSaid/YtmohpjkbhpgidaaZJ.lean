/-
  SchedExclusive: tasks that lock a mutex, yield some times, and unlock it: no two are within at once.
-/
import Derived.Test.YtmohpjkbhpgidaaZI
import Derived.Test.YtmohpjkbhpgidaaYU
namespace Go.Proofs.Ytmohpjkbhpgidaa.A
open Go.ChangeShapes Go.WideShapes Go.ChangeAt Go.RowKit Go.Joins Go.Proofs.Ytmohpjkbhpgidaa.U
set_option linter.unusedVariables false
set_option maxRecDepth 100000

theorem sexcl_law : R.Law 14 Try.f14 R.any := by
  intro H enc W base args ds p hval hA hsz _ hlt
  rw [Try.params14] at hA hval
  obtain ⟨v0, vs0, d0, ds0, p0, q0, hargs, rfl, rfl, h0, r0⟩ := trodAll_cons hA
  obtain ⟨v1, vs1, d1, ds1, p1, q1, rfl, rfl, rfl, h1, r1⟩ := trodAll_cons r0
  obtain ⟨rfl, rfl, rfl⟩ := trodAll_nil r1
  obtain rfl : args = #[v0, v1] := by cases args; simp_all
  obtain ⟨A0, n0, c0, l0, rfl, hs0, hn0⟩ := open_picks2 (hval 0 26 v0 rfl rfl) h0 (fun x hx => hlt x (List.mem_append_left _ hx))
  obtain ⟨A, len, cap, l, rfl, hs⟩ := open_picks (hval 1 26 v1 rfl rfl) h1 (fun x hx => hlt x (List.mem_append_right _ (List.mem_append_left _ hx)))
  exact (excl14 W A0 A n0 c0 len cap l0 l hs0 hs hn0).mono fun e w' h => ⟨h.1, h.2.below (Nat.le_refl _) (fun _ h => h.elim)⟩
end Go.Proofs.Ytmohpjkbhpgidaa.A
