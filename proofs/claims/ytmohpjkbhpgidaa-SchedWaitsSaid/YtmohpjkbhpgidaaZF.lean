/-
  SchedWaits: who waits for a group goes on just when as many are done as were added.
-/
import Derived.Test.YtmohpjkbhpgidaaZC
import Derived.Test.YtmohpjkbhpgidaaZD
import Derived.Test.YtmohpjkbhpgidaaZE
import Derived.Test.YtmohpjkbhpgidaaYU
namespace Go.Proofs.Ytmohpjkbhpgidaa.A
open Go.ChangeShapes Go.WideShapes Go.ChangeAt Go.RowKit Go.Joins Go.Proofs.Ytmohpjkbhpgidaa.U
set_option linter.unusedVariables false
set_option maxRecDepth 100000

theorem wait16 (w : World) (n : Int) (Ap : Option Addr) (np cp : Nat) (picks : List Int) (hp : U.Src w Ap 1 np (ints picks)) :
    Calls Try.prog 16 #[.int .i64 n, .slice Ap np cp] w (fun e w' => e = .returned (.bool true) ∧ Keep Nothing w w') := by
  by_cases h1 : 8 < n
  · exact wait16a w n Ap np cp picks hp h1
  · by_cases h2 : 1 < n
    · obtain ⟨N, rfl⟩ : ∃ N : Nat, n = N := ⟨n.toNat, by omega⟩
      exact wait16b w N Ap np cp picks hp (by omega) (by omega)
    · exact wait16c w n Ap np cp picks hp h1 h2
theorem swaits_law : R.Law 16 Try.f16 R.any := by
  intro H enc W base args ds p hval hA hsz _ hlt
  rw [Try.params16] at hA hval
  obtain ⟨v0, vs0, d0, ds0, p0, q0, hargs, rfl, rfl, h0, r0⟩ := trodAll_cons hA
  obtain ⟨v1, vs1, d1, ds1, p1, q1, rfl, rfl, rfl, h1, r1⟩ := trodAll_cons r0
  obtain ⟨rfl, rfl, rfl⟩ := trodAll_nil r1
  obtain rfl : args = #[v0, v1] := by cases args; simp_all
  obtain ⟨n, rfl⟩ := okWide_int Try.underlying3 (hval 0 3 v0 rfl rfl)
  obtain ⟨A, len, cap, l, rfl, hs⟩ := open_picks (hval 1 26 v1 rfl rfl) h1 (fun x hx => hlt x (List.mem_append_right _ (List.mem_append_left _ hx)))
  exact (wait16 W n A len cap l hs).mono fun e w' h => ⟨h.1, h.2.below (Nat.le_refl _) (fun _ h => h.elim)⟩
end Go.Proofs.Ytmohpjkbhpgidaa.A
