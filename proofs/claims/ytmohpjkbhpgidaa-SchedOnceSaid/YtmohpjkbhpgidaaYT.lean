/-
  SchedOnce: tasks that all run a once; whatever picks, it is done once, and all come to their ends.
-/
import Derived.Test.YtmohpjkbhpgidaaYQ
import Derived.Test.YtmohpjkbhpgidaaYR
import Derived.Test.YtmohpjkbhpgidaaYS
import Derived.Test.YtmohpjkbhpgidaaYU
namespace Go.Proofs.Ytmohpjkbhpgidaa.A
open Go.ChangeShapes Go.WideShapes Go.ChangeAt Go.RowKit Go.Joins Go.Proofs.Ytmohpjkbhpgidaa.U
set_option linter.unusedVariables false
set_option maxRecDepth 100000

theorem once15 (w : World) (n : Int) (Ap : Option Addr) (np cp : Nat) (picks : List Int) (hp : U.Src w Ap 1 np (ints picks)) :
    Calls Try.prog 15 #[.int .i64 n, .slice Ap np cp] w (fun e w' => e = .returned (.bool true) ∧ Keep Nothing w w') := by
  by_cases h1 : 8 < n
  · exact once15a w n Ap np cp picks hp h1
  · by_cases h2 : 1 < n
    · obtain ⟨N, rfl⟩ : ∃ N : Nat, n = N := ⟨n.toNat, by omega⟩
      exact once15b w N Ap np cp picks hp (by omega) (by omega)
    · exact once15c w n Ap np cp picks hp h1 h2
theorem sonce_law : R.Law 15 Try.f15 R.any := by
  intro H enc W base args ds p hval hA hsz _ hlt
  rw [Try.params15] at hA hval
  obtain ⟨v0, vs0, d0, ds0, p0, q0, hargs, rfl, rfl, h0, r0⟩ := trodAll_cons hA
  obtain ⟨v1, vs1, d1, ds1, p1, q1, rfl, rfl, rfl, h1, r1⟩ := trodAll_cons r0
  obtain ⟨rfl, rfl, rfl⟩ := trodAll_nil r1
  obtain rfl : args = #[v0, v1] := by cases args; simp_all
  obtain ⟨n, rfl⟩ := okWide_int Try.underlying3 (hval 0 3 v0 rfl rfl)
  obtain ⟨A, len, cap, l, rfl, hs⟩ := open_picks (hval 1 26 v1 rfl rfl) h1 (fun x hx => hlt x (List.mem_append_right _ (List.mem_append_left _ hx)))
  exact (once15 W n A len cap l hs).mono fun e w' h => ⟨h.1, h.2.below (Nat.le_refl _) (fun _ h => h.elim)⟩
end Go.Proofs.Ytmohpjkbhpgidaa.A
