/-
  SchedNone: a scheduler that is none.
-/
import Derived.Test.YtmohpjkbhpgidaaVN
import Derived.Test.YtmohpjkbhpgidaaR
namespace Go.Proofs.Ytmohpjkbhpgidaa.A
open Go.ChangeShapes Go.WideShapes Go.ChangeAt Go.RowKit Go.Joins Go.Proofs.Ytmohpjkbhpgidaa.U
set_option linter.unusedVariables false
set_option linter.unusedSimpArgs false
set_option maxRecDepth 100000
set_option maxHeartbeats 800000

theorem snone_calls (w : World) (n : Int) : Calls Try.prog 18 #[.int .i64 n] w (fun e w' => e = .returned (.bool true) ∧ Keep Nothing w w') := by
  have hu := Try.underlying103
  go_enter Try.func18, Try.ntmps18
  go_wp2_with fail
  refine (step_none _ n).mono ?_
  rintro e w1 ⟨rfl, hk1⟩
  have K1 := Lib.hid hk1
  clear hk1
  go_wp2_with fail
  refine (ready61n _).mono ?_
  rintro e w2 ⟨rfl, hk2⟩
  have K2 := Lib.hid ((K1.out.alloc (.cells #[.int .i64 0, .int .i64 0, .int .i64 0] 103)).then hk2)
  clear hk2
  go_wp2_with fail
  refine (blocked67n _).mono ?_
  rintro e w3 ⟨rfl, hk3⟩
  have K3 := Lib.hid (K2.out.then hk3)
  clear hk3
  go_wp2_with fail
  refine (ended63n _).mono ?_
  rintro e w4 ⟨rfl, hk4⟩
  have K4 := Lib.hid (K3.out.then hk4)
  clear hk4
  go_wp2_with fail
  refine (awake54 _).mono ?_
  rintro e w5 ⟨rfl, hk5⟩
  have K5 := Lib.hid (K4.out.then hk5)
  clear hk5
  go_wp2_with fail
  go_ret
  exact ⟨rfl, K5.out⟩
theorem snone_law : R.Law 18 Try.f18 R.any := by
  intro H enc W base args ds p hval hA hsz _ hlt
  rw [Try.params18] at hA hval
  obtain ⟨v0, vs0, d0, ds0, p0, q0, hargs, rfl, rfl, h0, r0⟩ := trodAll_cons hA
  obtain ⟨rfl, rfl, rfl⟩ := trodAll_nil r0
  obtain rfl : args = #[v0] := by cases args; simp_all
  obtain ⟨n, rfl⟩ := okWide_int Try.underlying3 (hval 0 3 v0 rfl rfl)
  exact (snone_calls W n).mono fun e w' h => ⟨h.1, h.2.below (Nat.le_refl _) (fun _ h => h.elim)⟩
end Go.Proofs.Ytmohpjkbhpgidaa.A
