/-
  FrameReads.
-/
import Derived.Test.YtdemmlckalhinaaG
namespace Go.Proofs.Ytdemmlckalhinaa.A
open Go.RowKit Go.Proofs.Ytdemmlckalhinaa.U
set_option linter.unusedVariables false
set_option linter.unusedSimpArgs false

theorem allP_few (s : ByteArray) : (allP s).1.length * 8 ≤ s.size := by
  generalize hn : s.size = n
  induction n using Nat.strongRecOn generalizing s with
  | _ n ih =>
    by_cases h : firstE s = 0
    · have hf := firstN_some h
      have := ih (s.extract (firstN s) s.size).size (by rw [ByteArray.size_extract]; omega) _ rfl
      rw [allP_go h]
      rw [ByteArray.size_extract] at this
      simp only [List.length_cons]
      omega
    · rw [allP_end h]
      simp

set_option maxRecDepth 100000 in
set_option maxHeartbeats 1600000 in
theorem reads_calls (w : World) (s : ByteArray) : Calls Try.prog 4 #[.string s] w (fun e w' => e = .returned (.bool true) ∧ Keep Nothing w w') := by
  by_cases hbig : 2097152 < s.size
  · go_enter Try.func4, Try.ntmps4
    go_wp2_with fail
    refine (awake_calls _).mono ?_
    rintro e w1 ⟨rfl, hk1⟩
    go_wp2_with fail
    go_ret
    exact ⟨rfl, hk1⟩
  · have HF := Lib.hid (fun w => first_calls w s (by omega))
    have HR := Lib.hid (fun w => rfirst_calls w s (by omega))
    have HA := Lib.hid (fun w => all_calls w s (by omega))
    have HRA := Lib.hid (fun w => rall_calls w s (by omega))
    have hfew := allP_few s
    have hfew2 : (allP s).1.length ≤ 20000000 := by omega
    have HL := Lib.hid hfew2
    clear hfew hfew2
    unfold firstV at HF HR
    generalize firstT s = t at *
    generalize firstN s = n at *
    generalize firstE s = q at *
    generalize (allP s).2 = m at *
    generalize (allP s).1 = L at *
    have tt : (t.toList == t.toList) = true := by simp
    go_enter Try.func4, Try.ntmps4
    go_wp2_with fail
    refine (HF.out _).mono ?_
    rintro e w1 ⟨rfl, hk1⟩
    have K1 := Lib.hid hk1
    clear hk1
    go_wp2_with fail
    refine (HR.out _).mono ?_
    rintro e w2 ⟨rfl, ⟨n2, rfl⟩⟩
    go_wp2_with fail
    refine (HA.out _).mono ?_
    rintro e w3 ⟨A3, c3, rfl, hr3, hk3⟩
    have K3 := Lib.hid hk3
    have R3 := Lib.hid hr3
    clear hk3 hr3
    go_wp2_with fail
    refine (HRA.out _).mono ?_
    rintro e w4 ⟨A4, c4, rfl, hr4, hk4⟩
    have K4 := Lib.hid hk4
    have R4 := Lib.hid hr4
    clear hk4 hr4
    go_wp2_with fail
    refine (texts_calls _ _ _ _ _ L L L.length L.length rfl rfl (R3.out.keep K4.out (fun _ _ h => h)).src R4.out.src HL.out HL.out).mono ?_
    rw [show decide (L = L) = true from decide_eq_true rfl]
    rintro e w5 ⟨rfl, ⟨n5, rfl⟩⟩
    go_wp2_with fail
    refine (awake_calls _).mono ?_
    rintro e w6 ⟨rfl, hk6⟩
    have K6 := Lib.hid hk6
    clear hk6
    go_wp2_with fail
    go_ret
    exact ⟨rfl, ((((K1.out.drewN _).then K3.out).then K4.out).drewN _).then K6.out⟩

open Go.ChangeShapes Go.WideShapes Go.ChangeAt in
theorem reads_law : R.Law 4 Try.f4 R.any := by
  intro H enc W base args ds p hval hA hsz _ hlt
  rw [Try.params4] at hA hval
  obtain ⟨v0, vs0, d0, ds0, p0, q0, hargs, rfl, rfl, h0, r0⟩ := trodAll_cons hA
  obtain ⟨rfl, rfl, rfl⟩ := trodAll_nil r0
  obtain rfl : args = #[v0] := by cases args; simp_all
  obtain ⟨s, rfl⟩ := okWide_string Try.underlying9 (hval 0 9 v0 rfl rfl)
  exact (reads_calls W s).mono fun e w' h => ⟨h.1, h.2.below (Nat.le_refl _) (fun _ h => h.elim)⟩
end Go.Proofs.Ytdemmlckalhinaa.A
