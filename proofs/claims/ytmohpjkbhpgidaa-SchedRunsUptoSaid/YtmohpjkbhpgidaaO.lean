/-
  slices.Delete at rows of numbers (one of them).
-/
import Derived.Test.YtmohpjkbhpgidaaN
namespace Go.Proofs.Ytmohpjkbhpgidaa.A
open Go.RowKit Go.Proofs.Ytmohpjkbhpgidaa.U
set_option linter.unusedVariables false
set_option linter.unusedSimpArgs false
set_option maxRecDepth 100000

set_option maxHeartbeats 12800000 in
theorem ii_delete (w : World) (v : Value) (n : Nat) (xs : List Value) (hrow : Row w 3 1 v n xs) (i : Nat) (hi : i < n) (h1x : ∀ u ∈ xs, u.oneCell' = true) (hn : n ≤ 1000000) :
    Calls Try.prog 71 #[v, .int .i64 i, .int .i64 ((i : Int) + 1)] w (Put1 3 1 w v (n - 1) (xs.take (i * 1) ++ xs.drop ((i + 1) * 1))) := by
  obtain ⟨A, c, rfl, hnc, hcm⟩ := hrow.form
  rcases hrow.2 with ⟨h0, h00⟩ | ⟨g, o, cap, cur, hv0, hb, k1, k2, k3, k4⟩
  · omega
  · injection hv0 with e1 _ e3
    subst e1 e3
    have hc63 : c ≤ 9223372036854775807 := by unfold maxLen at hcm; omega
    have hu := Try.underlying26
    obtain ⟨w1, w2, hAP, hCL, hR, hK⟩ := del_place (P := Try.prog) w.drew E26 hb.drew k1 k2 k3 k4 hi h1x (by simp [Value.cells, Value.oneCell'])
    obtain ⟨p, hp⟩ : ∃ p, n - 1 = p := ⟨_, rfl⟩
    rw [hp] at hAP hCL hR
    have hs3 : ∀ w : World, (Instr.slice 26 (.slice (some ⟨g, o, none⟩) p c) (some (.int .i64 (p : Int))) (some (.int .i64 (n : Int))) none).run Try.prog w = .ok (.slice (some ⟨g, o + p * 1, none⟩) 1 (c - p)) w := by
      have h1 : (0 : Int) ≤ n ∧ (n : Int) ≤ c := by omega
      have h2 : (0 : Int) ≤ (p : Int) ∧ (p : Int) ≤ (n : Int) := by omega
      have h3 : ¬ (c = p) := by omega
      have h4 : n - p = 1 := by omega
      intro w
      simp [Instr.slice, Instr.sliceBounds, run_underlying E26.slice, E26.sz, run_sliceBound_if, h1, h2, h3, h4, addAt]
      intro h
      omega
    have hs0 : ∃ S0 : Value, ∀ w : World, (Instr.slice 26 (.slice (some ⟨g, o, none⟩) n c) (some (.int .i64 (i : Int))) (some (.int .i64 ((i : Int) + 1))) (some (.int .i64 (n : Int)))).run Try.prog w = .ok S0 w := by
      have h1 : (0 : Int) ≤ n ∧ (n : Int) ≤ c := by omega
      have h2 : (0 : Int) ≤ (i : Int) + 1 ∧ (i : Int) + 1 ≤ n := by omega
      have h3 : (0 : Int) ≤ (i : Int) ∧ (i : Int) ≤ (i : Int) + 1 := by omega
      refine ⟨.slice (if n = i then some ⟨g, o, none⟩ else some ((⟨g, o, none⟩ : Addr).add i)) 1 (n - i), fun w => ?_⟩
      simp [Instr.slice, Instr.sliceBounds, run_underlying E26.slice, E26.sz, run_sliceBound_if, h1, h2, h3]
    obtain ⟨S0, hs0⟩ := hs0
    have hs1 := fun w => run_upto (P := Try.prog) w E26 (some ⟨g, o, none⟩) n c i (i : Int) rfl (by omega)
    obtain ⟨A1, hA1, hs2⟩ : ∃ A1 : Option Addr, A1 = (if c = i + 1 then some ⟨g, o, none⟩ else some ⟨g, o + (i + 1) * 1, none⟩) ∧ ∀ w : World, (Instr.slice 26 (.slice (some ⟨g, o, none⟩) n c) (some (.int .i64 ((i : Int) + 1))) none none).run Try.prog w = .ok (.slice A1 (n - (i + 1)) (c - (i + 1))) w := by
      refine ⟨_, rfl, fun w => ?_⟩
      rw [run_from (P := Try.prog) w E26 (some ⟨g, o, none⟩) n c (i + 1) ((i : Int) + 1) (by omega) (by omega), Option.map_some, addAt]
    rw [← hA1] at hAP
    obtain ⟨R, HR0⟩ : ∃ R, RowKit.Hid (Put1 3 1 w (.slice (some ⟨g, o, none⟩) n c) (n - 1) (xs.take (i * 1) ++ xs.drop ((i + 1) * 1)) = R) := ⟨_, Lib.hid rfl⟩
    rw [HR0.out]
    have AP := Lib.hid hAP
    have CL := Lib.hid hCL
    have R2 := Lib.hid hR
    have K2 := Lib.hid hK
    rw [hp] at HR0
    have gij : ((i : Int) == (i : Int) + 1) = false := by rw [beq_eq_false_iff_ne]; omega
    clear hA1 hp hAP hCL hR hK hrow h1x hb k1 k2 k3 k4 hcm
    go_enter Try.func71, Try.ntmps71
    go_wp2_with fail
    go_region_law (first | (refine step_append_run _ (by rfl) (.tmp 22) (.tmp 25) 26 26 (by rfl) _ _ (by simp [Act.eval, Act.put]) (by simp [Act.eval, Act.put]) AP.out ?_))
    have cl := CL.out
    (try simp only [Nat.mul_one] at cl hs3)
    go_wp2_with fail
    try go_ret
    rw [← HR0.out]
    exact ⟨_, rfl, R2.out, ⟨K2.out.os, K2.out.tape, K2.out.output, K2.out.size, fun k hk hne => K2.out.block k hk fun e => hne (by rw [e]; rfl)⟩, .inl rfl⟩
end Go.Proofs.Ytmohpjkbhpgidaa.A
