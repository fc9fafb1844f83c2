/-
  NetRoom.
-/
import Derived.Test.YtealhicbcbkofaaG
import Derived.Deep.DeepCutAuto
import Derived.Deep.CutBlock
namespace Go.Proofs.Ytealhicbcbkofaa.A
open Go.RowKit Go.Proofs.Ytealhicbcbkofaa.U
set_option linter.unusedVariables false
set_option linter.unusedSimpArgs false

def bP : ByteArray := ⟨#[112]⟩
def many (k : Nat) : List ByteArray := List.replicate (min k 4096) bP
theorem many_length (k : Nat) : (many k).length = min k 4096 := by simp [many]
theorem many_few {k : Nat} (h : k < 4096) : sendR (many k) bP = 0 ∧ sendL (many k) bP = many (k + 1) := by
  have e : ¬ 4096 ≤ (many k).length := by rw [many_length]; omega
  have e2 : ¬ 524288 < bP.size := by decide
  refine ⟨by unfold sendR; rw [if_neg e, if_neg e2], ?_⟩
  unfold sendL
  rw [if_neg e, if_neg e2]
  unfold many
  rw [show min (k + 1) 4096 = min k 4096 + 1 by omega, List.replicate_succ']
theorem many_full {k : Nat} (h : 4096 ≤ k) : sendR (many k) bP = 17 ∧ sendL (many k) bP = many (k + 1) := by
  have e : 4096 ≤ (many k).length := by rw [many_length]; omega
  refine ⟨by unfold sendR; rw [if_pos e], ?_⟩
  unfold sendL
  rw [if_pos e]
  unfold many
  rw [show min (k + 1) 4096 = 4096 by omega, show min k 4096 = 4096 by omega]
theorem many_dbl_full {k : Nat} (h : 4096 ≤ k) : dblR (many k) 0 = 17 := by
  have e : 4096 ≤ (many k).length := by rw [many_length]; omega
  unfold dblR sendR
  rw [if_pos (by omega), if_pos e]
theorem many_dbl_few {k : Nat} (h : k < 4096) : dblR (many k) 0 ≠ 17 := by
  have e : ¬ 4096 ≤ (many k).length := by rw [many_length]; omega
  unfold dblR
  by_cases hk : 0 < (many k).length
  · rw [if_pos (by omega)]
    unfold sendR
    rw [if_neg e]
    split <;> omega
  · rw [if_neg (by omega)]
    omega

set_option maxRecDepth 100000 in
theorem room_core (w : World) (m : Nat) (hm : m ≤ 4099) (n : Int) (hn : (if (if n < 4099 then n else 4099) < 0 then 0 else if n < 4099 then n else 4099) = (m : Int)) :
    Calls Try.prog 5 #[.int .i64 n] w (fun e w' => e = .returned (.bool true) ∧ Below w.heap.size w w') := by
  have H0 := Holds.start w
  go_enter Try.func5, Try.ntmps5
  go_upto_region 1 with (fail)
  go_cut [0] (fun v0 wc => v0 = .int .i64 m ∧ wc = w)
  case first =>
    rcases (show n < 0 ∨ (0 ≤ n ∧ n < 4099) ∨ 4099 ≤ n by omega) with h | ⟨h, h'⟩ | h
    all_goals go_wp2
    all_goals go_meet
    all_goals (case rel => exact ⟨by congr 1; omega, rfl⟩)
  case rest =>
    obtain ⟨rfl, rfl⟩ := hcut
    clear hn
    go_wp2_with fail
    refine (x_new H0 none_stable).mono ?_
    rintro e w1 ⟨b, rfl, H1⟩
    go_wp2_with fail
    go_loopw [4] (fun i wr => ∃ k : Nat, k ≤ m ∧ i = .int .i64 k ∧ Holds wc.heap.size wc wr (star (netP 50 b (many k)) none_)) (fun i _ => m - (intOf i).toNat)
    case atStart => exact ⟨0, Nat.zero_le _, rfl, H1⟩
    case round =>
      obtain ⟨k, hk, rfl, H2⟩ := hrel
      by_cases hlt : k < m
      · by_cases hf : k < 4096
        · have f1 : decide ((k : Int) < 4096) = true := decide_eq_true (by omega)
          go_wp2_with fail
          refine (x_send H2 none_stable bP).mono ?_
          rw [(many_few hf).1, (many_few hf).2]
          rintro e w3 ⟨rfl, H3⟩
          go_wp2_with fail
          go_roundw
          case rel => exact ⟨k + 1, by omega, by go_num, H3⟩
          case measure => simp [intOf]; omega
        · have f1 : decide ((k : Int) < 4096) = false := decide_eq_false (by omega)
          go_wp2_with fail
          refine (x_send H2 none_stable bP).mono ?_
          rw [(many_full (by omega)).1, (many_full (by omega)).2]
          rintro e w3 ⟨rfl, H3⟩
          go_wp2_with fail
          go_roundw
          case rel => exact ⟨k + 1, by omega, by go_num, H3⟩
          case measure => simp [intOf]; omega
      · have hkm : k = m := by omega
        subst hkm
        clear hlt hk
        have hS := (netP_stable 50 b (many k)).star none_stable
        by_cases hf : k < 4096
        · have hne := many_dbl_few hf
          obtain ⟨r, hr⟩ : ∃ r, dblR (many k) 0 = r := ⟨_, rfl⟩
          have f1 : (r == 17) = false := by rw [beq_eq_false_iff_ne, ← hr]; exact hne
          have f3 : decide (4096 ≤ (k : Int)) = false := decide_eq_false (by omega)
          have f4 : (k : Int) < 4096 := by omega
          go_wp2_with fail
          refine (x_len H2).mono ?_
          rw [many_length, show min k 4096 = k by omega]
          rintro e w3 ⟨rfl, ⟨n3, rfl⟩⟩
          have H3 := H2.drewN hS n3
          go_wp2_with fail
          refine (x_double H3 none_stable 0).mono ?_
          rw [hr]
          rintro e w4 ⟨rfl, H4⟩
          clear hr hne
          go_wp2_with fail
          refine (awake_calls _).mono ?_
          rintro e w5 ⟨rfl, hb⟩
          go_wp2_with fail
          go_ret
          exact ⟨rfl, bThen H4.below hb⟩
        · have hr := many_dbl_full (k := k) (by omega)
          have f3 : decide (4096 ≤ (k : Int)) = true := decide_eq_true (by omega)
          rcases (show (k : Int) = 4096 ∨ 4096 < (k : Int) by omega) with f4 | f4
          · have hk4 : k = 4096 := by omega
            subst hk4
            clear f4
            go_wp2_with fail
            refine (x_len H2).mono ?_
            rw [many_length, show min 4096 4096 = 4096 by omega]
            rintro e w3 ⟨rfl, ⟨n3, rfl⟩⟩
            have H3 := H2.drewN hS n3
            go_wp2_with fail
            refine (x_double H3 none_stable 0).mono ?_
            rw [hr]
            rintro e w4 ⟨rfl, H4⟩
            clear hr
            go_wp2_with fail
            refine (awake_calls _).mono ?_
            rintro e w5 ⟨rfl, hb⟩
            go_wp2_with fail
            go_ret
            exact ⟨rfl, bThen H4.below hb⟩
          · skip
            go_wp2_with fail
            refine (x_len H2).mono ?_
            rw [many_length, show min k 4096 = 4096 by omega]
            rintro e w3 ⟨rfl, ⟨n3, rfl⟩⟩
            have H3 := H2.drewN hS n3
            go_wp2_with fail
            refine (x_double H3 none_stable 0).mono ?_
            rw [hr]
            rintro e w4 ⟨rfl, H4⟩
            clear hr
            go_wp2_with fail
            refine (awake_calls _).mono ?_
            rintro e w5 ⟨rfl, hb⟩
            go_wp2_with fail
            go_ret
            exact ⟨rfl, bThen H4.below hb⟩

open Go.ChangeShapes Go.WideShapes Go.ChangeAt in
theorem room_law : R.Law 5 Try.f5 R.any := by
  intro H enc W base args ds p hval hA hsz _ hlt
  rw [Try.params5] at hA hval
  obtain ⟨v0, vs0, d0, ds0, p0, q0, hargs, rfl, rfl, h0, r0⟩ := Go.ChangeShapes.trodAll_cons hA
  obtain ⟨rfl, rfl, rfl⟩ := Go.ChangeShapes.trodAll_nil r0
  obtain rfl : args = #[v0] := by cases args; simp_all
  obtain ⟨n, rfl, rfl, rfl, w0⟩ := open_int Try.underlying3 (hval 0 3 v0 rfl rfl) h0
  by_cases h1 : n < 4099
  · by_cases h2 : n < 0
    · exact room_core W 0 (by omega) n (by rw [if_pos h1, if_pos h2]; rfl)
    · exact room_core W n.toNat (by omega) n (by rw [if_pos h1, if_neg h2]; omega)
  · exact room_core W 4099 (by omega) n (by rw [if_neg h1, if_neg (by omega)]; rfl)
end Go.Proofs.Ytealhicbcbkofaa.A
