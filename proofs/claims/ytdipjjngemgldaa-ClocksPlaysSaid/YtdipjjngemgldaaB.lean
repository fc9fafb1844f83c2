/-
  The clocks' Go and Set.
-/
import Derived.Test.YtdipjjngemgldaaA
namespace Go.Proofs.Ytdipjjngemgldaa.A
open Go.RowKit Go.Proofs.Ytdipjjngemgldaa.U
set_option linter.unusedVariables false
set_option linter.unusedSimpArgs false
set_option maxRecDepth 100000

def addK (L M : List Int) : Nat → List Int
  | 0 => L
  | k + 1 => (addK L M k).set k (L.getD k 0 + M.getD k 0)
theorem addK_len (L M : List Int) : ∀ k, (addK L M k).length = L.length
  | 0 => rfl
  | k + 1 => by rw [addK, List.length_set, addK_len L M k]
theorem addK_ge (L M : List Int) : ∀ k j, k ≤ j → (addK L M k)[j]? = L[j]?
  | 0, _, _ => rfl
  | k + 1, j, h => by rw [addK, List.getElem?_set, if_neg (by omega), addK_ge L M k j (by omega)]
theorem addK_lt (L M : List Int) : ∀ k j, j < k → k ≤ L.length → (addK L M k)[j]? = some (L.getD j 0 + M.getD j 0)
  | k + 1, j, h, hk => by
    rw [addK, List.getElem?_set]
    by_cases e : k = j
    · subst e
      rw [if_pos rfl, if_pos (by rw [addK_len]; omega)]
    · rw [if_neg e, addK_lt L M k j (by omega) (by omega)]
def InR (L : List Int) : Prop := ∀ (j : Nat) (x : Int), L[j]? = some x → 0 ≤ x ∧ x ≤ 1099511627776
def FarOut (L M : List Int) : Prop := ∃ j : Nat, j < M.length ∧ 1099511627776 - L.getD j 0 < M.getD j 0
open Classical in
noncomputable def goE (L M : List Int) (r d : Int) : Int := if d < 0 ∨ M.length ≠ L.length ∨ (∃ x ∈ M, x < 0) then 1 else if 1099511627776 - r < d ∨ FarOut L M then 15 else 0
noncomputable def goL (L M : List Int) (r d : Int) : List Int := if goE L M r d = 0 then addK L M M.length else L
noncomputable def goR (L M : List Int) (r d : Int) : Int := if goE L M r d = 0 then r + d else r
theorem goE_arg {L M : List Int} {r d : Int} (h : d < 0 ∨ M.length ≠ L.length ∨ (∃ x ∈ M, x < 0)) : goE L M r d = 1 ∧ goL L M r d = L ∧ goR L M r d = r := by
  have e : goE L M r d = 1 := by unfold goE; rw [if_pos h]
  exact ⟨e, by unfold goL; rw [e, if_neg (by omega)], by unfold goR; rw [e, if_neg (by omega)]⟩
theorem goE_far {L M : List Int} {r d : Int} (h : ¬ (d < 0 ∨ M.length ≠ L.length ∨ (∃ x ∈ M, x < 0))) (h2 : 1099511627776 - r < d ∨ FarOut L M) : goE L M r d = 15 ∧ goL L M r d = L ∧ goR L M r d = r := by
  have e : goE L M r d = 15 := by unfold goE; rw [if_neg h, if_pos h2]
  exact ⟨e, by unfold goL; rw [e, if_neg (by omega)], by unfold goR; rw [e, if_neg (by omega)]⟩
theorem goE_ok {L M : List Int} {r d : Int} (h : ¬ (d < 0 ∨ M.length ≠ L.length ∨ (∃ x ∈ M, x < 0))) (h2 : ¬ (1099511627776 - r < d ∨ FarOut L M)) : goE L M r d = 0 ∧ goL L M r d = addK L M M.length ∧ goR L M r d = r + d := by
  have e : goE L M r d = 0 := by unfold goE; rw [if_neg h, if_neg h2]
  exact ⟨e, by unfold goL; rw [if_pos e], by unfold goR; rw [if_pos e]⟩
theorem getD_of {L : List Int} {j : Nat} {x : Int} (h : L[j]? = some x) : L.getD j 0 = x := by rw [List.getD_eq_getElem?_getD, h]; rfl
def GoPost (w : World) (F : Nat → Prop) (t b : Nat) (L M : List Int) (r d : Int) (e : Ending) (w' : World) : Prop :=
  e = .returned (.int .i64 (goE L M r d)) ∧ Step w F (ckP t b (goL L M r d) (goR L M r d)) w'
theorem ck_same {w : World} {t b : Nat} {L : List Int} {r : Int} {F : Nat → Prop} (h : ckP t b L r w F) : Step w F (ckP t b L r) w := ⟨F, h, Keep.same _ _, fun k hk => .inl hk⟩
set_option maxHeartbeats 12800000 in
theorem go_calls (w : World) (b : Nat) (F : Nat → Prop) (L M : List Int) (r d : Int) (A : Option Addr) (m c : Nat) (h : ckP 55 b L r w F) (hM : Src w A 1 m (ints M)) (hap : ∀ ad, A = some ad → ¬ F ad.block) (hL : InR L) (hr0 : 0 ≤ r) (hr1 : r ≤ 1099511627776) (hm : m ≤ 9223372036854775807) (hd : d ≤ 9223372036854775807) :
    Calls Try.prog 13 #[.pointer (some ⟨b, 0, none⟩), .int .i64 d, .slice A m c] w (GoPost w F 55 b L M r d) := by
  have hu := Try.underlying55
  have hlen := ints_len hM
  have HC := Lib.hid (cfn_calls w A m c M hM hm)
  have SM := Lib.hid (ck_same h)
  have CP := Lib.hid hap
  have SR := Lib.hid hM
  obtain ⟨v, hb, hr, hF⟩ := h
  obtain ⟨A0, c0, rfl, _, _⟩ := hr.form
  have hc0 := hb.cell 0
  have hc1 := hb.cell 1
  have hf1 := hb.free 1
  have B := Lib.hid hb
  have R := Lib.hid hr
  have FF := Lib.hid hF
  have IR := Lib.hid hL
  have w1 : IntKind.i64.wrap (1099511627776 - r) = 1099511627776 - r := by rw [IntKind.wrap_i64]; omega
  clear hb hr hF hM hap hL
  by_cases h1 : d < 0 ∨ M.length ≠ L.length ∨ (∃ x ∈ M, x < 0)
  · obtain ⟨e1, e2, e3⟩ := goE_arg (r := r) h1
    have E1 := Lib.hid e1
    have E2 := Lib.hid e2
    have E3 := Lib.hid e3
    clear e1 e2 e3
    by_cases h2 : d < 0
    · clear h1
      go_enter Try.func13, Try.ntmps13
      go_wp2_with fail
      go_ret
      exact ⟨by rw [E1.out]; rfl, by rw [E2.out, E3.out]; exact SM.out⟩
    · have g1 : decide (d < 0) = false := decide_eq_false h2
      by_cases h3 : M.length = L.length
      · have hx : ∃ x ∈ M, x < 0 := by
          rcases h1 with h | h | h
          · exact absurd h h2
          · exact absurd h3 h
          · exact h
        rw [decide_eq_true hx] at HC
        have g2 : ((m : Int) != (L.length : Int)) = false := by simp; omega
        clear h1 hx
        go_enter Try.func13, Try.ntmps13
        go_wp2_with fail
        refine HC.out.mono ?_
        rintro e w' ⟨rfl, rfl⟩
        go_wp2_with fail
        go_ret
        exact ⟨by rw [E1.out]; rfl, by rw [E2.out, E3.out]; exact SM.out⟩
      · have g2 : ((m : Int) != (L.length : Int)) = true := by simp; omega
        clear h1
        go_enter Try.func13, Try.ntmps13
        go_wp2_with fail
        go_ret
        exact ⟨by rw [E1.out]; rfl, by rw [E2.out, E3.out]; exact SM.out⟩
  · have h2 : ¬ d < 0 := fun h => h1 (.inl h)
    have h3 : M.length = L.length := Classical.byContradiction fun h => h1 (.inr (.inl h))
    have h4 : ¬ ∃ x ∈ M, x < 0 := fun h => h1 (.inr (.inr h))
    rw [decide_eq_false h4] at HC
    have g1 : decide (d < 0) = false := decide_eq_false h2
    have hmL : L.length = m := by omega
    have N4 := Lib.hid h4
    have N1 := Lib.hid h1
    clear h1 h4
    by_cases h5 : 1099511627776 - r < d
    · obtain ⟨e1, e2, e3⟩ := goE_far N1.out (.inl h5)
      have E1 := Lib.hid e1
      have E2 := Lib.hid e2
      have E3 := Lib.hid e3
      have g2 : ((m : Int) != (L.length : Int)) = false := by simp; omega
      have g3 : decide (1099511627776 - r < d) = true := decide_eq_true h5
      clear e1 e2 e3 h3 hmL hlen
      go_enter Try.func13, Try.ntmps13
      go_wp2_with fail
      refine HC.out.mono ?_
      rintro e w' ⟨rfl, rfl⟩
      go_wp2_with fail
      go_ret
      exact ⟨by rw [E1.out]; rfl, by rw [E2.out, E3.out]; exact SM.out⟩
    · have g3 : decide (1099511627776 - r < d) = false := decide_eq_false h5
      have LM := Lib.hid hmL
      have LN := Lib.hid hlen
      rw [hmL] at R B FF hc0 hc1
      have g2 : ((m : Int) != (m : Int)) = false := by simp
      clear hmL hlen h3
      go_enter Try.func13, Try.ntmps13
      go_wp2_with fail
      refine HC.out.mono ?_
      rintro e w' ⟨rfl, rfl⟩
      go_wp2_with fail
      go_loopw [40] (fun v wr => wr = w' ∧ ∃ k : Nat, k ≤ m ∧ v = .int .i64 k ∧ ∀ j : Nat, j < k → ¬ 1099511627776 - L.getD j 0 < M.getD j 0) (fun v _ => m - (intOf v).toNat)
      case atStart => exact ⟨by trivial, 0, by omega, by simp, fun j hj => by omega⟩
      case round =>
        obtain ⟨rfl, k, hk, rfl, hne⟩ := hrel
        have NE := Lib.hid hne
        clear hne
        by_cases hlt : k < m
        · obtain ⟨ad, y, rfl, hy, hcy⟩ := i_at SR.out hlt
          obtain ⟨ad0, x, rfl, hx, hcx⟩ := i_at R.out.src hlt
          have hxr := IR.out k x hx
          have wx : IntKind.i64.wrap (1099511627776 - x) = 1099511627776 - x := by rw [IntKind.wrap_i64]; omega
          have HX := Lib.hid (getD_of hx)
          have HY := Lib.hid (getD_of hy)
          clear hx hy
          by_cases h6 : 1099511627776 - x < y
          · obtain ⟨e1, e2, e3⟩ := goE_far (r := r) N1.out (.inr ⟨k, by rw [LN.out]; exact hlt, by rw [HX.out, HY.out]; exact h6⟩)
            have E1 := Lib.hid e1
            have E2 := Lib.hid e2
            have E3 := Lib.hid e3
            have g4 : decide (1099511627776 - x < y) = true := decide_eq_true h6
            clear e1 e2 e3
            go_wp2_with fail
            go_ret
            exact ⟨by rw [E1.out]; rfl, by rw [E2.out, E3.out]; exact SM.out⟩
          · have g4 : decide (1099511627776 - x < y) = false := decide_eq_false h6
            have H6 := Lib.hid h6
            clear h6
            go_wp2_with fail
            go_roundw
            case rel => exact ⟨by trivial, k + 1, by omega, by go_num, fun j hj => by
              by_cases h : j < k
              · exact NE.out j h
              · obtain rfl : j = k := by omega
                rw [HX.out, HY.out]
                exact H6.out⟩
            case measure => simp [intOf]; omega
        · obtain rfl : k = m := by omega
          obtain ⟨e1, e2, e3⟩ := goE_ok N1.out (show ¬ (1099511627776 - r < d ∨ FarOut L M) by
            rintro (h | ⟨j, hj, h⟩)
            · omega
            · rw [LN.out] at hj
              exact NE.out j hj h)
          have E1 := Lib.hid e1
          have E2 := Lib.hid e2
          have E3 := Lib.hid e3
          have w9 : IntKind.i64.wrap (r + d) = r + d := by rw [IntKind.wrap_i64]; omega
          have B1 := Lib.hid (B.out.put 1 (.int .i64 (r + d)))
          have hne0 := R.out.apart B.out (by decide)
          have R1 := Lib.hid (R.out.keep ((Keep.same (fun i => i = b) wr).set (p := ⟨b, 1, none⟩) (.inl rfl) (.int .i64 (r + d))) (fun g hg e => hne0 (by rw [hg, e])))
          clear e1 e2 e3
          have K1 := Lib.hid ((Keep.same F wr).set (p := ⟨b, 1, none⟩) (.inl ((FF.out b).2 (.inl rfl))) (.int .i64 (r + d)))
          have B1' := Lib.hid (show Blk (wr.setCell ⟨b, 1, none⟩ (.int .i64 (r + d))) b 55 #[.slice A0 k c0, .int .i64 (r + d)] by simpa using B1.out)
          go_wp2_with fail
          go_loopw [66] (fun v wr2 => ∃ j : Nat, j ≤ k ∧ v = .int .i64 j ∧ Blk wr2 b 55 #[.slice A0 k c0, .int .i64 (r + d)] ∧ Row wr2 3 1 (.slice A0 k c0) k (ints (addK L M j)) ∧ Keep F wr wr2) (fun v _ => k - (intOf v).toNat)
          case atStart => exact ⟨0, by omega, by simp, B1'.out, R1.out, K1.out⟩
          case round =>
            obtain ⟨j, hj, rfl, hb2, hr2, hk2⟩ := hrel
            have B2 := Lib.hid hb2
            have R2 := Lib.hid hr2
            have K2 := Lib.hid hk2
            have d0 := hb2.cell 0
            clear hb2 hr2 hk2 hc0 hc1
            by_cases hjk : j < k
            · obtain ⟨ad, y, rfl, hy, hcy⟩ := i_at SR.out hjk
              have hcy2 := K2.out.cell hcy (by rw [addBlock]; exact CP.out _ rfl)
              obtain ⟨ad0, x, rfl, hx, hcx⟩ := i_at R2.out.src hjk
              rw [addK_ge L M j j (Nat.le_refl _)] at hx
              have hxr := IR.out j x hx
              have hyr := NE.out j hjk
              rw [getD_of hx, getD_of hy] at hyr
              have hy0 : 0 ≤ y := Int.not_lt.1 (fun h => N4.out ⟨y, List.mem_of_getElem? hy, h⟩)
              have wxy : IntKind.i64.wrap (x + y) = x + y := by rw [IntKind.wrap_i64]; omega
              obtain ⟨hfz, hown, hrs⟩ := row_set R2.out hjk (x + y)
              have ES := Lib.hid (show (addK L M j).set j (x + y) = addK L M (j + 1) by rw [addK, getD_of hx, getD_of hy])
              rw [ES.out] at hrs
              have hbb : b ≠ (ad0.add j).block := fun e => R2.out.apart B2.out (by decide) (by rw [hown, ← e])
              have B3 := Lib.hid (B2.out.far hbb (.int .i64 (x + y)))
              have R3 := Lib.hid hrs
              have K3 := Lib.hid (K2.out.set (p := ad0.add j) (.inl ((FF.out _).2 (.inr hown))) (.int .i64 (x + y)))
              clear hx hy hcy hown hrs hbb
              go_wp2_with fail
              go_roundw
              case rel => exact ⟨j + 1, by omega, by go_num, B3.out, R3.out, K3.out⟩
              case measure => simp [intOf]; omega
            · obtain rfl : j = k := by omega
              go_wp2_with fail
              go_ret
              refine ⟨by rw [E1.out]; rfl, ?_⟩
              rw [E2.out, E3.out, LN.out]
              have hl : (addK L M j).length = j := by rw [addK_len]; exact LM.out
              exact ⟨F, ⟨_, B2.out, by rw [hl]; exact R2.out, FF.out⟩, K2.out, fun k hk => .inl hk⟩
end Go.Proofs.Ytdipjjngemgldaa.A
