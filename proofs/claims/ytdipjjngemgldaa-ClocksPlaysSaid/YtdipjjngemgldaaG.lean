/-
  The reference's Go.
-/
import Derived.Test.YtdipjjngemgldaaF
namespace Go.Proofs.Ytdipjjngemgldaa.A
open Go.RowKit Go.Proofs.Ytdipjjngemgldaa.U
set_option linter.unusedVariables false
set_option linter.unusedSimpArgs false
set_option maxRecDepth 100000

open Classical in
/-- What the reference has found out behind k clocks: is one to go too far? -/
noncomputable def farB (L M : List Int) (r d : Int) (k : Nat) : Bool := decide (1099511627776 - r < d ∨ ∃ j : Nat, j < k ∧ 1099511627776 - L.getD j 0 < M.getD j 0)
theorem farB_0 (L M : List Int) (r d : Int) : farB L M r d 0 = decide (1099511627776 - r < d) := by
  unfold farB
  congr 1
  apply propext
  constructor
  · rintro (h | ⟨j, hj, _⟩)
    · exact h
    · omega
  · exact .inl
theorem farB_next (L M : List Int) (r d : Int) (k : Nat) : farB L M r d (k + 1) = (farB L M r d k || decide (1099511627776 - L.getD k 0 < M.getD k 0)) := by
  unfold farB
  rw [Bool.eq_iff_iff, Bool.or_eq_true, decide_eq_true_iff, decide_eq_true_iff, decide_eq_true_iff]
  constructor
  · rintro (h | ⟨j, hj, h⟩)
    · exact .inl (.inl h)
    · by_cases hk : j < k
      · exact .inl (.inr ⟨j, hk, h⟩)
      · obtain rfl : j = k := by omega
        exact .inr h
  · rintro ((h | ⟨j, hj, h⟩) | h)
    · exact .inl h
    · exact .inr ⟨j, by omega, h⟩
    · exact .inr ⟨k, by omega, h⟩
set_option maxHeartbeats 12800000 in
theorem rgo_calls (w : World) (b : Nat) (F : Nat → Prop) (L M : List Int) (r d : Int) (A : Option Addr) (m c : Nat) (h : ckP 44 b L r w F) (hM : Src w A 1 m (ints M)) (hap : 0 < m → ∀ ad, A = some ad → ¬ F ad.block) (hL : InR L) (hr0 : 0 ≤ r) (hr1 : r ≤ 1099511627776) (hm : m ≤ 9223372036854775807) (hd : d ≤ 9223372036854775807) :
    Calls Try.prog 14 #[.pointer (some ⟨b, 0, none⟩), .int .i64 d, .slice A m c] w (GoPost w F 44 b L M r d) := by
  have hu := Try.underlying44
  have hlen := ints_len hM
  have SM := Lib.hid (ck_same h)
  have CP := Lib.hid hap
  have SR := Lib.hid hM
  obtain ⟨v, hb, hr, hF⟩ := h
  obtain ⟨A0, c0, rfl, _, _⟩ := hr.form
  have hc0 := hb.cell 0
  have hc1 := hb.cell 1
  have hf1 := hb.free 1
  have B := Lib.hid hb
  have R := Lib.hid hr
  have FF := Lib.hid hF
  have IR := Lib.hid hL
  have w1 : IntKind.i64.wrap (1099511627776 - r) = 1099511627776 - r := by rw [IntKind.wrap_i64]; omega
  clear hb hr hF hM hap hL
  by_cases h2 : d < 0
  · obtain ⟨e1, e2, e3⟩ := goE_arg (L := L) (M := M) (r := r) (.inl h2)
    have E1 := Lib.hid e1
    have E2 := Lib.hid e2
    have E3 := Lib.hid e3
    clear e1 e2 e3
    go_enter Try.func14, Try.ntmps14
    go_wp2_with fail
    go_ret
    exact ⟨by rw [E1.out]; rfl, by rw [E2.out, E3.out]; exact SM.out⟩
  · have g1 : decide (d < 0) = false := decide_eq_false h2
    by_cases h3 : M.length = L.length
    · have LM := Lib.hid (show L.length = m by omega)
      have LN := Lib.hid hlen
      rw [show L.length = m by omega] at R B FF hc0 hc1
      have g2 : ((m : Int) != (m : Int)) = false := by simp
      clear h3 hlen
      go_enter Try.func14, Try.ntmps14
      go_wp2_with fail
      go_loopw [7] (fun v wr => wr = w ∧ ∃ k : Nat, k ≤ m ∧ v = .int .i64 k ∧ ∀ j y, j < k → M[j]? = some y → ¬ y < 0) (fun v _ => m - (intOf v).toNat)
      case atStart => exact ⟨by trivial, 0, by omega, by simp, fun j y hj => by omega⟩
      case round =>
        obtain ⟨rfl, k, hk, rfl, hne⟩ := hrel
        have NE := Lib.hid hne
        clear hne
        by_cases hlt : k < m
        · obtain ⟨ad, y, rfl, hy, hcy⟩ := i_at SR.out hlt
          have HY := Lib.hid hy
          clear hy
          by_cases h6 : y < 0
          · obtain ⟨e1, e2, e3⟩ := goE_arg (L := L) (M := M) (r := r) (d := d) (.inr (.inr ⟨y, List.mem_of_getElem? HY.out, h6⟩))
            have E1 := Lib.hid e1
            have E2 := Lib.hid e2
            have E3 := Lib.hid e3
            clear e1 e2 e3
            go_wp2_with fail
            go_ret
            exact ⟨by rw [E1.out]; rfl, by rw [E2.out, E3.out]; exact SM.out⟩
          · have g6 : decide (y < 0) = false := decide_eq_false h6
            have H6 := Lib.hid h6
            clear h6
            go_wp2_with fail
            go_roundw
            case rel => exact ⟨by trivial, k + 1, by omega, by go_num, fun j z hj hz => by
              by_cases h : j < k
              · exact NE.out j z h hz
              · obtain rfl : j = k := by omega
                rw [HY.out] at hz
                injection hz with hz
                subst hz
                exact H6.out⟩
            case measure => simp [intOf]; omega
        · obtain rfl : k = m := by omega
          have N0 := Lib.hid (show ¬ (d < 0 ∨ M.length ≠ L.length ∨ (∃ x ∈ M, x < 0)) by
            rintro (h | h | ⟨x, hx, h⟩)
            · omega
            · exact h (LN.out.trans LM.out.symm)
            · obtain ⟨i, hi, e⟩ := List.mem_iff_getElem.1 hx
              exact NE.out i x (by have := LN.out; omega) (by rw [List.getElem?_eq_getElem hi, e]) h)
          have F0 := Lib.hid (farB_0 L M r d)
          go_wp2_with fail
          go_loopw [8, 9] (fun f v wr2 => (∃ q, wr2 = wr.drewN q) ∧ ∃ j : Nat, j ≤ k ∧ v = .int .i64 j ∧ f = .bool (farB L M r d j)) (fun f v _ => k - (intOf v).toNat)
          case atStart => exact ⟨⟨0, rfl⟩, 0, by omega, by simp, by rw [F0.out]⟩
          case round =>
            obtain ⟨⟨q, rfl⟩, j, hj, rfl, rfl⟩ := hrel
            by_cases hjk : j < k
            · obtain ⟨ad, y, rfl, hy, hcy⟩ := i_at SR.out hjk
              obtain ⟨ad0, x, rfl, hx, hcx⟩ := i_at R.out.src hjk
              have hxr := IR.out j x hx
              have wx : IntKind.i64.wrap (1099511627776 - x) = 1099511627776 - x := by rw [IntKind.wrap_i64]; omega
              have FN := Lib.hid (farB_next L M r d j)
              have HX := Lib.hid (getD_of hx)
              have HY := Lib.hid (getD_of hy)
              clear hx hy
              cases hf : farB L M r d j with
              | true =>
                have FT := Lib.hid hf
                clear hf
                go_wp2_with fail
                go_quiet (fail)
                go_wp2_with fail
                go_roundw
                case rel => exact ⟨⟨_, rfl⟩, j + 1, by omega, by go_num, by rw [FN.out, FT.out]; rfl⟩
                case measure => simp [intOf]; omega
              | false =>
                have FT := Lib.hid hf
                clear hf
                go_wp2_with fail
                go_quiet (fail)
                go_wp2_with fail
                go_roundw
                case rel => exact ⟨⟨_, rfl⟩, j + 1, by omega, by go_num, by rw [FN.out, FT.out, HX.out, HY.out]; rfl⟩
                case measure => simp [intOf]; omega
            · obtain rfl : j = k := by omega
              cases hf : farB L M r d j with
              | true =>
                have hfar : 1099511627776 - r < d ∨ FarOut L M := by
                  unfold farB at hf
                  rcases of_decide_eq_true hf with h | ⟨i, hi, h⟩
                  · exact .inl h
                  · exact .inr ⟨i, by rw [LN.out]; exact hi, h⟩
                obtain ⟨e1, e2, e3⟩ := goE_far (r := r) N0.out hfar
                have E1 := Lib.hid e1
                have E2 := Lib.hid e2
                have E3 := Lib.hid e3
                have HW := Lib.hid (show Step wr F (ckP 44 b L r) (wr.drewN q) by
                  obtain ⟨F', h1, h2, h3⟩ := SM.out
                  exact ⟨F', (ckP_stable _ _ _ _).keep h1 ((Keep.same Nothing _).drewN q) (fun _ _ h => h), h2.drewN q, h3⟩)
                clear e1 e2 e3 hfar hf
                go_wp2_with fail
                go_ret
                exact ⟨by rw [E1.out]; rfl, by rw [E2.out, E3.out]; exact HW.out⟩
              | false =>
                have hfar : ¬ (1099511627776 - r < d ∨ FarOut L M) := by
                  unfold farB at hf
                  have := of_decide_eq_false hf
                  rintro (h | ⟨i, hi, h⟩)
                  · exact this (.inl h)
                  · exact this (.inr ⟨i, by rw [LN.out] at hi; exact hi, h⟩)
                obtain ⟨e1, e2, e3⟩ := goE_ok (r := r) N0.out hfar
                have E1 := Lib.hid e1
                have E2 := Lib.hid e2
                have E3 := Lib.hid e3
                have NF := Lib.hid hfar
                have hrd : d ≤ 1099511627776 - r := Int.not_lt.1 (fun h => hfar (.inl h))
                have w9 : IntKind.i64.wrap (r + d) = r + d := by rw [IntKind.wrap_i64]; omega
                have BQ := Lib.hid (B.out.drewN q)
                have RQ := Lib.hid (R.out.drewN q)
                have KQ := Lib.hid ((Keep.same F wr).drewN q)
                clear e1 e2 e3 hfar hf hc0 hc1 hf1
                have SR1 := Lib.hid (show Src (wr.drewN q) A 1 j (ints M) from SR.out)
                generalize wr.drewN q = wq at *
                have hc0 := BQ.out.cell 0
                have hc1 := BQ.out.cell 1
                have hf1 := BQ.out.free 1
                have B1 := Lib.hid (BQ.out.put 1 (.int .i64 (r + d)))
                have hne0 := RQ.out.apart BQ.out (by decide)
                have R1 := Lib.hid (RQ.out.keep ((Keep.same (fun i => i = b) wq).set (p := ⟨b, 1, none⟩) (.inl rfl) (.int .i64 (r + d))) (fun g hg e => hne0 (by rw [hg, e])))
                have K1 := Lib.hid (KQ.out.set (p := ⟨b, 1, none⟩) (.inl ((FF.out b).2 (.inl rfl))) (.int .i64 (r + d)))
                have B1' := Lib.hid (show Blk (wq.setCell ⟨b, 1, none⟩ (.int .i64 (r + d))) b 44 #[.slice A0 j c0, .int .i64 (r + d)] by simpa using B1.out)
                go_wp2_with fail
                go_loopw [10] (fun v wr2 => ∃ i : Nat, i ≤ j ∧ v = .int .i64 i ∧ Blk wr2 b 44 #[.slice A0 j c0, .int .i64 (r + d)] ∧ Row wr2 3 1 (.slice A0 j c0) j (ints (addK L M i)) ∧ Keep F wr wr2) (fun v _ => j - (intOf v).toNat)
                case atStart => exact ⟨0, by omega, by simp, B1'.out, R1.out, K1.out⟩
                case round =>
                  obtain ⟨i, hi, rfl, hb2, hr2, hk2⟩ := hrel
                  have B2 := Lib.hid hb2
                  have R2 := Lib.hid hr2
                  have K2 := Lib.hid hk2
                  have d0 := hb2.cell 0
                  clear hb2 hr2 hk2 hc0 hc1
                  by_cases hjk : i < j
                  · obtain ⟨ad, y, rfl, hy, hcy⟩ := i_at SR.out hjk
                    have hcy2 := K2.out.cell hcy (by rw [addBlock]; exact CP.out (by omega) _ rfl)
                    obtain ⟨ad0, x, rfl, hx, hcx⟩ := i_at R2.out.src hjk
                    rw [addK_ge L M i i (Nat.le_refl _)] at hx
                    have hxr := IR.out i x hx
                    have hy0 : 0 ≤ y := Int.not_lt.1 (fun h => N0.out (.inr (.inr ⟨y, List.mem_of_getElem? hy, h⟩)))
                    have hyr : y ≤ 1099511627776 - x := Int.not_lt.1 (fun h => NF.out (.inr ⟨i, by rw [LN.out]; exact hjk, by rw [getD_of hx, getD_of hy]; exact h⟩))
                    have wxy : IntKind.i64.wrap (x + y) = x + y := by rw [IntKind.wrap_i64]; omega
                    obtain ⟨hfz, hown, hrs⟩ := row_set R2.out.drew hjk (x + y)
                    have ES := Lib.hid (show (addK L M i).set i (x + y) = addK L M (i + 1) by rw [addK, getD_of hx, getD_of hy])
                    rw [ES.out] at hrs
                    have hbb : b ≠ (ad0.add i).block := fun e => R2.out.apart B2.out (by decide) (by rw [hown, ← e])
                    have B3 := Lib.hid (B2.out.drew.far hbb (.int .i64 (x + y)))
                    have R3 := Lib.hid hrs
                    have K3 := Lib.hid (K2.out.drew.set (p := ad0.add i) (.inl ((FF.out _).2 (.inr hown))) (.int .i64 (x + y)))
                    clear hx hy hcy hown hrs hbb
                    go_wp2_with fail
                    refine region_tail 13 (by kernel_rfl) (by kernel_rfl) ?_
                    simp only [List.take_succ_cons, List.take_zero, List.drop_succ_cons, List.drop_zero]
                    repeat still_step
                    refine wpStill_nil ?_
                    go_wp2_with fail
                    go_roundw
                    case rel => exact ⟨i + 1, by omega, by go_num, B3.out, R3.out, K3.out⟩
                    case measure => simp [intOf]; omega
                  · obtain rfl : i = j := by omega
                    go_wp2_with fail
                    go_ret
                    refine ⟨by rw [E1.out]; rfl, ?_⟩
                    rw [E2.out, E3.out, LN.out]
                    have hl : (addK L M i).length = i := by rw [addK_len]; exact LM.out
                    exact ⟨F, ⟨_, B2.out, by rw [hl]; exact R2.out, FF.out⟩, K2.out, fun k hk => .inl hk⟩
    · obtain ⟨e1, e2, e3⟩ := goE_arg (L := L) (M := M) (r := r) (d := d) (.inr (.inl h3))
      have E1 := Lib.hid e1
      have E2 := Lib.hid e2
      have E3 := Lib.hid e3
      have g2 : ((m : Int) != (L.length : Int)) = true := by simp; omega
      clear e1 e2 e3
      go_enter Try.func14, Try.ntmps14
      go_wp2_with fail
      go_ret
      exact ⟨by rw [E1.out]; rfl, by rw [E2.out, E3.out]; exact SM.out⟩
end Go.Proofs.Ytdipjjngemgldaa.A
