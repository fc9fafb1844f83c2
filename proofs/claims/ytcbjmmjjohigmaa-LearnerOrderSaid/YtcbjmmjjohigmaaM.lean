/-
  The reference's Since.
-/
import Derived.Test.YtcbjmmjjohigmaaI
namespace Go.Proofs.Ytcbjmmjjohigmaa.A
open Go.RowKit Go.Proofs.Ytcbjmmjjohigmaa.U
set_option linter.unusedVariables false
set_option linter.unusedSimpArgs false
set_option maxRecDepth 100000

set_option maxHeartbeats 12800000 in
theorem rsince_calls (w : World) (b : Nat) (F : Nat → Prop) (a : Int) (L : List Ent) (s m : Int) (h : lnP 47 b a L w F) (hs0 : -9223372036854775808 ≤ s) (ha1 : a ≤ 9223372036854775807) (hL : L.length ≤ 900000) :
    Calls Try.prog 17 #[.pointer (some ⟨b, 0, none⟩), .int .i64 s, .int .i64 m] w (Gives w F (lnP 47 b a L) (sinceV L a s m)) := by
  have hu := Try.underlying47
  have hu2 := Try.underlying30
  have hu3 := Try.underlying25
  have S0 := Lib.hid (Step.nil_row 30 7 (Step.self h))
  have LS := Lib.hid (lnP_stable 47 b a L)
  have RS := Lib.hid rowP_stable
  have HC := Lib.hid (cnt_le L (s - 1))
  clear h
  go_enter Try.func17, Try.ntmps17
  go_wp2_with fail
  go_loopw [1, 7] (fun vs v wr => ∃ (s' : Int) (out : List Ent), vs = .int .i64 s' ∧ -9223372036854775808 ≤ s' ∧ (sinceV L a s m = out ++ sinL L a m (a - s' + 1).toNat s' out.length) ∧ out.length + cnt L (s' - 1) ≤ cnt L (s - 1) ∧ Step w F (star (rowP 30 7 v out.length (ents out)) (lnP 47 b a L)) wr) (fun vs v _ => (a + 1 - intOf vs).toNat)
  case atStart => exact ⟨s, [], rfl, by omega, by simp [sinceV], by simp, S0.out⟩
  case round =>
    obtain ⟨s', out, rfl, hlo, hf, hc, hs⟩ := hrel
    have FE := Lib.hid hf
    have CC := Lib.hid hc
    have ST := Lib.hid hs
    obtain ⟨F1, v1, hb1, hr1, hF1⟩ := hs.swap.get_left
    have LN := Lib.hid (show lnP 47 b a L wr F1 from ⟨v1, hb1, hr1, hF1⟩)
    have c0 := hb1.cell 0
    obtain ⟨_, hrow, _⟩ := hs.get_left
    obtain ⟨A3, c3, rfl, _, _⟩ := hrow.form
    have RW := Lib.hid hrow
    clear hf hc hs hb1 hr1 hF1 hrow
    by_cases hmx : (out.length : Int) < m ∧ s' ≤ a
    · obtain ⟨hm1, hm2⟩ := hmx
      have g1 : decide ((out.length : Int) < m) = true := decide_eq_true hm1
      have g2 : decide (s' ≤ a) = true := decide_eq_true hm2
      have KN := Lib.hid (rfind_calls wr b F1 a L LN.out s')
      go_wp2_with fail
      refine KN.out.mono ?_
      rintro e w2 ⟨i, rfl, hi, rfl⟩
      rcases hi with ⟨rfl, hn⟩ | ⟨k, x, rfl, hx, hs⟩
      · have E1 := Lib.hid (sin_none (a := a) (m := m) (n := out.length) (f := (a - s' + 1).toNat) hn)
        clear hn
        go_wp2_with fail
        go_ret
        exact ⟨_, rfl, by rw [FE.out, E1.out, List.append_nil]; exact ST.out⟩
      · have HV := Lib.hid (cnt_at hs)
        have FV := Lib.hid hs
        have hkl : k < L.length := (List.getElem?_eq_some_iff.1 hx).1
        have HX := Lib.hid hx
        clear hs hx
        have hc4 := CC.out
        have hcv := HV.out
        have hlc := HC.out
        have hb1 : out.length + 1 ≤ maxLen := by unfold maxLen; omega
        have hb2 : (out.length + 1) * 64 ≤ 140737488355328 := by omega
        by_cases hsa : s' = a
        · have hsa2 := hsa.symm
          subst hsa2
          have E1 := Lib.hid (sin_end FV.out hm1)
          have g3 : (a == a) = true := by simp
          obtain ⟨_, hrow3, _⟩ := ST.out.get_left
          obtain ⟨F6, v6, hb6, hr6, hF6⟩ := ST.out.swap.get_left
          obtain ⟨A6, c6, rfl, _, _⟩ := hr6.form
          obtain ⟨ad, y, rfl, hy, he⟩ := ent_at hr6.src hkl
          obtain rfl : x = y := by rw [HX.out] at hy; injection hy
          obtain ⟨d0, d1, d2, d3, d4, d5, d6⟩ := he
          have e1 := hb6.cell 1
          have R3 := Lib.hid (hrow3.alloc (.cells x.cs 30))
          have S4 := Lib.hid (ST.out.kept ((RS.out _ _ _ _ _).star LS.out) ((Keep.same Nothing _).alloc (.cells x.cs 30)))
          clear hrow3 hb6 hr6 hF6 hy
          go_wp2_with (at_builtin; refine wpList_app _ rfl EE (.tmp 26) (.tmp 34) rfl R3.out (Src.fresh _ x.cs 30 7 1 rfl) 1 rfl (by simp [Act.eval]) (by simp [Value.oneCell']) hb1 hb2 ?_)
          intro v' w' hr hg hloc
          have S5 := Lib.hid (show Step w F (star (rowP 30 7 v' (out ++ [x]).length (ents (out ++ [x]))) (lnP 47 b a L)) w' by
            rw [ents_app, ents_one1, List.length_append]
            exact S4.out.grew LS.out hr hg (by simpa using hloc))
          clear hr hg hloc c0 e1 d0 d1 d2 d3 d4 d5 d6
          obtain ⟨F5, v5, hb5, _⟩ := S5.out.swap.get_left
          have c0 := hb5.cell 0
          clear hb5
          go_wp2_with fail
          go_ret
          exact ⟨_, rfl, by rw [FE.out, E1.out]; exact S5.out⟩
        · have E1 := Lib.hid (sin_go (a := a) FV.out hm1 (by omega))
          have g3 : (s' == a) = false := by rw [beq_eq_false_iff_ne]; exact hsa
          have w1 : IntKind.i64.wrap (s' + 1) = s' + 1 := by rw [IntKind.wrap_i64]; omega
          obtain ⟨_, hrow3, _⟩ := ST.out.get_left
          obtain ⟨F6, v6, hb6, hr6, hF6⟩ := ST.out.swap.get_left
          obtain ⟨A6, c6, rfl, _, _⟩ := hr6.form
          obtain ⟨ad, y, rfl, hy, he⟩ := ent_at hr6.src hkl
          obtain rfl : x = y := by rw [HX.out] at hy; injection hy
          obtain ⟨d0, d1, d2, d3, d4, d5, d6⟩ := he
          have e1 := hb6.cell 1
          have R3 := Lib.hid (hrow3.alloc (.cells x.cs 30))
          have S4 := Lib.hid (ST.out.kept ((RS.out _ _ _ _ _).star LS.out) ((Keep.same Nothing _).alloc (.cells x.cs 30)))
          clear hrow3 hb6 hr6 hF6 hy
          go_wp2_with (at_builtin; refine wpList_app _ rfl EE (.tmp 26) (.tmp 34) rfl R3.out (Src.fresh _ x.cs 30 7 1 rfl) 1 rfl (by simp [Act.eval]) (by simp [Value.oneCell']) hb1 hb2 ?_)
          intro v' w' hr hg hloc
          have S5 := Lib.hid (show Step w F (star (rowP 30 7 v' (out ++ [x]).length (ents (out ++ [x]))) (lnP 47 b a L)) w' by
            rw [ents_app, ents_one1, List.length_append]
            exact S4.out.grew LS.out hr hg (by simpa using hloc))
          clear hr hg hloc c0 e1 d0 d1 d2 d3 d4 d5 d6
          obtain ⟨F5, v5, hb5, _⟩ := S5.out.swap.get_left
          have c0 := hb5.cell 0
          clear hb5
          go_wp2_with fail
          go_roundw
          case rel => exact ⟨s' + 1, out ++ [x], by simp, by omega, by rw [FE.out, E1.out, List.length_append]; simp, by rw [List.length_append, show s' + 1 - 1 = s' by omega]; simp only [List.length_cons, List.length_nil]; omega, S5.out⟩
          case measure => simp [intOf]; omega
    · have E1 := Lib.hid (sin_out (L := L) (f := (a - s' + 1).toNat) hmx)
      by_cases hm1 : (out.length : Int) < m
      · have g1 : decide ((out.length : Int) < m) = true := decide_eq_true hm1
        have g2 : decide (s' ≤ a) = false := decide_eq_false (fun h => hmx ⟨hm1, h⟩)
        clear hmx
        go_wp2_with fail
        go_ret
        exact ⟨_, rfl, by rw [FE.out, E1.out, List.append_nil]; exact ST.out⟩
      · have g1 : decide ((out.length : Int) < m) = false := decide_eq_false hm1
        clear hmx
        go_wp2_with fail
        go_ret
        exact ⟨_, rfl, by rw [FE.out, E1.out, List.append_nil]; exact ST.out⟩
end Go.Proofs.Ytcbjmmjjohigmaa.A
