/-
  The learner's Jump, Since; the reference's.
-/
import Derived.Test.YtcbjmmjjohigmaaK
namespace Go.Proofs.Ytcbjmmjjohigmaa.A
open Go.RowKit Go.Proofs.Ytcbjmmjjohigmaa.U
set_option linter.unusedVariables false
set_option linter.unusedSimpArgs false
set_option maxRecDepth 100000

def jmL (L : List Ent) (a s : Int) : List Ent := if s ≤ a then L else keepO L s
def jmR (L : List Ent) (a s : Int) : Int × List Ent := if s ≤ a then (a, []) else fol (keepO L s) s
theorem jm_yes {L : List Ent} {a s : Int} (h : s ≤ a) : jmL L a s = L ∧ jmR L a s = (a, []) := ⟨if_pos h, if_pos h⟩
theorem jm_no {L : List Ent} {a s : Int} (h : ¬ s ≤ a) : jmL L a s = keepO L s ∧ jmR L a s = fol (keepO L s) s := ⟨if_neg h, if_neg h⟩
theorem keepO_le (L : List Ent) (s : Int) : (keepO L s).length ≤ L.length := List.length_filter_le _ _
theorem ln_at {w : World} {F : Nat → Prop} {t b : Nat} {a a2 : Int} {L : List Ent} (h : lnP t b a L w F) (ht : 30 ≠ t) :
    w.frozen? ⟨b, 0, none⟩ = false ∧ Step w F (lnP t b a2 L) (w.setCell ⟨b, 0, none⟩ (.int .i64 a2)) := by
  obtain ⟨v, hb, hr, hF⟩ := h
  exact ⟨hb.free 0, F, ⟨v, hb.put 0 _, hr.far (p := ⟨b, 0, none⟩) (hr.apart hb ht) _, hF⟩, (Keep.same F w).set (.inl ((hF b).2 (.inl rfl))) _, fun k hk => .inl hk⟩
set_option maxHeartbeats 3200000 in
theorem jump_calls (w : World) (b : Nat) (F : Nat → Prop) (a : Int) (L : List Ent) (s : Int) (h : lnP 51 b a L w F) (hs0 : -9223372036854775808 ≤ s) (hs1 : s ≤ 9223372036854775807) (hL : L.length ≤ 900000) :
    Calls Try.prog 14 #[.pointer (some ⟨b, 0, none⟩), .int .i64 s] w (Gives w F (lnP 51 b (jmR L a s).1 (jmL L a s)) (jmR L a s).2) := by
  have hu := Try.underlying51
  have S0 := Lib.hid (Step.self h)
  obtain ⟨hfz, hst⟩ := ln_at (a2 := s) h (by decide)
  obtain ⟨v, hb, hr, hF⟩ := h
  have c0 := hb.cell 0
  clear hb hr hF
  by_cases hsa : s ≤ a
  · have g1 : decide (s ≤ a) = true := decide_eq_true hsa
    obtain ⟨e1, e2⟩ := jm_yes (L := L) hsa
    have E1 := Lib.hid e1
    have E2 := Lib.hid e2
    clear e1 e2 hst
    go_enter Try.func14, Try.ntmps14
    go_wp2_with fail
    go_ret
    rw [E1.out, E2.out]
    exact gives_nil S0.out
  · have g1 : decide (s ≤ a) = false := decide_eq_false hsa
    obtain ⟨e1, e2⟩ := jm_no (L := L) hsa
    have E1 := Lib.hid e1
    have E2 := Lib.hid e2
    obtain ⟨F1, h1, k1, n1⟩ := hst
    have DC := Lib.hid (drop_calls _ b F1 s L h1 s)
    have K1 := Lib.hid k1
    have N1 := Lib.hid n1
    clear e1 e2 h1 k1 n1
    go_enter Try.func14, Try.ntmps14
    go_wp2_with fail
    refine DC.out.mono ?_
    rintro e w2 ⟨rfl, hst⟩
    obtain ⟨F2, h2, k2, n2⟩ := Step.after K1.out N1.out hst
    have FL := Lib.hid (follow_calls _ b F2 s (keepO L s) h2 hs0 hs1 (by have := keepO_le L s; omega))
    have K2 := Lib.hid k2
    have N2 := Lib.hid n2
    clear hst h2 k2 n2
    go_wp2_with fail
    refine FL.out.mono ?_
    rintro e w3 hgv
    have GV := Lib.hid hgv
    obtain ⟨v3, rfl, _⟩ := hgv
    go_wp2_with fail
    go_ret
    rw [E1.out, E2.out]
    exact gives_after K2.out N2.out GV.out
set_option maxHeartbeats 3200000 in
theorem rjump_calls (w : World) (b : Nat) (F : Nat → Prop) (a : Int) (L : List Ent) (s : Int) (h : lnP 47 b a L w F) (hs0 : -9223372036854775808 ≤ s) (hs1 : s ≤ 9223372036854775807) (hL : L.length ≤ 900000) :
    Calls Try.prog 15 #[.pointer (some ⟨b, 0, none⟩), .int .i64 s] w (Gives w F (lnP 47 b (jmR L a s).1 (jmL L a s)) (jmR L a s).2) := by
  have hu := Try.underlying47
  have S0 := Lib.hid (Step.self h)
  obtain ⟨hfz, hst⟩ := ln_at (a2 := s) h (by decide)
  obtain ⟨v, hb, hr, hF⟩ := h
  have c0 := hb.cell 0
  clear hb hr hF
  by_cases hsa : s ≤ a
  · have g1 : decide (s ≤ a) = true := decide_eq_true hsa
    obtain ⟨e1, e2⟩ := jm_yes (L := L) hsa
    have E1 := Lib.hid e1
    have E2 := Lib.hid e2
    clear e1 e2 hst
    go_enter Try.func15, Try.ntmps15
    go_wp2_with fail
    go_ret
    rw [E1.out, E2.out]
    exact gives_nil S0.out
  · have g1 : decide (s ≤ a) = false := decide_eq_false hsa
    obtain ⟨e1, e2⟩ := jm_no (L := L) hsa
    have E1 := Lib.hid e1
    have E2 := Lib.hid e2
    obtain ⟨F1, h1, k1, n1⟩ := hst
    have DC := Lib.hid (rdrop_calls _ b F1 s L h1 s (by omega))
    have K1 := Lib.hid k1
    have N1 := Lib.hid n1
    clear e1 e2 h1 k1 n1
    go_enter Try.func15, Try.ntmps15
    go_wp2_with fail
    refine DC.out.mono ?_
    rintro e w2 ⟨rfl, hst⟩
    obtain ⟨F2, h2, k2, n2⟩ := Step.after K1.out N1.out hst
    have FL := Lib.hid (rfollow_calls _ b F2 s (keepO L s) h2 hs0 hs1 (by have := keepO_le L s; omega))
    have K2 := Lib.hid k2
    have N2 := Lib.hid n2
    clear hst h2 k2 n2
    go_wp2_with fail
    refine FL.out.mono ?_
    rintro e w3 hgv
    have GV := Lib.hid hgv
    obtain ⟨v3, rfl, _⟩ := hgv
    go_wp2_with fail
    go_ret
    rw [E1.out, E2.out]
    exact gives_after K2.out N2.out GV.out
/-! ### Since -/
def sinL (L : List Ent) (a m : Int) : Nat → Int → Nat → List Ent
  | 0, _, _ => []
  | f + 1, s, n => if (n : Int) < m ∧ s ≤ a then (match findV L s with | none => [] | some x => x :: (if s = a then [] else sinL L a m f (s + 1) (n + 1))) else []
def sinceV (L : List Ent) (a s m : Int) : List Ent := sinL L a m (a - s + 1).toNat s 0
theorem sin_out {L : List Ent} {a m s : Int} {n f : Nat} (h : ¬ ((n : Int) < m ∧ s ≤ a)) : sinL L a m f s n = [] := by
  cases f with
  | zero => rfl
  | succ f => rw [sinL, if_neg h]
theorem sin_none {L : List Ent} {a m s : Int} {n f : Nat} (h : findV L s = none) : sinL L a m f s n = [] := by
  cases f with
  | zero => rfl
  | succ f => rw [sinL]; split <;> simp [h]
theorem sin_end {L : List Ent} {a m : Int} {n : Nat} {x : Ent} (h : findV L a = some x) (hm : (n : Int) < m) : sinL L a m (a - a + 1).toNat a n = [x] := by
  rw [show (a - a + 1).toNat = 0 + 1 by omega, sinL, if_pos ⟨hm, by omega⟩, h]
  simp
theorem sin_go {L : List Ent} {a m s : Int} {n : Nat} {x : Ent} (h : findV L s = some x) (hm : (n : Int) < m) (hs : s < a) : sinL L a m (a - s + 1).toNat s n = x :: sinL L a m (a - (s + 1) + 1).toNat (s + 1) (n + 1) := by
  rw [show (a - s + 1).toNat = (a - (s + 1) + 1).toNat + 1 by omega, sinL, if_pos ⟨hm, by omega⟩, h]
  simp only [if_neg (show ¬ s = a by omega)]
theorem cnt_at {L : List Ent} {s : Int} {x : Ent} (h : findV L s = some x) : cnt L s < cnt L (s - 1) := by
  have := cnt_step (L := L) (at_ := s - 1) (x := x) (by rw [show s - 1 + 1 = s by omega]; exact h)
  rwa [show s - 1 + 1 = s by omega] at this
set_option maxHeartbeats 12800000 in
theorem since_calls (w : World) (b : Nat) (F : Nat → Prop) (a : Int) (L : List Ent) (s m : Int) (h : lnP 51 b a L w F) (hs0 : -9223372036854775808 ≤ s) (ha1 : a ≤ 9223372036854775807) (hL : L.length ≤ 900000) :
    Calls Try.prog 16 #[.pointer (some ⟨b, 0, none⟩), .int .i64 s, .int .i64 m] w (Gives w F (lnP 51 b a L) (sinceV L a s m)) := by
  have hu := Try.underlying51
  have hu2 := Try.underlying30
  have hu3 := Try.underlying25
  have S0 := Lib.hid (Step.nil_row 30 7 (Step.self h))
  have LS := Lib.hid (lnP_stable 51 b a L)
  have RS := Lib.hid rowP_stable
  have HC := Lib.hid (cnt_le L (s - 1))
  clear h
  go_enter Try.func16, Try.ntmps16
  go_wp2_with fail
  go_loopw [1, 7] (fun vs v wr => ∃ (s' : Int) (out : List Ent), vs = .int .i64 s' ∧ -9223372036854775808 ≤ s' ∧ (sinceV L a s m = out ++ sinL L a m (a - s' + 1).toNat s' out.length) ∧ out.length + cnt L (s' - 1) ≤ cnt L (s - 1) ∧ Step w F (star (rowP 30 7 v out.length (ents out)) (lnP 51 b a L)) wr) (fun vs v _ => (a + 1 - intOf vs).toNat)
  case atStart => exact ⟨s, [], rfl, by omega, by simp [sinceV], by simp, S0.out⟩
  case round =>
    obtain ⟨s', out, rfl, hlo, hf, hc, hs⟩ := hrel
    have FE := Lib.hid hf
    have CC := Lib.hid hc
    have ST := Lib.hid hs
    obtain ⟨F1, v1, hb1, hr1, hF1⟩ := hs.swap.get_left
    have LN := Lib.hid (show lnP 51 b a L wr F1 from ⟨v1, hb1, hr1, hF1⟩)
    have c0 := hb1.cell 0
    obtain ⟨_, hrow, _⟩ := hs.get_left
    obtain ⟨A3, c3, rfl, _, _⟩ := hrow.form
    have RW := Lib.hid hrow
    clear hf hc hs hb1 hr1 hF1 hrow
    by_cases hmx : (out.length : Int) < m ∧ s' ≤ a
    · obtain ⟨hm1, hm2⟩ := hmx
      have g1 : decide ((out.length : Int) < m) = true := decide_eq_true hm1
      have g2 : decide (s' ≤ a) = true := decide_eq_true hm2
      have KN := Lib.hid (known_calls wr b F1 a L LN.out s')
      cases hv : findV L s' with
      | none =>
        rw [hv] at KN
        have E1 := Lib.hid (sin_none (a := a) (m := m) (n := out.length) (f := (a - s' + 1).toNat) hv)
        clear hv
        go_wp2_with fail
        refine KN.out.mono ?_
        rintro e w2 ⟨rfl, hk⟩
        have S2 := Lib.hid (ST.out.kept ((RS.out _ _ _ _ _).star LS.out) (hk.alloc (.cells zes 30)))
        clear hk
        go_wp2_with fail
        go_ret
        exact ⟨_, rfl, by rw [FE.out, E1.out, List.append_nil]; exact S2.out⟩
      | some x =>
        rw [hv] at KN
        replace KN : Hid (Calls Try.prog 22 #[.pointer (some ⟨b, 0, none⟩), .int .i64 s'] wr (fun e w' => e = .returned (.tuple #[x.val, .bool true]) ∧ Keep Nothing wr w')) := KN
        have HV := Lib.hid (cnt_at hv)
        have FV := Lib.hid hv
        clear hv
        have hc4 := CC.out
        have hcv := HV.out
        have hlc := HC.out
        have hb1 : out.length + 1 ≤ maxLen := by unfold maxLen; omega
        have hb2 : (out.length + 1) * 64 ≤ 140737488355328 := by omega
        by_cases hsa : s' = a
        · have hsa2 := hsa.symm
          subst hsa2
          have E1 := Lib.hid (sin_end FV.out hm1)
          have g3 : (a == a) = true := by simp
          go_wp2_with fail
          refine KN.out.mono ?_
          rintro e w2 ⟨rfl, hk⟩
          have S2 := Lib.hid (ST.out.kept ((RS.out _ _ _ _ _).star LS.out) (hk.alloc (.cells x.cs 30)))
          obtain ⟨_, hrow3, _⟩ := S2.out.get_left
          have R3 := Lib.hid (hrow3.alloc (.cells x.cs 30))
          have S4 := Lib.hid (S2.out.kept ((RS.out _ _ _ _ _).star LS.out) ((Keep.same Nothing _).alloc (.cells x.cs 30)))
          clear hk hrow3 c0
          go_wp2_with (at_builtin; refine wpList_app _ rfl EE (.tmp 32) (.tmp 34) rfl R3.out (Src.fresh _ x.cs 30 7 1 rfl) 1 rfl (by simp [Act.eval]) (by simp [Value.oneCell']) hb1 hb2 ?_)
          intro v' w' hr hg hloc
          have S5 := Lib.hid (show Step w F (star (rowP 30 7 v' (out ++ [x]).length (ents (out ++ [x]))) (lnP 51 b a L)) w' by
            rw [ents_app, ents_one1, List.length_append]
            exact S4.out.grew LS.out hr hg (by simpa using hloc))
          clear hr hg hloc
          obtain ⟨F5, v5, hb5, _⟩ := S5.out.swap.get_left
          have c0 := hb5.cell 0
          clear hb5
          go_wp2_with fail
          go_ret
          exact ⟨_, rfl, by rw [FE.out, E1.out]; exact S5.out⟩
        · have E1 := Lib.hid (sin_go (a := a) FV.out hm1 (by omega))
          have g3 : (s' == a) = false := by rw [beq_eq_false_iff_ne]; exact hsa
          have w1 : IntKind.i64.wrap (s' + 1) = s' + 1 := by rw [IntKind.wrap_i64]; omega
          go_wp2_with fail
          refine KN.out.mono ?_
          rintro e w2 ⟨rfl, hk⟩
          have S2 := Lib.hid (ST.out.kept ((RS.out _ _ _ _ _).star LS.out) (hk.alloc (.cells x.cs 30)))
          obtain ⟨_, hrow3, _⟩ := S2.out.get_left
          have R3 := Lib.hid (hrow3.alloc (.cells x.cs 30))
          have S4 := Lib.hid (S2.out.kept ((RS.out _ _ _ _ _).star LS.out) ((Keep.same Nothing _).alloc (.cells x.cs 30)))
          clear hk hrow3 c0
          go_wp2_with (at_builtin; refine wpList_app _ rfl EE (.tmp 32) (.tmp 34) rfl R3.out (Src.fresh _ x.cs 30 7 1 rfl) 1 rfl (by simp [Act.eval]) (by simp [Value.oneCell']) hb1 hb2 ?_)
          intro v' w' hr hg hloc
          have S5 := Lib.hid (show Step w F (star (rowP 30 7 v' (out ++ [x]).length (ents (out ++ [x]))) (lnP 51 b a L)) w' by
            rw [ents_app, ents_one1, List.length_append]
            exact S4.out.grew LS.out hr hg (by simpa using hloc))
          clear hr hg hloc
          obtain ⟨F5, v5, hb5, _⟩ := S5.out.swap.get_left
          have c0 := hb5.cell 0
          clear hb5
          go_wp2_with fail
          go_roundw
          case rel => exact ⟨s' + 1, out ++ [x], by simp, by omega, by rw [FE.out, E1.out, List.length_append]; simp, by rw [List.length_append, show s' + 1 - 1 = s' by omega]; simp only [List.length_cons, List.length_nil]; omega, S5.out⟩
          case measure => simp [intOf]; omega
    · have E1 := Lib.hid (sin_out (L := L) (f := (a - s' + 1).toNat) hmx)
      by_cases hm1 : (out.length : Int) < m
      · have g1 : decide ((out.length : Int) < m) = true := decide_eq_true hm1
        have g2 : decide (s' ≤ a) = false := decide_eq_false (fun h => hmx ⟨hm1, h⟩)
        clear hmx
        go_wp2_with fail
        go_ret
        exact ⟨_, rfl, by rw [FE.out, E1.out, List.append_nil]; exact ST.out⟩
      · have g1 : decide ((out.length : Int) < m) = false := decide_eq_false hm1
        clear hmx
        go_wp2_with fail
        go_ret
        exact ⟨_, rfl, by rw [FE.out, E1.out, List.append_nil]; exact ST.out⟩
end Go.Proofs.Ytcbjmmjjohigmaa.A
