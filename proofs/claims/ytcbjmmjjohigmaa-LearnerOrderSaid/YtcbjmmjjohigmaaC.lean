/-
  The learner's follow; the reference's follow; Entries of the same.
-/
import Derived.Test.YtcbjmmjjohigmaaB
namespace Go.Proofs.Ytcbjmmjjohigmaa.A
open Go.RowKit Go.Proofs.Ytcbjmmjjohigmaa.U
set_option linter.unusedVariables false
set_option linter.unusedSimpArgs false
set_option maxRecDepth 100000

theorem ln_set {w w1 : World} {F : Nat → Prop} {Q : SP} {t b : Nat} {a a2 : Int} {L : List Ent} (hQ : Stable Q) (h : Step w F (star Q (lnP t b a L)) w1) (ht : 30 ≠ t) :
    w1.frozen? ⟨b, 0, none⟩ = false ∧ (∃ v, Blk w1 b t #[.int .i64 a, v]) ∧ Step w F (star Q (lnP t b a2 L)) (w1.setCell ⟨b, 0, none⟩ (.int .i64 a2)) := by
  obtain ⟨F', v, hb, hr, hF⟩ := h.swap.get_left
  refine ⟨hb.free 0, ⟨v, hb⟩, Step.swap (h.swap.on_left hQ fun F' ⟨v, hb, hr, hF⟩ => ⟨F', ⟨v, hb.put 0 _, hr.far (p := ⟨b, 0, none⟩) (hr.apart hb ht) _, hF⟩, (Keep.same F' w1).set (.inl ((hF b).2 (.inl rfl))) _, fun k hk => .inl hk⟩)⟩
/-- A call that gives a new row of entries, and makes P' of its thing. -/
def Gives (w : World) (F : Nat → Prop) (P' : SP) (M : List Ent) (e : Ending) (w' : World) : Prop :=
  ∃ v, e = .returned v ∧ Step w F (star (rowP 30 7 v M.length (ents M)) P') w'
set_option maxHeartbeats 6400000 in
theorem follow_calls (w : World) (b : Nat) (F : Nat → Prop) (a : Int) (L : List Ent) (h : lnP 51 b a L w F) (ha0 : -9223372036854775808 ≤ a) (ha1 : a ≤ 9223372036854775807) (hL : L.length ≤ 1000000) :
    Calls Try.prog 23 #[.pointer (some ⟨b, 0, none⟩)] w (Gives w F (lnP 51 b (fol L a).1 L) (fol L a).2) := by
  have hu := Try.underlying51
  have hu2 := Try.underlying30
  have hu3 := Try.underlying25
  have S0 := Lib.hid (Step.nil_row 30 7 (Step.self h))
  have LS := Lib.hid (fun a => lnP_stable 51 b a L)
  have RS := Lib.hid rowP_stable
  have HC := Lib.hid (cnt_le L a)
  clear h
  go_enter Try.func23, Try.ntmps23
  go_wp2_with fail
  go_loopw [3] (fun v wr => ∃ (a' : Int) (out : List Ent), a ≤ a' ∧ a' ≤ 9223372036854775807 ∧ (fol L a = ((fol L a').1, out ++ (fol L a').2)) ∧ out.length + cnt L a' ≤ cnt L a ∧ Step w F (star (rowP 30 7 v out.length (ents out)) (lnP 51 b a' L)) wr) (fun v wr => match wr.cell? ⟨b, 0, none⟩ with | some (.int _ x) => cnt L x | _ => 0)
  case atStart => exact ⟨a, [], by omega, by omega, by simp, by simp, S0.out⟩
  case round =>
    obtain ⟨a', out, hlo, hhi, hf, hc, hs⟩ := hrel
    have FF := Lib.hid hf
    have CC := Lib.hid hc
    have ST := Lib.hid hs
    obtain ⟨F1, v1, hb1, hr1, hF1⟩ := hs.swap.get_left
    have LN := Lib.hid (show lnP 51 b a' L wr F1 from ⟨v1, hb1, hr1, hF1⟩)
    have c0 := hb1.cell 0
    obtain ⟨_, hrow, _⟩ := hs.get_left
    obtain ⟨A3, c3, rfl, _, _⟩ := hrow.form
    have RW := Lib.hid hrow
    have C0 := Lib.hid c0
    clear hf hc hs hb1 hr1 hF1 hrow
    by_cases hmx : a' < 9223372036854775807
    · have g1 : decide (a' < 9223372036854775807) = true := decide_eq_true hmx
      have w1 : IntKind.i64.wrap (a' + 1) = a' + 1 := by rw [IntKind.wrap_i64]; omega
      have KN := Lib.hid (known_calls wr b F1 a' L LN.out (a' + 1))
      cases hv : findV L (a' + 1) with
      | none =>
        rw [hv] at KN
        have E1 := Lib.hid (fol_none hv)
        clear hv
        go_wp2_with fail
        refine KN.out.mono ?_
        rintro e w2 ⟨rfl, hk⟩
        have S2 := Lib.hid (ST.out.kept ((RS.out _ _ _ _ _).star (LS.out _)) (hk.alloc (.cells zes 30)))
        clear hk
        go_wp2_with fail
        go_ret
        exact ⟨_, rfl, by rw [FF.out, E1.out, List.append_nil]; exact S2.out⟩
      | some x =>
        rw [hv] at KN
        replace KN : Hid (Calls Try.prog 22 #[.pointer (some ⟨b, 0, none⟩), .int .i64 (a' + 1)] wr (fun e w' => e = .returned (.tuple #[x.val, .bool true]) ∧ Keep Nothing wr w')) := KN
        have E1 := Lib.hid (fol_some hmx hv)
        have HV := Lib.hid (cnt_step hv)
        clear hv
        go_wp2_with fail
        refine KN.out.mono ?_
        rintro e w2 ⟨rfl, hk⟩
        have S2 := Lib.hid (ST.out.kept ((RS.out _ _ _ _ _).star (LS.out _)) (hk.alloc (.cells x.cs 30)))
        obtain ⟨hfz, ⟨v3, hbk⟩, hs3⟩ := ln_set (a2 := a' + 1) (RS.out _ _ _ _ _) S2.out (by decide)
        have S3 := Lib.hid hs3
        have e0 := hbk.cell 0
        have hbn : w2.heap.size ≠ b := by
          obtain ⟨v4, hb4, _⟩ := LN.out
          have h1 := hb4.lt
          have h2 := hk.size
          omega
        have D := (Blk.fresh w2 30 x.cs).far (p := ⟨b, 0, none⟩) hbn (.int .i64 (a' + 1))
        have d0 := D.cell 0
        have d1 := D.cell 1
        have d2 := D.cell 2
        have d3 := D.cell 3
        have d4 := D.cell 4
        have d5 := D.cell 5
        have d6 := D.cell 6
        clear hk hs3 hbk c0 D
        obtain ⟨_, hrow3, _⟩ := S3.out.get_left
        have R3 := Lib.hid (hrow3.alloc (.cells x.cs 30))
        have S4 := Lib.hid (S3.out.kept ((RS.out _ _ _ _ _).star (LS.out _)) ((Keep.same Nothing _).alloc (.cells x.cs 30)))
        have C4 := Lib.hid (CC.out)
        have hc4 := CC.out
        have hcv := HV.out
        have hlc := HC.out
        have hb1 : out.length + 1 ≤ maxLen := by unfold maxLen; omega
        have hb2 : (out.length + 1) * 64 ≤ 140737488355328 := by omega
        clear hrow3
        go_wp2_with (at_builtin; refine wpList_app _ rfl EE (.tmp 30) (.tmp 32) rfl R3.out (Src.fresh _ x.cs 30 7 1 rfl) 1 rfl (by simp [Act.eval]) (by simp [Value.oneCell']) hb1 hb2 ?_)
        intro v' w' hr hg hloc
        have S5 := Lib.hid (show Step w F (star (rowP 30 7 v' (out ++ [x]).length (ents (out ++ [x]))) (lnP 51 b (a' + 1) L)) w' by
          rw [ents_app, ents_one1, List.length_append]
          exact S4.out.grew (LS.out _) hr hg (by simpa using hloc))
        clear hr hg hloc e0 d0 d1 d2 d3 d4 d5 d6 hfz
        obtain ⟨F5, v5, hb5, _⟩ := S5.out.swap.get_left
        have M5 := Lib.hid (hb5.cell 0)
        clear hb5
        go_wp2_with fail
        go_roundw
        case rel => exact ⟨a' + 1, out ++ [x], by omega, by omega, by rw [FF.out, E1.out]; simp, by rw [List.length_append]; simp only [List.length_cons, List.length_nil]; omega, S5.out⟩
        case measure => rw [M5.out, C0.out]; exact HV.out
    · have g1 : decide (a' < 9223372036854775807) = false := decide_eq_false hmx
      have E1 := Lib.hid (fol_max (L := L) hmx)
      go_wp2_with fail
      go_ret
      exact ⟨_, rfl, by rw [FF.out, E1.out, List.append_nil]; exact ST.out⟩
set_option maxHeartbeats 6400000 in
theorem rfollow_calls (w : World) (b : Nat) (F : Nat → Prop) (a : Int) (L : List Ent) (h : lnP 47 b a L w F) (ha0 : -9223372036854775808 ≤ a) (ha1 : a ≤ 9223372036854775807) (hL : L.length ≤ 1000000) :
    Calls Try.prog 25 #[.pointer (some ⟨b, 0, none⟩)] w (Gives w F (lnP 47 b (fol L a).1 L) (fol L a).2) := by
  have hu := Try.underlying47
  have hu2 := Try.underlying30
  have hu3 := Try.underlying25
  have S0 := Lib.hid (Step.nil_row 30 7 (Step.self h))
  have LS := Lib.hid (fun a => lnP_stable 47 b a L)
  have RS := Lib.hid rowP_stable
  have HC := Lib.hid (cnt_le L a)
  clear h
  go_enter Try.func25, Try.ntmps25
  go_wp2_with fail
  go_loopw [3] (fun v wr => ∃ (a' : Int) (out : List Ent), a ≤ a' ∧ a' ≤ 9223372036854775807 ∧ (fol L a = ((fol L a').1, out ++ (fol L a').2)) ∧ out.length + cnt L a' ≤ cnt L a ∧ Step w F (star (rowP 30 7 v out.length (ents out)) (lnP 47 b a' L)) wr) (fun v wr => match wr.cell? ⟨b, 0, none⟩ with | some (.int _ x) => cnt L x | _ => 0)
  case atStart => exact ⟨a, [], by omega, by omega, by simp, by simp, S0.out⟩
  case round =>
    obtain ⟨a', out, hlo, hhi, hf, hc, hs⟩ := hrel
    have FF := Lib.hid hf
    have CC := Lib.hid hc
    have ST := Lib.hid hs
    obtain ⟨F1, v1, hb1, hr1, hF1⟩ := hs.swap.get_left
    have LN := Lib.hid (show lnP 47 b a' L wr F1 from ⟨v1, hb1, hr1, hF1⟩)
    have c0 := hb1.cell 0
    obtain ⟨_, hrow, _⟩ := hs.get_left
    obtain ⟨A3, c3, rfl, _, _⟩ := hrow.form
    have RW := Lib.hid hrow
    have C0 := Lib.hid c0
    clear hf hc hs hb1 hr1 hF1 hrow
    by_cases hmx : a' < 9223372036854775807
    · have g1 : (a' == 9223372036854775807) = false := by rw [beq_eq_false_iff_ne]; omega
      have w1 : IntKind.i64.wrap (a' + 1) = a' + 1 := by rw [IntKind.wrap_i64]; omega
      have KN := Lib.hid (rfind_calls wr b F1 a' L LN.out (a' + 1))
      go_wp2_with fail
      refine KN.out.mono ?_
      rintro e w2 ⟨i, rfl, hi, rfl⟩
      rcases hi with ⟨rfl, hn⟩ | ⟨k, x, rfl, hx, hs⟩
      · have E1 := Lib.hid (fol_none hn)
        clear hn
        go_wp2_with fail
        go_ret
        exact ⟨_, rfl, by rw [FF.out, E1.out, List.append_nil]; exact ST.out⟩
      · have E1 := Lib.hid (fol_some hmx hs)
        have HV := Lib.hid (cnt_step hs)
        have hkl : k < L.length := (List.getElem?_eq_some_iff.1 hx).1
        have HX := Lib.hid hx
        clear hs hx
        obtain ⟨hfz, ⟨v3, hbk⟩, hs3⟩ := ln_set (a2 := a' + 1) (RS.out _ _ _ _ _) ST.out (by decide)
        have S3 := Lib.hid hs3
        obtain ⟨F6, v6, hb6, hr6, hF6⟩ := hs3.swap.get_left
        obtain ⟨A6, c6, rfl, _, _⟩ := hr6.form
        obtain ⟨ad, y, rfl, hy, he⟩ := ent_at hr6.src hkl
        obtain rfl : x = y := by rw [HX.out] at hy; injection hy
        obtain ⟨d0, d1, d2, d3, d4, d5, d6⟩ := he
        have e1 := hb6.cell 1
        obtain ⟨_, hrow3, _⟩ := S3.out.get_left
        have R3 := Lib.hid (hrow3.alloc (.cells x.cs 30))
        have S4 := Lib.hid (S3.out.kept ((RS.out _ _ _ _ _).star (LS.out _)) ((Keep.same Nothing _).alloc (.cells x.cs 30)))
        have hc4 := CC.out
        have hcv := HV.out
        have hlc := HC.out
        have hb1 : out.length + 1 ≤ maxLen := by unfold maxLen; omega
        have hb2 : (out.length + 1) * 64 ≤ 140737488355328 := by omega
        clear hs3 hbk hb6 hr6 hF6 hy hrow3
        go_wp2_with (at_builtin; refine wpList_app _ rfl EE (.tmp 28) (.tmp 36) rfl R3.out (Src.fresh _ x.cs 30 7 1 rfl) 1 rfl (by simp [Act.eval]) (by simp [Value.oneCell']) hb1 hb2 ?_)
        intro v' w' hr hg hloc
        have S5 := Lib.hid (show Step w F (star (rowP 30 7 v' (out ++ [x]).length (ents (out ++ [x]))) (lnP 47 b (a' + 1) L)) w' by
          rw [ents_app, ents_one1, List.length_append]
          exact S4.out.grew (LS.out _) hr hg (by simpa using hloc))
        clear hr hg hloc d0 d1 d2 d3 d4 d5 d6 hfz e1
        obtain ⟨F5, v5, hb5, _⟩ := S5.out.swap.get_left
        have M5 := Lib.hid (hb5.cell 0)
        clear hb5
        go_wp2_with fail
        go_roundw
        case rel => exact ⟨a' + 1, out ++ [x], by omega, by omega, by rw [FF.out, E1.out]; simp, by rw [List.length_append]; simp only [List.length_cons, List.length_nil]; omega, S5.out⟩
        case measure => rw [M5.out, C0.out]; exact HV.out
    · have g1 : (a' == 9223372036854775807) = true := by rw [beq_iff_eq]; omega
      have E1 := Lib.hid (fol_max (L := L) hmx)
      go_wp2_with fail
      go_ret
      exact ⟨_, rfl, by rw [FF.out, E1.out, List.append_nil]; exact ST.out⟩
set_option maxHeartbeats 3200000 in
theorem entries_calls (w : World) (A A' : Option Addr) (n c c' : Nat) (L : List Ent) (h : Src w A 7 n (ents L)) (h' : Src w A' 7 n (ents L)) (hn : n ≤ 9223372036854775807) :
    Calls Try.prog 21 #[.slice A n c, .slice A' n c'] w (Pure w (.bool true)) := by
  have hu := Try.underlying30
  have H := Lib.hid h
  have H' := Lib.hid h'
  have hq : ∀ (w : World) (x : Ent), (binOp .neq 30 (.agg #[.int .i64 x.a, .int .i64 x.b, .int .i64 x.c.k, .int .i64 x.c.s, .int .i64 x.c.q, .string x.c.nm, .int .i64 x.c.n]) (.agg #[.int .i64 x.a, .int .i64 x.b, .int .i64 x.c.k, .int .i64 x.c.s, .int .i64 x.c.q, .string x.c.nm, .int .i64 x.c.n])).run Try.prog w = .ok (.bool false) w := fun w x => by
    have := neqE w x x
    rwa [eqE_same] at this
  have HQ := Lib.hid hq
  clear h h' hq
  go_enter Try.func21, Try.ntmps21
  go_wp2_with fail
  go_loopw [5] (fun v wr => Drew w wr ∧ ∃ k : Nat, k ≤ n ∧ v = .int .i64 k) (fun v _ => n - (intOf v).toNat)
  case atStart => exact ⟨Drew.same _, 0, by omega, by simp⟩
  case round =>
    obtain ⟨⟨q, rfl⟩, k, hk, rfl⟩ := hrel
    by_cases hlt : k < n
    · obtain ⟨ad, x, rfl, hx, he⟩ := ent_at H.out hlt
      obtain ⟨ad', y, rfl, hy, he'⟩ := ent_at H'.out hlt
      obtain rfl : x = y := by rw [hx] at hy; injection hy
      obtain ⟨c0, c1, c2, c3, c4, c5, c6⟩ := he
      obtain ⟨d0, d1, d2, d3, d4, d5, d6⟩ := he'
      have hq := fun w => HQ.out w x
      have HK := Lib.hid (show k + 1 ≤ n from hlt)
      clear hx hy
      go_wp2_with fail
      go_quiet (fail)
      go_wp2_with fail
      go_roundw
      case rel => exact ⟨⟨_, rfl⟩, k + 1, HK.out, by go_num⟩
      case measure => have hkn := HK.out; simp [intOf]; omega
    · obtain rfl : k = n := by omega
      go_wp2_with fail
      go_ret
      exact ⟨rfl, ⟨_, rfl⟩⟩
end Go.Proofs.Ytcbjmmjjohigmaa.A
