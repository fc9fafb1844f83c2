/-
  The reference's waitgroup.
-/
import Derived.Test.YtmohpjkbhpgidaaC
namespace Go.Proofs.Ytmohpjkbhpgidaa.A
open Go.RowKit Go.Proofs.Ytmohpjkbhpgidaa.U
set_option linter.unusedVariables false
set_option linter.unusedSimpArgs false
set_option maxRecDepth 100000

set_option maxHeartbeats 800000 in
theorem radd_calls (w : World) (b : Nat) (F : Nat → Prop) (n d : Int) (L : List Int) (h : qP 87 b [.int .i64 n] L w F) (hn : 0 ≤ n) (hm : n ≤ 1073741824) (hd : -9223372036854775808 ≤ d) (hd' : d ≤ 9223372036854775807) :
    Calls Try.prog 50 #[.pointer (some ⟨b, 0, none⟩), .int .i64 d] w (AddPost w F 87 b n d L) := by
  have hu := Try.underlying87
  obtain ⟨v, hb, hr, hF⟩ := h
  obtain ⟨A, c, rfl, _, _⟩ := hr.form
  have hc0 := hb.cell 0
  have hc1 := hb.cell 1
  have hf0 := hb.free 0
  have hf1 := hb.free 1
  have B := Lib.hid hb
  have R := Lib.hid hr
  have FF := Lib.hid hF
  clear hb hr hF
  by_cases h1 : 1073741824 - n < d ∨ d < -1073741824
  · have E := Lib.hid (show gE n d = 15 by unfold gE; rw [if_pos h1])
    have ER := Lib.hid (show gR n d L = [] by unfold gR; rw [E.out, if_neg (by omega)])
    have EL := Lib.hid (show gL n d L = L by unfold gL; rw [E.out, if_neg (by omega)])
    have EN := Lib.hid (show gN n d = n by unfold gN; rw [E.out, if_neg (by omega)])
    rcases (show 1073741824 < d ∨ d < -1073741824 ∨ (¬ 1073741824 < d ∧ ¬ d < -1073741824 ∧ 1073741824 - n < d) by omega) with h2 | h2 | ⟨h2, h3, h4⟩
    · go_enter Try.func50, Try.ntmps50
      go_wp2_with fail
      go_ret2
      exact ⟨(none, 0), by rw [E.out, ER.out]; rfl, by rw [ER.out, EL.out, EN.out]; exact q_stays (by decide) B.out R.out FF.out B.out (Keep.same _ _)⟩
    · have g1 : decide (1073741824 < d) = false := decide_eq_false (by omega)
      go_enter Try.func50, Try.ntmps50
      go_wp2_with fail
      go_ret2
      exact ⟨(none, 0), by rw [E.out, ER.out]; rfl, by rw [ER.out, EL.out, EN.out]; exact q_stays (by decide) B.out R.out FF.out B.out (Keep.same _ _)⟩
    · have w3 : IntKind.i64.wrap (n + d) = n + d := by rw [IntKind.wrap_i64]; omega
      have g1 : decide (1073741824 < d) = false := decide_eq_false (by omega)
      have g2 : decide (d < -1073741824) = false := decide_eq_false (by omega)
      have g3 : decide (1073741824 < n + d) = true := decide_eq_true (by omega)
      go_enter Try.func50, Try.ntmps50
      go_wp2_with fail
      go_ret2
      exact ⟨(none, 0), by rw [E.out, ER.out]; rfl, by rw [ER.out, EL.out, EN.out]; exact q_stays (by decide) B.out R.out FF.out B.out (Keep.same _ _)⟩
  · have w3 : IntKind.i64.wrap (n + d) = n + d := by rw [IntKind.wrap_i64]; omega
    have g1 : decide (1073741824 < d) = false := decide_eq_false (by omega)
    have g2 : decide (d < -1073741824) = false := decide_eq_false (by omega)
    have g3 : decide (1073741824 < n + d) = false := decide_eq_false (by omega)
    by_cases h2 : d < -n
    · have E := Lib.hid (show gE n d = 14 by unfold gE; rw [if_neg h1, if_pos h2])
      have ER := Lib.hid (show gR n d L = [] by unfold gR; rw [E.out, if_neg (by omega)])
      have EL := Lib.hid (show gL n d L = L by unfold gL; rw [E.out, if_neg (by omega)])
      have EN := Lib.hid (show gN n d = n by unfold gN; rw [E.out, if_neg (by omega)])
      have g4 : decide (n + d < 0) = true := decide_eq_true (by omega)
      go_enter Try.func50, Try.ntmps50
      go_wp2_with fail
      go_ret2
      exact ⟨(none, 0), by rw [E.out, ER.out]; rfl, by rw [ER.out, EL.out, EN.out]; exact q_stays (by decide) B.out R.out FF.out B.out (Keep.same _ _)⟩
    · have E := Lib.hid (show gE n d = 0 by unfold gE; rw [if_neg h1, if_neg h2])
      have EN := Lib.hid (show gN n d = n + d by unfold gN; rw [E.out, if_pos rfl])
      have g4 : decide (n + d < 0) = false := decide_eq_false (by omega)
      have B1 := Lib.hid (B.out.put 0 (.int .i64 (n + d)))
      by_cases h3 : n + d = 0
      · have ER := Lib.hid (show gR n d L = L by unfold gR; rw [E.out, if_pos ⟨rfl, h3⟩])
        have EL := Lib.hid (show gL n d L = [] by unfold gL; rw [E.out, if_pos ⟨rfl, h3⟩])
        have g5 : decide ((0 : Int) < n + d) = false := decide_eq_false (by omega)
        have B2 := Lib.hid (B1.out.put 1 (.slice none 0 0))
        clear h3
        go_enter Try.func50, Try.ntmps50
        go_wp2_with fail
        go_ret2
        refine ⟨(A, c), by rw [E.out, ER.out]; rfl, ?_⟩
        rw [ER.out, EL.out, EN.out]
        exact q_leaves (cs := [.int .i64 n]) (cs' := [.int .i64 (n + d)]) (by decide) rfl B.out R.out FF.out (by simpa using B2.out) (((Keep.same (fun k => k = b) w).set (p := ⟨b, 0, none⟩) (.inl rfl) _).set (p := ⟨b, 1, none⟩) (.inl rfl) _)
      · have ER := Lib.hid (show gR n d L = [] by unfold gR; rw [if_neg (fun h => h3 h.2)])
        have EL := Lib.hid (show gL n d L = L by unfold gL; rw [if_neg (fun h => h3 h.2)])
        have g5 : decide ((0 : Int) < n + d) = true := decide_eq_true (by omega)
        clear h3
        go_enter Try.func50, Try.ntmps50
        go_wp2_with fail
        go_ret2
        refine ⟨(none, 0), by rw [E.out, ER.out]; rfl, ?_⟩
        rw [ER.out, EL.out, EN.out]
        exact q_stays (by decide) B.out R.out FF.out (by simpa using B1.out) ((Keep.same (fun k => k = b) w).set (p := ⟨b, 0, none⟩) (.inl rfl) _)
/-- Two appends from nil on: a row of old numbers and one more. -/
theorem q_fresh {w w3 : World} {t b o : Nat} {cs : List Value} {L M : List Int} {v v3 : Value} {F : Nat → Prop} (ht : t ≠ 3) (ho : o = cs.length) (hb : Blk w b t (cs ++ [v]).toArray) (hr : Row w 3 1 v L.length (ints L)) (hF : ∀ k, F k ↔ k = b ∨ v.ownBlock = some k)
    (hk : Keep Nothing w w3) (hl : ∀ k, v3.ownBlock = some k → w.heap.size ≤ k) (hr3 : Row w3 3 1 v3 M.length (ints M)) : Step w F (qP t b cs M) (w3.setCell ⟨b, o, none⟩ v3) := by
  have hb3 := (hb.keep hk (fun h => h)).put o v3
  have hset : (cs ++ [v]).toArray.setIfInBounds o v3 = (cs ++ [v3]).toArray := by
    subst ho
    simp [List.set_append_right]
  rw [hset] at hb3
  have hlt := hb.lt
  refine ⟨fun k => k = b ∨ v3.ownBlock = some k, ⟨v3, hb3, hr3.keep ((Keep.same (fun i => i = b) w3).set (p := ⟨b, o, none⟩) (.inl rfl) v3) (fun g hg e => by have := hl g hg; omega), fun _ => Iff.rfl⟩,
    ((Keep.same F w).trans hk (fun _ h => h.elim)).set (p := ⟨b, o, none⟩) (.inl ((hF b).2 (.inl rfl))) v3, fun k hk => ?_⟩
  rcases hk with hk | hk
  · exact .inl ((hF k).2 (.inl hk))
  · exact .inr (hl k hk)
set_option maxHeartbeats 800000 in
theorem rwait_calls (w : World) (b : Nat) (F : Nat → Prop) (n x : Int) (L : List Int) (h : qP 87 b [.int .i64 n] L w F) (hL : L.length ≤ 1000000) :
    Calls Try.prog 48 #[.pointer (some ⟨b, 0, none⟩), .int .i64 x] w (WaitPost w F 87 b n x L) := by
  have hu := Try.underlying87
  have HS := Lib.hid (Step.none_ (qP_stable 87 b [.int .i64 n] L) h (Keep.same _ w))
  obtain ⟨v, hb, hr, hF⟩ := h
  obtain ⟨A, c, rfl, _, _⟩ := hr.form
  have HH := Lib.hid (has_calls w A L.length c L x hr.src hL)
  have hc0 := hb.cell 0
  have hc1 := hb.cell 1
  have hf1 := hb.free 1
  have B := Lib.hid hb
  have R := Lib.hid hr
  have FF := Lib.hid hF
  clear hb hr hF
  by_cases hx : x < 0
  · have E := Lib.hid (show wE L x = 1 by unfold wE; rw [if_pos hx])
    have EB := Lib.hid (show wB n L x = false by unfold wB; rw [decide_eq_false (by omega)]; rfl)
    have EL := Lib.hid (show wL n L x = L by unfold wL; rw [if_pos (.inl hx)])
    go_enter Try.func48, Try.ntmps48
    go_wp2_with fail
    go_ret2
    exact ⟨by rw [E.out, EB.out]; rfl, by rw [EL.out]; exact HS.out⟩
  · have g0 : decide (x < 0) = false := decide_eq_false hx
    by_cases hm : x ∈ L
    · have E := Lib.hid (show wE L x = 12 by unfold wE; rw [if_neg hx, if_pos hm])
      have EB := Lib.hid (show wB n L x = false by unfold wB; rw [decide_eq_true hm]; simp)
      have EL := Lib.hid (show wL n L x = L by unfold wL; rw [if_pos (.inr (.inl hm))])
      rw [decide_eq_true hm] at HH
      clear hm
      go_enter Try.func48, Try.ntmps48
      go_wp2_with fail
      refine HH.out.mono ?_
      rintro e w' ⟨rfl, rfl⟩
      go_wp2_with fail
      go_ret2
      exact ⟨by rw [E.out, EB.out]; rfl, by rw [EL.out]; exact HS.out⟩
    · have E := Lib.hid (show wE L x = 0 by unfold wE; rw [if_neg hx, if_neg hm])
      rw [decide_eq_false hm] at HH
      by_cases hn : n = 0
      · have EB := Lib.hid (show wB n L x = true by unfold wB; rw [decide_eq_false hm, decide_eq_true hn, decide_eq_true (by omega)]; rfl)
        have EL := Lib.hid (show wL n L x = L by unfold wL; rw [if_pos (.inr (.inr hn))])
        have g1 : (n == 0) = true := by rw [beq_iff_eq]; exact hn
        clear hm hn
        go_enter Try.func48, Try.ntmps48
        go_wp2_with fail
        refine HH.out.mono ?_
        rintro e w' ⟨rfl, rfl⟩
        go_wp2_with fail
        go_ret2
        exact ⟨by rw [E.out, EB.out]; rfl, by rw [EL.out]; exact HS.out⟩
      · have EB := Lib.hid (show wB n L x = false by unfold wB; rw [decide_eq_false hn]; simp)
        have EL := Lib.hid (show wL n L x = L ++ [x] by unfold wL; rw [if_neg (by rintro (h | h | h); exact hx h; exact hm h; exact hn h)])
        have g1 : (n == 0) = false := by rw [beq_eq_false_iff_ne]; exact hn
        have O1 := Lib.hid (ints_one L)
        clear hm hn
        go_enter Try.func48, Try.ntmps48
        go_wp2_with fail
        refine HH.out.mono ?_
        rintro e w' ⟨rfl, rfl⟩
        go_wp2_with (at_builtin; refine wpList_app _ rfl E26 (.const (.slice none 0 0)) (.tmp 23) rfl (Row.nil w' 3 1) R.out.src c rfl rfl O1.out (by unfold maxLen; omega) (by omega) ?_)
        intro v1 w1 hr1 hg1 hl1
        obtain ⟨A1, c1, rfl, _, _⟩ := hr1.form
        have K1 := Lib.hid ((Keep.same Nothing w').grown hg1 (fun i hi => by simp [Value.ownBlock] at hi))
        have O2 := Lib.hid (show ∀ k, (Value.slice A1 L.length c1).ownBlock = some k → w'.heap.size ≤ k by
          intro k hk
          rcases hl1 with h | h
          · rw [h] at hk; simp [Value.ownBlock] at hk
          · rw [h] at hk; injection hk with hk; omega)
        have R1 := Lib.hid hr1
        clear hr1 hg1 hl1
        go_wp2_with (at_builtin; refine wpList_app _ rfl E26 (.tmp 24) (.tmp 26) rfl (R1.out.alloc _) (Src.one w1 (.int .i64 x) 3) 1 rfl rfl (by simp [Value.oneCell']) (by unfold maxLen; omega) (by omega) ?_)
        intro v2 w2 hr2 hg2 hl2
        obtain ⟨A2, c2, rfl, _, _⟩ := hr2.form
        have K2 := Lib.hid ((K1.out.alloc (.cells #[.int .i64 x] 3)).grown hg2 (fun i hi => .inr (O2.out i hi)))
        have hsz := K1.out.size
        have O3 := Lib.hid (show ∀ k, (Value.slice A2 (L.length + 1) c2).ownBlock = some k → w'.heap.size ≤ k by
          intro k hk
          rcases hl2 with h | h
          · rw [h] at hk; exact O2.out k hk
          · rw [h] at hk; injection hk with hk; omega)
        have B2 := Lib.hid (B.out.keep K2.out (fun h => h))
        have hcell2 := B2.out.cell 1
        have hfree2 := B2.out.free 1
        have R2 := Lib.hid (show Row w2 3 1 (.slice A2 (L.length + 1) c2) (L ++ [x]).length (ints (L ++ [x])) by rw [List.length_append, ints_app]; exact hr2)
        clear hr2 hg2 hl2
        go_wp2_with fail
        go_ret2
        exact ⟨by rw [E.out, EB.out]; rfl, by rw [EL.out]; exact q_fresh (by decide) rfl B.out R.out FF.out K2.out O3.out R2.out⟩
end Go.Proofs.Ytmohpjkbhpgidaa.A
