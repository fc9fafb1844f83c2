/-
  The learner's Learn, Jump; the reference's.
-/
import Derived.Test.YtcbjmmjjohigmaaF
import Derived.Deep.RegionHeld3
import Derived.Deep.RegionLaw
namespace Go.Proofs.Ytcbjmmjjohigmaa.A
open Go.RowKit Go.Proofs.Ytcbjmmjjohigmaa.U
set_option linter.unusedVariables false
set_option linter.unusedSimpArgs false
set_option maxRecDepth 100000

theorem Step.after {w w1 w2 : World} {F F' : Nat → Prop} {Q : SP} (hk : Keep F w w1) (hn : ∀ k, F' k → F k ∨ w.heap.size ≤ k) (h : Step w1 F' Q w2) : Step w F Q w2 := by
  obtain ⟨F2, k1, k2, k3⟩ := h
  have hs := hk.size
  exact ⟨F2, k1, hk.trans k2 hn, fun i hi => by
    rcases k3 i hi with h | h
    · exact hn i h
    · exact .inr (by omega)⟩
/-- The learner's row behind an append. -/
theorem ln_push {W w' : World} {F' : Nat → Prop} {t b : Nat} {a : Int} {L : List Ent} {v v' : Value} {x : Ent} (ht : 30 ≠ t) (hb : Blk W b t #[.int .i64 a, v]) (hr0 : Row W 30 7 v L.length (ents L)) (hF : ∀ k, F' k ↔ k = b ∨ v.ownBlock = some k)
    (hr : Row w' 30 7 v' (L.length + 1) (ents L ++ x.cl)) (hg : W.grownBy w' v.ownBlock) (hloc : v'.ownBlock = v.ownBlock ∨ v'.ownBlock = some W.heap.size) :
    w'.frozen? ⟨b, 1, none⟩ = false ∧ Blk w' b t #[.int .i64 a, v] ∧ Step W F' (lnP t b a (L ++ [x])) (w'.setCell ⟨b, 1, none⟩ v') := by
  have hb' := hb.grown hg (hr0.apart hb ht)
  refine ⟨hb'.free 1, hb', fun k => k = b ∨ v'.ownBlock = some k, ⟨v', hb'.put 1 v', ?_, fun k => Iff.rfl⟩, ?_, fun k hk => ?_⟩
  · rw [ents_app, ents_one1, List.length_append]
    exact hr.far (p := ⟨b, 1, none⟩) (hr.apart hb' ht) v'
  · exact ((Keep.same F' W).grown hg (fun i hi => .inl ((hF i).2 (.inr hi)))).set (.inl ((hF b).2 (.inl rfl))) v'
  · rcases hk with rfl | hk
    · exact .inl ((hF k).2 (.inl rfl))
    · rcases hloc with h | h
      · exact .inl ((hF k).2 (.inr (h ▸ hk)))
      · rw [h] at hk; injection hk with hk; exact .inr (by omega)
def skip (L : List Ent) (a : Int) (x : Ent) : Bool := decide (x.a ≤ a) || (findV L x.a).isSome
def lnL (L : List Ent) (a : Int) (x : Ent) : List Ent := if skip L a x then L else L ++ [x]
def lnR (L : List Ent) (a : Int) (x : Ent) : Int × List Ent := if skip L a x then (a, []) else fol (L ++ [x]) a
theorem skip_yes {L : List Ent} {a : Int} {x : Ent} (h : skip L a x = true) : lnL L a x = L ∧ lnR L a x = (a, []) := ⟨by unfold lnL; rw [if_pos h], by unfold lnR; rw [if_pos h]⟩
theorem skip_no {L : List Ent} {a : Int} {x : Ent} (h : skip L a x = false) : lnL L a x = L ++ [x] ∧ lnR L a x = fol (L ++ [x]) a := ⟨by unfold lnL; rw [h]; rfl, by unfold lnR; rw [h]; rfl⟩
theorem gives_nil {w w' : World} {F : Nat → Prop} {P : SP} (h : Step w F P w') : Gives w F P [] (.returned (.slice none 0 0)) w' := ⟨_, rfl, Step.nil_row 30 7 h⟩
theorem gives_after {w w1 w' : World} {F F' : Nat → Prop} {P : SP} {M : List Ent} {e : Ending} (hk : Keep F w w1) (hn : ∀ k, F' k → F k ∨ w.heap.size ≤ k) (h : Gives w1 F' P M e w') : Gives w F P M e w' := by
  obtain ⟨v, he, hs⟩ := h
  exact ⟨v, he, Step.after hk hn hs⟩
set_option maxHeartbeats 6400000 in
theorem learn_calls (w : World) (b : Nat) (F : Nat → Prop) (a : Int) (L : List Ent) (x : Ent) (h : lnP 51 b a L w F) (ha0 : -9223372036854775808 ≤ a) (ha1 : a ≤ 9223372036854775807) (hL : L.length ≤ 900000) :
    Calls Try.prog 8 #[.pointer (some ⟨b, 0, none⟩), x.val] w (Gives w F (lnP 51 b (lnR L a x).1 (lnL L a x)) (lnR L a x).2) := by
  have hu := Try.underlying51
  have hu2 := Try.underlying30
  have hu3 := Try.underlying25
  have LS := Lib.hid (fun a L => lnP_stable 51 b a L)
  have S0 := Lib.hid ((Step.self h).kept (LS.out _ _) ((Keep.same Nothing w).alloc (.cells x.cs 30)))
  have D0 := Lib.hid (Blk.fresh w 30 x.cs)
  obtain ⟨v, hb, hr, hF⟩ := h
  have c0 := (hb.alloc (.cells x.cs 30)).cell 0
  clear hb hr hF
  unfold Ent.val
  by_cases hxa : x.a ≤ a
  · have g1 : decide (x.a ≤ a) = true := decide_eq_true hxa
    obtain ⟨e1, e2⟩ := skip_yes (L := L) (a := a) (x := x) (by unfold skip; rw [g1]; rfl)
    have E1 := Lib.hid e1
    have E2 := Lib.hid e2
    clear e1 e2
    go_enter Try.func8, Try.ntmps8
    go_wp2_with fail
    go_quiet (fail)
    go_wp2_with fail
    go_ret
    rw [E1.out, E2.out]
    exact gives_nil (S0.out.kept (LS.out _ _) ((Keep.same Nothing _).drewN _))
  · have g1 : decide (x.a ≤ a) = false := decide_eq_false hxa
    have FC := Lib.hid (fun q => by
      obtain ⟨F1, h1⟩ := (S0.out.kept (LS.out _ _) ((Keep.same Nothing _).drewN q)).get
      exact known_calls ((w.alloc (.cells x.cs 30)).drewN q) b F1 a L h1 x.a)
    cases hv : findV L x.a with
    | some y =>
      rw [hv] at FC
      replace FC : Hid (∀ q, Calls Try.prog 22 #[.pointer (some ⟨b, 0, none⟩), .int .i64 x.a] ((w.alloc (.cells x.cs 30)).drewN q) (fun e w' => e = .returned (.tuple #[y.val, .bool true]) ∧ Keep Nothing ((w.alloc (.cells x.cs 30)).drewN q) w')) := FC
      obtain ⟨e1, e2⟩ := skip_yes (L := L) (a := a) (x := x) (by unfold skip; rw [hv, g1]; rfl)
      have E1 := Lib.hid e1
      have E2 := Lib.hid e2
      clear e1 e2 hv
      go_enter Try.func8, Try.ntmps8
      go_wp2_with fail
      go_quiet (fail)
      go_wp2_with fail
      refine (FC.out _).mono ?_
      rintro e w2 ⟨rfl, hk⟩
      have S2 := Lib.hid ((S0.out.kept (LS.out _ _) ((Keep.same Nothing _).drewN _)).kept (LS.out _ _) (hk.alloc (.cells y.cs 30)))
      clear hk
      go_wp2_with fail
      go_ret
      rw [E1.out, E2.out]
      exact gives_nil S2.out
    | none =>
      rw [hv] at FC
      replace FC : Hid (∀ q, Calls Try.prog 22 #[.pointer (some ⟨b, 0, none⟩), .int .i64 x.a] ((w.alloc (.cells x.cs 30)).drewN q) (fun e w' => e = .returned (.tuple #[.agg zes, .bool false]) ∧ Keep Nothing ((w.alloc (.cells x.cs 30)).drewN q) w')) := FC
      obtain ⟨e1, e2⟩ := skip_no (L := L) (a := a) (x := x) (by unfold skip; rw [hv, g1]; rfl)
      have E1 := Lib.hid e1
      have E2 := Lib.hid e2
      clear e1 e2 hv
      go_enter Try.func8, Try.ntmps8
      go_wp2_with fail
      go_quiet (fail)
      go_wp2_with fail
      refine (FC.out _).mono ?_
      rintro e w2 ⟨rfl, hk⟩
      have S2 := Lib.hid ((S0.out.kept (LS.out _ _) ((Keep.same Nothing _).drewN _)).kept (LS.out _ _) (hk.alloc (.cells zes 30)))
      have D2 := ((D0.out.drewN nq).keep hk (fun h => h)).alloc (.cells zes 30)
      have d0 := D2.cell 0
      have d1 := D2.cell 1
      have d2 := D2.cell 2
      have d3 := D2.cell 3
      have d4 := D2.cell 4
      have d5 := D2.cell 5
      have d6 := D2.cell 6
      obtain ⟨F2, ⟨v, hb, hr, hF⟩, hk2, hn2⟩ := S2.out
      have B2 := Lib.hid ((hb.alloc (.cells x.cs 30)).drew)
      have R2 := Lib.hid ((hr.alloc (.cells x.cs 30)).drew)
      have F2' := Lib.hid hF
      have K2 := Lib.hid ((hk2.alloc (.cells x.cs 30)).drew)
      have N2 := Lib.hid hn2
      have c1 := hb.cell 1
      have c1' := (hb.alloc (.cells x.cs 30)).cell 1
      have hb1 : L.length + 1 ≤ maxLen := by unfold maxLen; omega
      have hb2 : (L.length + 1) * 64 ≤ 140737488355328 := by omega
      clear hk D2 hb hr hF hk2 hn2 c0
      obtain ⟨A0, c0, rfl, _, _⟩ := R2.out.form
      have SS := Lib.hid (show Src ((w2.alloc (.cells zes 30)).alloc (.cells x.cs 30)).drew _ 7 1 _ from Src.fresh (w2.alloc (.cells zes 30)) x.cs 30 7 1 rfl)
      go_wp2_with fail
      go_region_law (first | (refine step_app _ (by rfl) EE (.tmp 30) (.tmp 32) (by rfl) R2.out SS.out 1 (by simp [Act.eval, Act.put]) (by simp [Act.eval, Act.put]) (by simp [Value.oneCell']) hb1 hb2 ?_; intro A7 c7 w' hr hg hloc; have PX := ln_push (by decide) B2.out R2.out F2'.out hr hg (by simpa using hloc); have hfz := PX.1; have f1 := PX.2.1.cell 1; have S3 := Lib.hid (Step.after K2.out N2.out PX.2.2); clear hr hg hloc PX))
      all_goals (obtain ⟨F3, h3, k3, n3⟩ := S3.out)
      all_goals have FL := Lib.hid (follow_calls _ b F3 a (L ++ [x]) h3 ha0 ha1 (by rw [List.length_append]; simp only [List.length_cons, List.length_nil]; omega))
      all_goals have K3 := Lib.hid k3
      all_goals have N3 := Lib.hid n3
      all_goals clear h3 k3 n3 d0 d1 d2 d3 d4 d5 d6 c1 c1'
      all_goals go_wp2_with fail
      all_goals refine FL.out.mono ?_
      all_goals rintro e w3 hgv
      all_goals have GV := Lib.hid hgv
      all_goals obtain ⟨v3, rfl, _⟩ := hgv
      all_goals go_wp2_with fail
      all_goals go_ret
      all_goals rw [E1.out, E2.out]
      all_goals exact gives_after K3.out N3.out GV.out
end Go.Proofs.Ytcbjmmjjohigmaa.A
