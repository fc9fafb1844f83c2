/-
  The learner among other things; the examples.
-/
import Derived.Test.YtcbjmmjjohigmaaM
namespace Go.Proofs.Ytcbjmmjjohigmaa.A
open Go.RowKit Go.Proofs.Ytcbjmmjjohigmaa.U
set_option linter.unusedVariables false
set_option linter.unusedSimpArgs false
set_option maxRecDepth 100000

/-- A call that gives a row of entries, among other things. -/
def Made (B : Nat) (w0 : World) (P' Q : SP) (M : List Ent) (e : Ending) (w' : World) : Prop :=
  ∃ (A : Option Addr) (c : Nat), e = .returned (.slice A M.length c) ∧ Holds B w0 w' (star (rowP 30 7 (.slice A M.length c) M.length (ents M)) (star P' Q))
theorem made_of {B : Nat} {w0 w : World} {P Q P' : SP} {M : List Ent} {f : FuncId} {args : Array Value} (h : Holds B w0 w (star P Q)) (hQ : Stable Q) (c : ∀ F, P w F → Calls Try.prog f args w (Gives w F P' M)) : Calls Try.prog f args w (Made B w0 P' Q M) :=
  (Holds.on_made (post := fun v e => e = .returned v) (N := fun v => rowP 30 7 v M.length (ents M)) h hQ c).mono fun e w' ⟨v, he, hh⟩ => by
    obtain ⟨A, k, rfl, _, _⟩ := hh.row.form
    exact ⟨A, k, he, hh⟩
section
variable {B : Nat} {w0 w : World} {Q : SP} {b : Nat} {a : Int} {L : List Ent}
theorem x_learn (h : Holds B w0 w (star (lnP 51 b a L) Q)) (hQ : Stable Q) (x : Ent) (ha0 : -9223372036854775808 ≤ a) (ha1 : a ≤ 9223372036854775807) (hL : L.length ≤ 900000) :
    Calls Try.prog 8 #[.pointer (some ⟨b, 0, none⟩), x.val] w (Made B w0 (lnP 51 b (lnR L a x).1 (lnL L a x)) Q (lnR L a x).2) := made_of h hQ fun F hF => learn_calls w b F a L x hF ha0 ha1 hL
theorem y_learn (h : Holds B w0 w (star (lnP 47 b a L) Q)) (hQ : Stable Q) (x : Ent) (ha0 : -9223372036854775808 ≤ a) (ha1 : a ≤ 9223372036854775807) (hL : L.length ≤ 900000) :
    Calls Try.prog 13 #[.pointer (some ⟨b, 0, none⟩), x.val] w (Made B w0 (lnP 47 b (lnR L a x).1 (lnL L a x)) Q (lnR L a x).2) := made_of h hQ fun F hF => rlearn_calls w b F a L x hF ha0 ha1 hL
theorem x_jump (h : Holds B w0 w (star (lnP 51 b a L) Q)) (hQ : Stable Q) (s : Int) (hs0 : -9223372036854775808 ≤ s) (hs1 : s ≤ 9223372036854775807) (hL : L.length ≤ 900000) :
    Calls Try.prog 14 #[.pointer (some ⟨b, 0, none⟩), .int .i64 s] w (Made B w0 (lnP 51 b (jmR L a s).1 (jmL L a s)) Q (jmR L a s).2) := made_of h hQ fun F hF => jump_calls w b F a L s hF hs0 hs1 hL
theorem y_jump (h : Holds B w0 w (star (lnP 47 b a L) Q)) (hQ : Stable Q) (s : Int) (hs0 : -9223372036854775808 ≤ s) (hs1 : s ≤ 9223372036854775807) (hL : L.length ≤ 900000) :
    Calls Try.prog 15 #[.pointer (some ⟨b, 0, none⟩), .int .i64 s] w (Made B w0 (lnP 47 b (jmR L a s).1 (jmL L a s)) Q (jmR L a s).2) := made_of h hQ fun F hF => rjump_calls w b F a L s hF hs0 hs1 hL
theorem x_since (h : Holds B w0 w (star (lnP 51 b a L) Q)) (hQ : Stable Q) (s m : Int) (hs0 : -9223372036854775808 ≤ s) (ha1 : a ≤ 9223372036854775807) (hL : L.length ≤ 900000) :
    Calls Try.prog 16 #[.pointer (some ⟨b, 0, none⟩), .int .i64 s, .int .i64 m] w (Made B w0 (lnP 51 b a L) Q (sinceV L a s m)) := made_of h hQ fun F hF => since_calls w b F a L s m hF hs0 ha1 hL
theorem y_since (h : Holds B w0 w (star (lnP 47 b a L) Q)) (hQ : Stable Q) (s m : Int) (hs0 : -9223372036854775808 ≤ s) (ha1 : a ≤ 9223372036854775807) (hL : L.length ≤ 900000) :
    Calls Try.prog 17 #[.pointer (some ⟨b, 0, none⟩), .int .i64 s, .int .i64 m] w (Made B w0 (lnP 47 b a L) Q (sinceV L a s m)) := made_of h hQ fun F hF => rsince_calls w b F a L s m hF hs0 ha1 hL
theorem x_forget (h : Holds B w0 w (star (lnP 51 b a L) Q)) (hQ : Stable Q) (s : Int) :
    Calls Try.prog 18 #[.pointer (some ⟨b, 0, none⟩), .int .i64 s] w (fun e w' => unit_ e ∧ Holds B w0 w' (star (lnP 51 b a (keepO L (min s a))) Q)) := h.on_left hQ fun F hF => forget_calls w b F a L hF s
theorem y_forget (h : Holds B w0 w (star (lnP 47 b a L) Q)) (hQ : Stable Q) (s : Int) (hL : L.length ≤ 900000) :
    Calls Try.prog 19 #[.pointer (some ⟨b, 0, none⟩), .int .i64 s] w (fun e w' => unit_ e ∧ Holds B w0 w' (star (lnP 47 b a (keepO L (min s a))) Q)) := h.on_left hQ fun F hF => rforget_calls w b F a L hF s (by omega)
theorem x_known (h : Holds B w0 w (star (lnP 51 b a L) Q)) (s : Int) :
    Calls Try.prog 11 #[.pointer (some ⟨b, 0, none⟩), .int .i64 s] w (fun e w' => e = .returned (knV (findV L s)) ∧ Keep Nothing w w') := by
  obtain ⟨F, hF⟩ := h.left
  exact Known_calls w b F a L hF s
theorem y_known (h : Holds B w0 w (star (lnP 47 b a L) Q)) (s : Int) :
    Calls Try.prog 20 #[.pointer (some ⟨b, 0, none⟩), .int .i64 s] w (fun e w' => e = .returned (knV (findV L s)) ∧ Keep Nothing w w') := by
  obtain ⟨F, hF⟩ := h.left
  exact rKnown_calls w b F a L hF s
theorem x_applied (h : Holds B w0 w (star (lnP 51 b a L) Q)) : Calls Try.prog 9 #[.pointer (some ⟨b, 0, none⟩)] w (fun e w' => e = .returned (.int .i64 a) ∧ w' = w) := by
  obtain ⟨F, hF⟩ := h.left
  exact applied_calls w b F a L hF
end
/-! ### The examples -/
def x1 : Ent := ⟨1, 0, zeroC⟩
def x2 : Ent := ⟨2, 0, zeroC⟩
theorem k_a : lnL [] 0 x2 = [x2] ∧ lnR [] 0 x2 = (0, []) := by
  obtain ⟨e1, e2⟩ := skip_no (L := []) (a := 0) (x := x2) (by decide)
  exact ⟨e1, by rw [e2]; exact fol_none (by decide)⟩
theorem k_b : lnL [x2] 0 x1 = [x2, x1] ∧ lnR [x2] 0 x1 = (2, [x1, x2]) := by
  obtain ⟨e1, e2⟩ := skip_no (L := [x2]) (a := 0) (x := x1) (by decide)
  refine ⟨e1, ?_⟩
  rw [e2]
  have h1 : findV ([x2] ++ [x1]) (0 + 1) = some x1 := by rfl
  have h2 : findV ([x2] ++ [x1]) (0 + 1 + 1) = some x2 := by rfl
  have h3 : findV ([x2] ++ [x1]) (0 + 1 + 1 + 1) = none := by rfl
  rw [fol_some (by decide) h1, fol_some (by decide) h2, fol_none h3]
  rfl
theorem k_c : lnL [x2, x1] 2 x1 = [x2, x1] ∧ lnR [x2, x1] 2 x1 = (2, []) := skip_yes (by decide)
theorem k_d : knV (findV [x2, x1] 2) = .tuple #[.agg zcs, .bool true] := by rfl
theorem k_e : jmL [x2, x1] 2 5 = [] ∧ jmR [x2, x1] 2 5 = (5, []) := by
  obtain ⟨e1, e2⟩ := jm_no (L := [x2, x1]) (a := 2) (s := 5) (by decide)
  have h : keepO [x2, x1] 5 = [] := by rfl
  rw [h] at e1 e2
  exact ⟨e1, by rw [e2]; exact fol_none (by rfl)⟩
theorem k_f : knV (findV [] 2) = .tuple #[.agg zcs, .bool false] := by rfl
set_option maxHeartbeats 6400000 in
theorem awake_calls (w : World) : Calls Try.prog 10 #[] w (fun e w' => e = .returned (.bool true) ∧ Keep Nothing w w') := by
  have hu := Try.underlying28
  have hu2 := Try.underlying30
  have hb : ∀ w', Below w.heap.size w w' → Keep Nothing w w' := fun w' h => Keep.of_below h _
  have H0 := Lib.hid (Holds.start w)
  have SN := Lib.hid none_stable
  have LS := Lib.hid lnP_stable
  have RS := Lib.hid rowP_stable
  have KA1 := Lib.hid k_a.1
  have KA2 := Lib.hid k_a.2
  have KB1 := Lib.hid k_b.1
  have KB2 := Lib.hid k_b.2
  have KC1 := Lib.hid k_c.1
  have KC2 := Lib.hid k_c.2
  have KE1 := Lib.hid k_e.1
  have KE2 := Lib.hid k_e.2
  go_enter Try.func10, Try.ntmps10
  go_wp2_with fail
  refine (new_calls _ 0).mono ?_
  rintro e w1 ⟨rfl, hw1⟩
  have H1 := Lib.hid (show Holds w.heap.size w w1 (star (lnP 51 w.heap.size 0 []) none_) by rw [hw1]; exact Holds.newLn H0.out SN.out 51 0)
  clear hw1
  have X1 := x_learn H1.out SN.out x2 (by decide) (by decide) (by decide)
  rw [KA1.out, KA2.out] at X1
  have X1' := Lib.hid X1
  clear X1
  go_wp2_with fail
  refine X1'.out.mono ?_
  rintro e w2 ⟨A2, c2, rfl, h2⟩
  have H2 := Lib.hid h2.drop
  clear h2
  have X2 := x_learn H2.out SN.out x1 (by decide) (by decide) (by decide)
  rw [KB1.out, KB2.out] at X2
  have X2' := Lib.hid X2
  clear X2
  go_wp2_with fail
  refine X2'.out.mono ?_
  rintro e w3 ⟨A3, c3, rfl, h3⟩
  have H3 := Lib.hid (Holds.second h3)
  clear h3
  have X3 := x_learn H3.out ((RS.out _ _ _ _ _).star SN.out) x1 (by decide) (by decide) (by decide)
  rw [KC1.out, KC2.out] at X3
  have X3' := Lib.hid X3
  clear X3
  go_wp2_with fail
  refine X3'.out.mono ?_
  rintro e w4 ⟨A4, c4, rfl, h4⟩
  have H4 := Lib.hid h4.drop
  clear h4
  have X4 := x_known H4.out 2
  rw [k_d] at X4
  have X4' := Lib.hid X4
  clear X4
  go_wp2_with fail
  refine X4'.out.mono ?_
  rintro e w5 ⟨rfl, hk⟩
  have H5 := Lib.hid ((H4.out.kept ((LS.out _ _ _ _).star ((RS.out _ _ _ _ _).star SN.out)) hk).alloc ((LS.out _ _ _ _).star ((RS.out _ _ _ _ _).star SN.out)) (.cells zcs 28))
  clear hk
  have X5 := x_jump H5.out ((RS.out _ _ _ _ _).star SN.out) 5 (by decide) (by decide) (by decide)
  rw [KE1.out, KE2.out] at X5
  have X5' := Lib.hid X5
  clear X5
  go_wp2_with fail
  refine X5'.out.mono ?_
  rintro e w6 ⟨A6, c6, rfl, h6⟩
  have H6 := Lib.hid h6.drop
  clear h6
  have X6 := x_known H6.out 2
  rw [k_f] at X6
  have X6' := Lib.hid X6
  clear X6
  go_wp2_with fail
  refine X6'.out.mono ?_
  rintro e w7 ⟨rfl, hk⟩
  have H7 := Lib.hid ((H6.out.kept ((LS.out _ _ _ _).star ((RS.out _ _ _ _ _).star SN.out)) hk).alloc ((LS.out _ _ _ _).star ((RS.out _ _ _ _ _).star SN.out)) (.cells zcs 28))
  clear hk
  obtain ⟨ad, y, hade, hy, he⟩ := ent_at (k := 1) (Holds.second H7.out).row.src (by decide)
  subst hade
  obtain rfl : x2 = y := by injection hy
  have e0 : (w7.alloc (.cells zcs 28)).cell? ⟨ad.block, ad.off + 7, none⟩ = some (.int .i64 2) := he.1
  have X7 := Lib.hid (x_applied H7.out)
  clear he hy
  go_wp2_with fail
  refine X7.out.mono ?_
  rintro e w' ⟨rfl, rfl⟩
  go_wp2_with fail
  go_ret
  exact ⟨rfl, hb _ H7.out.below⟩
/-! ### A learner that is none -/
theorem learn_none (w : World) (x : Ent) : Calls Try.prog 8 #[.pointer none, x.val] w (fun e w' => e = .returned (.slice none 0 0) ∧ Keep Nothing w w') := by
  have hu := Try.underlying30
  unfold Ent.val
  go_enter Try.func8, Try.ntmps8
  go_wp2_with fail
  go_quiet (fail)
  go_wp2_with fail
  go_ret
  exact ⟨rfl, ((Keep.same Nothing w).alloc _).drewN _⟩
theorem applied_none (w : World) : Calls Try.prog 9 #[.pointer none] w (fun e w' => e = .returned (.int .i64 0) ∧ w' = w) := by
  go_enter Try.func9, Try.ntmps9
  go_wp2_with fail
  go_ret
  exact ⟨rfl, rfl⟩
theorem known_none (w : World) (s : Int) : Calls Try.prog 11 #[.pointer none, .int .i64 s] w (fun e w' => e = .returned (.tuple #[.agg zcs, .bool false]) ∧ Keep Nothing w w') := by
  have hu := Try.underlying28
  go_enter Try.func11, Try.ntmps11
  go_wp2_with fail
  refine bodyPost_ret (v := .tuple #[.agg zcs, .bool false]) (by simp [results, Try.results11, go_sem, hu]) rfl ?_
  exact ⟨rfl, (Keep.same Nothing w).alloc _⟩
theorem jump_none (w : World) (s : Int) : Calls Try.prog 14 #[.pointer none, .int .i64 s] w (fun e w' => e = .returned (.slice none 0 0) ∧ w' = w) := by
  go_enter Try.func14, Try.ntmps14
  go_wp2_with fail
  go_ret
  exact ⟨rfl, rfl⟩
theorem since_none (w : World) (s m : Int) : Calls Try.prog 16 #[.pointer none, .int .i64 s, .int .i64 m] w (fun e w' => e = .returned (.slice none 0 0) ∧ w' = w) := by
  go_enter Try.func16, Try.ntmps16
  go_wp2_with fail
  go_ret
  exact ⟨rfl, rfl⟩
theorem forget_none (w : World) (s : Int) : Calls Try.prog 18 #[.pointer none, .int .i64 s] w (fun e w' => unit_ e ∧ w' = w) := by
  go_enter Try.func18, Try.ntmps18
  go_wp2_with fail
  go_end0
  exact ⟨rfl, rfl⟩
end Go.Proofs.Ytcbjmmjjohigmaa.A
