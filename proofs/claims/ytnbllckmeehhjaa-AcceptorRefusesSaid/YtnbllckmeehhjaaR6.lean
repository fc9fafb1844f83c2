/-
  AcceptorRefuses.
-/
import Derived.Test.YtnbllckmeehhjaaP
import Derived.Deep.RegionHeld3
namespace Go.Proofs.Ytnbllckmeehhjaa.A
open Go.RowKit Go.Proofs.Ytnbllckmeehhjaa.U
set_option linter.unusedVariables false
set_option linter.unusedSimpArgs false
set_option maxRecDepth 100000

theorem prep_zero (b : Int) : prep zD b = (if 1 ≤ b then (⟨b, 0, ⟨#[]⟩, []⟩, true, [⟨1, b, zeroE⟩]) else (zD, false, [])) := by
  unfold prep low recP
  by_cases h : 1 ≤ b
  · have h1 : ¬ b < 1 := by omega
    have h2 : ¬ b < 0 := by omega
    have h3 : (0 : Int) < b := by omega
    simp [h, h1, h2, h3]
  · have h1 : b < 1 := by omega
    simp [h, h1]
/-- What is low is refused. -/
theorem low_of {D : DS} {l : Int} (h : ¬ (D.pr ≤ l ∧ 1 ≤ l)) : low D l = true := by
  unfold low
  rw [Bool.or_eq_true, decide_eq_true_iff, decide_eq_true_iff]
  omega
theorem prep_low {D : DS} {l : Int} (h : low D l = true) : prep D l = (D, false, []) := by unfold prep; rw [h]; rfl
theorem accp_low {D : DS} {l : Int} {e : Ent} (h : low D l = true) : accp D l e = (D, false, []) := by unfold accp; rw [h]; rfl
set_option maxHeartbeats 12800000 in
theorem arefuses_calls (w : World) (b l : Int) (e : Ent) : Calls Try.prog 4 #[.int .i64 b, .int .i64 l, e.val] w (fun e w' => e = .returned (.bool true) ∧ Keep Nothing w w') := by
  have hb : ∀ w', Below w.heap.size w w' → Keep Nothing w w' := fun w' h => Keep.of_below h _
  have hu24 := Try.underlying24
  have hu33 := Try.underlying33
  have hu37 := Try.underlying37
  have SN := Lib.hid none_stable
  have SD := Lib.hid (dP_stable 60)
  have SB := Lib.hid blkP_stable
  have H0 := Lib.hid (Holds.newBlk (Holds.start w) SN.out 37 e.cs)
  have HN := Lib.hid (x_new H0.out ((SB.out _ _ _).star SN.out))
  unfold Ent.cs at H0 HN
  unfold Ent.val Ent.cs
  go_enter Try.func4, Try.ntmps4
  go_wp2_with fail
  refine HN.out.mono ?_
  rintro e1 w1 ⟨a, rfl, h⟩
  have H1 := Lib.hid h
  clear h
  have HP := Lib.hid (x_prepare H1.out ((SB.out _ _ _).star SN.out) b)
  obtain ⟨D, ok, rl, hE⟩ : ∃ D ok rl, prep zD b = (D, ok, rl) := ⟨_, _, _, rfl⟩
  have hD : D.es = [] ∧ ok = decide (1 ≤ b) := by
    rw [prep_zero] at hE
    by_cases hb1 : 1 ≤ b
    · rw [if_pos hb1] at hE
      injection hE with e1 e2
      injection e2 with e2 e3
      subst e1 e2
      exact ⟨rfl, (decide_eq_true hb1).symm⟩
    · rw [if_neg hb1] at hE
      injection hE with e1 e2
      injection e2 with e2 e3
      subst e1 e2
      exact ⟨rfl, (decide_eq_false hb1).symm⟩
  obtain ⟨hes, hok⟩ := hD
  rw [hE] at HP
  have HES := Lib.hid hes
  have hel : D.es.length ≤ 300000 := by rw [hes]; simp
  have hri := Lib.hid (show Rise D.es by rw [hes]; exact List.Pairwise.nil)
  clear hE hes
  go_wp2_with fail
  refine HP.out.mono ?_
  rintro e1 w2 ⟨A2, c2, rfl, h2⟩
  dsimp only at h2
  rw [hok]
  clear hok
  have H2 := Lib.hid ((h2.drop).alloc ((SD.out a D).star ((SB.out _ _ _).star SN.out)) (.cells #[.slice A2 rl.length c2, .bool false, .slice none 0 0, .slice none 0 0] 33))
  clear h2
  have HD := Lib.hid (x_durable H2.out (by omega))
  have eqb : ∀ x : Bool, (x != x) = false := fun x => by cases x <;> rfl
  go_wp2_with fail
  refine HD.out.mono ?_
  rintro e1 w3 ⟨A3, c3, rfl, hr3, hk3, ho3⟩
  have H3' := Holds.newRow H2.out ((SD.out a D).star ((SB.out _ _ _).star SN.out)) hr3 hk3 ho3
  have H3 := Lib.hid (Holds.second H3')
  have SR := Lib.hid rowP_stable
  have ST3 := Lib.hid ((SD.out a D).star ((SR.out 37 7 (.slice A3 D.es.length c3) D.es.length (ents D.es)).star ((SB.out w.heap.size 37 #[.int .i64 e.a, .int .i64 e.b, .int .i64 e.c.k, .int .i64 e.c.s, .int .i64 e.c.q, .string e.c.nm, .int .i64 e.c.n]).star SN.out)))
  have H4 := Lib.hid (Holds.second (Holds.newBlk H3.out ST3.out 24 #[.int .i64 D.pr, .int .i64 D.ba, .string D.sn, .slice A3 D.es.length c3]))
  have HPR := Lib.hid (x_promised H4.out)
  clear hr3 hk3 ho3 H3'
  go_wp2_with fail
  refine HPR.out.mono ?_
  rintro e1 w4 ⟨rfl, rfl⟩
  by_cases hlow : D.pr ≤ l ∧ 1 ≤ l
  · obtain ⟨hl1, hl2⟩ := hlow
    go_wp2_with fail
    refine (awake9 _).mono ?_
    rintro e1 w9 ⟨rfl, hk9⟩
    have K9 := Lib.hid hk9
    clear hk9
    go_wp2_with fail
    go_ret
    exact ⟨rfl, (hb _ H4.out.below).then K9.out⟩
  · have LW := Lib.hid (low_of hlow)
    have SX := Lib.hid ((SB.out w3.heap.size 24 #[.int .i64 D.pr, .int .i64 D.ba, .string D.sn, .slice A3 D.es.length c3]).star ((SR.out 37 7 (.slice A3 D.es.length c3) D.es.length (ents D.es)).star ((SB.out w.heap.size 37 #[.int .i64 e.a, .int .i64 e.b, .int .i64 e.c.k, .int .i64 e.c.s, .int .i64 e.c.q, .string e.c.nm, .int .i64 e.c.n]).star SN.out)))
    have HP5 := x_prepare H4.out SX.out l
    rw [prep_low LW.out] at HP5
    have HP6 := Lib.hid HP5
    have hcase : ¬ D.pr ≤ l ∨ (D.pr ≤ l ∧ ¬ 1 ≤ l) := by omega
    clear HP5 hlow
    rcases hcase with hl1 | ⟨hl1, hl2⟩
    all_goals
      go_wp2_with fail
      refine HP6.out.mono ?_
      rintro e1 w6 ⟨A6, c6, rfl, h6⟩
      dsimp only [List.length_nil] at h6
      have H6 := Lib.hid (Holds.second (Holds.newBlk h6.drop ((SD.out a D).star SX.out) 33 #[.slice A6 0 c6, .bool false, .slice none 0 0, .slice none 0 0]))
      have hp7 := x_accept H6.out ((SB.out w6.heap.size 33 #[.slice A6 0 c6, .bool false, .slice none 0 0, .slice none 0 0]).star SX.out) (by omega) hri.out l e
      rw [accp_low LW.out] at hp7
      have HP7 := Lib.hid hp7
      have BE := blk_at (Holds.second H6.out.second.drop).drop.second.drop.second
      have e0 := BE.cell 0
      have e1' := BE.cell 1
      have e2 := BE.cell 2
      have e3 := BE.cell 3
      have e4 := BE.cell 4
      have e5 := BE.cell 5
      have e6 := BE.cell 6
      clear h6 hp7 BE
      go_wp2_with fail
      refine HP7.out.mono ?_
      rintro e1 w7 ⟨A7, c7, rfl, h7⟩
      dsimp only [List.length_nil] at h7
      have H7 := Lib.hid (Holds.second (Holds.newBlk h7.drop ((SD.out a D).star ((SB.out w6.heap.size 33 #[.slice A6 0 c6, .bool false, .slice none 0 0, .slice none 0 0]).star SX.out)) 33 #[.slice A7 0 c7, .bool false, .slice none 0 0, .slice none 0 0]))
      have bp2 := blk_at H7.out.second
      have bp1 := blk_at H7.out.second.drop.second
      have bw := blk_at H7.out.second.drop.second.drop.second
      have RA := Lib.hid H7.out.second.drop.second.drop.second.drop.second.row
      have s0 : (w7.alloc (.cells #[.slice A7 0 c7, .bool false, .slice none 0 0, .slice none 0 0] 33)).cell? ⟨w6.heap.size, 0, none⟩ = some (.slice A6 0 c6) ∧ (w7.alloc (.cells #[.slice A7 0 c7, .bool false, .slice none 0 0, .slice none 0 0] 33)).cell? ⟨w7.heap.size, 0, none⟩ = some (.slice A7 0 c7) ∧ (w7.alloc (.cells #[.slice A7 0 c7, .bool false, .slice none 0 0, .slice none 0 0] 33)).cell? ⟨w3.heap.size, 0, none⟩ = some (.int .i64 D.pr) ∧ (w7.alloc (.cells #[.slice A7 0 c7, .bool false, .slice none 0 0, .slice none 0 0] 33)).cell? ⟨w3.heap.size, 1, none⟩ = some (.int .i64 D.ba) ∧ (w7.alloc (.cells #[.slice A7 0 c7, .bool false, .slice none 0 0, .slice none 0 0] 33)).cell? ⟨w3.heap.size, 2, none⟩ = some (.string D.sn) ∧ (w7.alloc (.cells #[.slice A7 0 c7, .bool false, .slice none 0 0, .slice none 0 0] 33)).cell? ⟨w3.heap.size, 3, none⟩ = some (.slice A3 D.es.length c3) := ⟨bp1.cell 0, bp2.cell 0, bw.cell 0, bw.cell 1, bw.cell 2, bw.cell 3⟩
      have T15 := Lib.hid (fun n => x_durable (H7.out.drewN ((SD.out a D).star ((SB.out w7.heap.size 33 #[.slice A7 0 c7, .bool false, .slice none 0 0, .slice none 0 0]).star ((SB.out w6.heap.size 33 #[.slice A6 0 c6, .bool false, .slice none 0 0, .slice none 0 0]).star SX.out))) n) (by omega))
      clear h7 bp1 bp2 bw e0 e1' e2 e3 e4 e5 e6
      go_wp2_with fail
      go_region_held3 (fun w' => w'.cell? ⟨w6.heap.size, 0, none⟩ = some (.slice A6 0 c6) ∧ w'.cell? ⟨w7.heap.size, 0, none⟩ = some (.slice A7 0 c7) ∧ w'.cell? ⟨w3.heap.size, 0, none⟩ = some (.int .i64 D.pr) ∧ w'.cell? ⟨w3.heap.size, 1, none⟩ = some (.int .i64 D.ba) ∧ w'.cell? ⟨w3.heap.size, 2, none⟩ = some (.string D.sn) ∧ w'.cell? ⟨w3.heap.size, 3, none⟩ = some (.slice A3 D.es.length c3)) (first | exact s0 | exact s8 | exact s9 | exact s10 | go_keep) ((first | (go_at_call 15; refine (T15.out _).mono ?_; rintro e1 w8 ⟨A8, c8, rfl, hr8, hk8, ho8⟩; have s8 : w8.cell? ⟨w6.heap.size, 0, none⟩ = some (.slice A6 0 c6) ∧ w8.cell? ⟨w7.heap.size, 0, none⟩ = some (.slice A7 0 c7) ∧ w8.cell? ⟨w3.heap.size, 0, none⟩ = some (.int .i64 D.pr) ∧ w8.cell? ⟨w3.heap.size, 1, none⟩ = some (.int .i64 D.ba) ∧ w8.cell? ⟨w3.heap.size, 2, none⟩ = some (.string D.sn) ∧ w8.cell? ⟨w3.heap.size, 3, none⟩ = some (.slice A3 D.es.length c3) := ⟨hk8.cell s0.1 (fun h => h), hk8.cell s0.2.1 (fun h => h), hk8.cell s0.2.2.1 (fun h => h), hk8.cell s0.2.2.2.1 (fun h => h), hk8.cell s0.2.2.2.2.1 (fun h => h), hk8.cell s0.2.2.2.2.2 (fun h => h)⟩; have R8 := Lib.hid hr8; have K8 := Lib.hid hk8; clear hr8 hk8 ho8) | (go_at_call 13; refine (same13 _ D A3 A8 c3 c8 ((RA.out.drewN _).keep K8.out (fun _ _ h => h)).src R8.out.src (by omega)).mono ?_; rintro e1 w9 ⟨rfl, hk9⟩; have s9 : w9.cell? ⟨w6.heap.size, 0, none⟩ = some (.slice A6 0 c6) ∧ w9.cell? ⟨w7.heap.size, 0, none⟩ = some (.slice A7 0 c7) ∧ w9.cell? ⟨w3.heap.size, 0, none⟩ = some (.int .i64 D.pr) ∧ w9.cell? ⟨w3.heap.size, 1, none⟩ = some (.int .i64 D.ba) ∧ w9.cell? ⟨w3.heap.size, 2, none⟩ = some (.string D.sn) ∧ w9.cell? ⟨w3.heap.size, 3, none⟩ = some (.slice A3 D.es.length c3) := ⟨hk9.cell s8.1 (fun h => h), hk9.cell s8.2.1 (fun h => h), hk9.cell s8.2.2.1 (fun h => h), hk9.cell s8.2.2.2.1 (fun h => h), hk9.cell s8.2.2.2.2.1 (fun h => h), hk9.cell s8.2.2.2.2.2 (fun h => h)⟩; have K9 := Lib.hid hk9; clear hk9) | (go_at_call 9; refine (awake9 _).mono ?_; rintro e1 w10 ⟨rfl, hk10⟩; have s10 : w10.cell? ⟨w6.heap.size, 0, none⟩ = some (.slice A6 0 c6) ∧ w10.cell? ⟨w7.heap.size, 0, none⟩ = some (.slice A7 0 c7) ∧ w10.cell? ⟨w3.heap.size, 0, none⟩ = some (.int .i64 D.pr) ∧ w10.cell? ⟨w3.heap.size, 1, none⟩ = some (.int .i64 D.ba) ∧ w10.cell? ⟨w3.heap.size, 2, none⟩ = some (.string D.sn) ∧ w10.cell? ⟨w3.heap.size, 3, none⟩ = some (.slice A3 D.es.length c3) := ⟨hk10.cell s9.1 (fun h => h), hk10.cell s9.2.1 (fun h => h), hk10.cell s9.2.2.1 (fun h => h), hk10.cell s9.2.2.2.1 (fun h => h), hk10.cell s9.2.2.2.2.1 (fun h => h), hk10.cell s9.2.2.2.2.2 (fun h => h)⟩; have K10 := Lib.hid hk10; clear hk10)))
      go_wp2_with fail
      go_ret
      exact ⟨rfl, ((((hb _ H7.out.below).drewN _).then K8.out).then K9.out).then K10.out⟩
open Go.ChangeShapes Go.WideShapes Go.ChangeAt in
theorem arefuses_law : R.Law 4 Try.f4 R.any := by
  intro H enc W base args ds p hval hA hsz _ hlt
  rw [Try.params4] at hA hval hsz
  obtain ⟨v0, vs0, d0, ds0, p0, q0, hargs, rfl, rfl, h0, r0⟩ := trodAll_cons hA
  obtain ⟨v1, vs1, d1, ds1, p1, q1, rfl, rfl, rfl, h1, r1⟩ := trodAll_cons r0
  obtain ⟨v2, vs2, d2, ds2, p2, q2, rfl, rfl, rfl, h2, r2⟩ := trodAll_cons r1
  obtain ⟨rfl, rfl, rfl⟩ := trodAll_nil r2
  obtain rfl : args = #[v0, v1, v2] := by cases args; simp_all
  obtain ⟨a, rfl⟩ := okWide_int Try.underlying3 (hval 0 3 v0 rfl rfl)
  obtain ⟨b, rfl⟩ := okWide_int Try.underlying3 (hval 1 3 v1 rfl rfl)
  obtain ⟨cs, n, rfl, ht⟩ := R.open_whole Try.underlying37 (hval 2 37 v2 rfl rfl) h2
  obtain ⟨x, hx, _, _⟩ := ent_cells ht (fun q hq => hlt q (List.mem_append_right _ (List.mem_append_right _ (List.mem_append_left _ hq)))) (R.light_of (j := 2) hsz rfl rfl)
  obtain rfl : cs = x.cs := Array.ext' hx
  exact (arefuses_calls W a b x).mono fun e w' h => ⟨h.1, h.2.below (Nat.le_refl _) (fun _ h => h.elim)⟩
end Go.Proofs.Ytnbllckmeehhjaa.A
