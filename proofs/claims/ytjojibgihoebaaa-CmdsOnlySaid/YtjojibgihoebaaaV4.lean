/-
  CmdsOnly: two commands that are not the same have not the same bytes.
-/
import Derived.Test.YtjojibgihoebaaaV3
namespace Go.Proofs.Ytjojibgihoebaaa.A
open Go.RowKit Go.Proofs.Ytjojibgihoebaaa.U
set_option linter.unusedVariables false
set_option linter.unusedSimpArgs false
set_option maxRecDepth 100000

theorem enc_same {a b : Cmd} (ha : In64 a) (hb : In64 b) (ma : mayB a = true) (mb : mayB b = true) : ((encS a).toList == (encS b).toList) = eqC a b := by
  rw [toList_iff]
  by_cases h : a = b
  · subst h; rw [eqC_same]; simp
  · have h1 : eqC a b = false := by
      cases he : eqC a b
      · rfl
      · exact absurd (eqC_iff.1 he) h
    rw [h1, decide_eq_false]
    intro e
    exact h (encS_inj ha hb ma mb e)
set_option maxHeartbeats 6400000 in
theorem conly_calls (w : World) (a b : Cmd) (ha : In64 a) (hb : In64 b) : Calls Try.prog 9 #[a.val, b.val] w (fun e w' => e = .returned (.bool true) ∧ Keep Nothing w w') := by
  have hu := Try.underlying52
  have SN := Lib.hid none_stable
  have SB := Lib.hid blkP_stable
  have HA := Lib.hid (fun w => enc_calls w a ha)
  have HB := Lib.hid (fun w => enc_calls w b hb)
  have HQ := Lib.hid (fun w => eql52 w a b)
  have HE := Lib.hid (fun ma mb => enc_same ha hb ma mb)
  have H1 := Lib.hid (Holds.newBlk ((Holds.start w).newBlk none_stable 52 a.cs) ((blkP_stable _ _ _).star none_stable) 52 b.cs)
  rw [show (w.alloc (.cells a.cs 52)).heap.size = w.heap.size + 1 by simp] at H1
  generalize encS a = sa at *
  generalize encS b = sb at *
  generalize eqC a b = r at *
  generalize hma : mayB a = ma at *
  generalize hmb : mayB b = mb at *
  clear ha hb hma hmb
  unfold Cmd.val Cmd.cs at HA HB ⊢
  unfold Cmd.cs at HQ H1
  cases ma with
  | false =>
    have o1 : okE false = 1 := rfl
    rw [o1] at HA
    clear o1
    go_enter Try.func9, Try.ntmps9
    go_wp2_with fail
    refine (HA.out _).mono ?_
    rintro e w1 ⟨rfl, hk⟩
    have H2 := Lib.hid (H1.out.kept ((SB.out _ _ _).star ((SB.out _ _ _).star SN.out)) hk)
    have c0 := (blk_at H2.out).cell 0
    have c1 := (blk_at H2.out).cell 1
    have c2 := (blk_at H2.out).cell 2
    have c3 := (blk_at H2.out).cell 3
    have c4 := (blk_at H2.out).cell 4
    clear hk
    go_wp2_with fail
    refine (HB.out _).mono ?_
    rintro e w2 ⟨rfl, hk⟩
    have H3 := Lib.hid (H2.out.kept ((SB.out _ _ _).star ((SB.out _ _ _).star SN.out)) hk)
    clear hk c0 c1 c2 c3 c4
    generalize okE mb = ob
    go_wp2_with fail
    refine (cawake_calls _).mono ?_
    rintro e w3 ⟨rfl, hk⟩
    have H4 := Lib.hid (H3.out.kept ((SB.out _ _ _).star ((SB.out _ _ _).star SN.out)) hk)
    clear hk
    go_wp2_with fail
    go_ret
    exact ⟨rfl, Keep.of_below H4.out.below _⟩
  | true =>
    have o1 : okE true = 0 := rfl
    rw [o1] at HA
    clear o1
    cases mb with
    | false =>
      have o1 : okE false = 1 := rfl
      rw [o1] at HB
      clear o1
      go_enter Try.func9, Try.ntmps9
      go_wp2_with fail
      refine (HA.out _).mono ?_
      rintro e w1 ⟨rfl, hk⟩
      have H2 := Lib.hid (H1.out.kept ((SB.out _ _ _).star ((SB.out _ _ _).star SN.out)) hk)
      have c0 := (blk_at H2.out).cell 0
      have c1 := (blk_at H2.out).cell 1
      have c2 := (blk_at H2.out).cell 2
      have c3 := (blk_at H2.out).cell 3
      have c4 := (blk_at H2.out).cell 4
      clear hk
      go_wp2_with fail
      refine (HB.out _).mono ?_
      rintro e w2 ⟨rfl, hk⟩
      have H3 := Lib.hid (H2.out.kept ((SB.out _ _ _).star ((SB.out _ _ _).star SN.out)) hk)
      clear hk c0 c1 c2 c3 c4
      go_wp2_with fail
      refine (cawake_calls _).mono ?_
      rintro e w3 ⟨rfl, hk⟩
      have H4 := Lib.hid (H3.out.kept ((SB.out _ _ _).star ((SB.out _ _ _).star SN.out)) hk)
      clear hk
      go_wp2_with fail
      go_ret
      exact ⟨rfl, Keep.of_below H4.out.below _⟩
    | true =>
      have o1 : okE true = 0 := rfl
      rw [o1] at HB
      clear o1
      go_enter Try.func9, Try.ntmps9
      go_wp2_with fail
      refine (HA.out _).mono ?_
      rintro e w1 ⟨rfl, hk⟩
      have H2 := Lib.hid (H1.out.kept ((SB.out _ _ _).star ((SB.out _ _ _).star SN.out)) hk)
      have c0 := (blk_at H2.out).cell 0
      have c1 := (blk_at H2.out).cell 1
      have c2 := (blk_at H2.out).cell 2
      have c3 := (blk_at H2.out).cell 3
      have c4 := (blk_at H2.out).cell 4
      clear hk
      go_wp2_with fail
      refine (HB.out _).mono ?_
      rintro e w2 ⟨rfl, hk⟩
      have H3 := Lib.hid (H2.out.kept ((SB.out _ _ _).star ((SB.out _ _ _).star SN.out)) hk)
      clear hk c0 c1 c2 c3 c4
      have c0 := (blk_at H3.out).cell 0
      have c1 := (blk_at H3.out).cell 1
      have c2 := (blk_at H3.out).cell 2
      have c3 := (blk_at H3.out).cell 3
      have c4 := (blk_at H3.out).cell 4
      have d0 := (blk_at H3.out.drop).cell 0
      have d1 := (blk_at H3.out.drop).cell 1
      have d2 := (blk_at H3.out.drop).cell 2
      have d3 := (blk_at H3.out.drop).cell 3
      have d4 := (blk_at H3.out.drop).cell 4
      have hq := HQ.out
      have he := HE.out (by first | rfl | trivial) (by first | rfl | trivial)
      go_wp2_with fail
      refine (cawake_calls _).mono ?_
      rintro e w3 ⟨rfl, hk⟩
      have H4 := Lib.hid (H3.out.kept ((SB.out _ _ _).star ((SB.out _ _ _).star SN.out)) hk)
      clear hk
      go_wp2_with fail
      go_ret
      exact ⟨rfl, Keep.of_below H4.out.below _⟩
open Go.ChangeShapes Go.WideShapes Go.ChangeAt in
theorem conly_law : R.Law 9 Try.f9 R.any := by
  intro H enc W base args ds p hval hA hsz _ hlt
  rw [Try.params9] at hA hval
  obtain ⟨v0, vs0, d0, ds0, p0, q0, hargs, rfl, rfl, h0, r0⟩ := trodAll_cons hA
  obtain ⟨v1, vs1, d1, ds1, p1, q1, rfl, rfl, rfl, h1, r1⟩ := trodAll_cons r0
  obtain ⟨rfl, rfl, rfl⟩ := trodAll_nil r1
  obtain rfl : args = #[v0, v1] := by cases args; simp_all
  obtain ⟨cs, n, rfl, ht⟩ := R.open_whole Try.underlying52 (hval 0 52 v0 rfl rfl) h0
  obtain ⟨cs', n', rfl, ht'⟩ := R.open_whole Try.underlying52 (hval 1 52 v1 rfl rfl) h1
  obtain ⟨a, ha, a64, _⟩ := cmd_cells ht
  obtain ⟨b, hb, b64, _⟩ := cmd_cells ht'
  obtain rfl : cs = a.cs := Array.ext' ha
  obtain rfl : cs' = b.cs := Array.ext' hb
  exact (conly_calls W a b a64 b64).mono fun e w' h => ⟨h.1, h.2.below (Nat.le_refl _) (fun _ h => h.elim)⟩
end Go.Proofs.Ytjojibgihoebaaa.A
