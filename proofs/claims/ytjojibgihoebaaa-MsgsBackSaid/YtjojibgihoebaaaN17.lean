/-
  MsgsBack.
-/
import Derived.Test.YtjojibgihoebaaaN16
namespace Go.Proofs.Ytjojibgihoebaaa.A
open Go.RowKit Go.Proofs.Ytjojibgihoebaaa.U
set_option linter.unusedVariables false
set_option linter.unusedSimpArgs false
set_option maxRecDepth 100000

set_option maxHeartbeats 12800000 in
theorem mback_calls (w : World) (m : Msg) (A : Option Addr) (c : Nat) (s : ByteArray) (hs : U.Src w A 7 m.es.length (ents m.es)) (hm : MIn m) (hl : m.es.length ≤ 4611686018427387904) (hsz : s.size ≤ 9223372036854775807) :
    Calls Try.prog 14 #[mval m A c, .string s] w (fun e w' => e = .returned (.bool true) ∧ Keep Nothing w w') := by
  have hu := Try.underlying79
  have hi79 : (Try.prog.info? 79).map (·.size) = some 20 := by kernel_rfl
  have hb : ∀ w', Below w.heap.size w w' → Keep Nothing w w' := fun w' h => Keep.of_below h _
  have H0 := Lib.hid (Holds.newBlk (Holds.start w) none_stable 79 (mcs m A c))
  have X0 := Lib.hid (blk_atM H0.out)
  have HS := Lib.hid hs
  have ED := Lib.hid (fun W => mdec_calls W s hsz)
  unfold DecPost at ED
  have E1 := Lib.hid (fun W (hk : Keep Nothing w W) => menc_calls W m A c (src_kept hs hk) hm)
  clear hs
  cases hmo : msgOk m with
  | false =>
    rw [hmo] at E1
    clear hmo
    go_enter Try.func14, Try.ntmps14
    go_wp2_with (refine wpList_load_row (by rfl) 79 (.tmp 2) (by rfl) w.heap.size (by rfl) 79 (mcs m A c) (0, 0) _ X0.out hu rfl hi79 ?_)
    refine (E1.out _ (hb _ H0.out.below)).mono ?_
    rintro e w1 ⟨rfl, hk1⟩
    have HP := Lib.hid (H0.out.kept (by repeat (first | exact none_stable | exact wrP_stable _ _ | exact blkP_stable _ _ _ | exact rowP_stable _ _ _ _ _ | apply Stable.star)) hk1)
    rw [show okE false = 1 from rfl]
    clear hk1
    go_wp2_with fail
    refine (ED.out _).mono ?_
    rintro e wt ⟨A9, c9, rfl, hs9, hl9, hk9⟩
    have S9 := Lib.hid hs9
    have Z9 := Lib.hid (Blk.fresh wt 79 zm)
    have H9 := Lib.hid (held_row (Holds.newBlk (HP.out.kept (by repeat (first | exact none_stable | exact wrP_stable _ _ | exact blkP_stable _ _ _ | exact rowP_stable _ _ _ _ _ | apply Stable.star)) hk9) (by repeat (first | exact none_stable | exact wrP_stable _ _ | exact blkP_stable _ _ _ | exact rowP_stable _ _ _ _ _ | apply Stable.star)) 79 zm) (by repeat (first | exact none_stable | exact wrP_stable _ _ | exact blkP_stable _ _ _ | exact rowP_stable _ _ _ _ _ | apply Stable.star)) (mcs (mR s) A9 c9))
    have B9 := Lib.hid (blk_atM H9.out)
    have KC := Lib.hid (((Keep.same Nothing wt).alloc (.cells zm 79)).setRow (S := Nothing) (g := wt.heap.size) (.inr (Nat.le_refl _)) (mcs (mR s) A9 c9))
    have E3 := Lib.hid (fun (W : World) (hk : Keep Nothing wt W) => same49 W (mR s) zeroM A9 none c9 0 (src_kept S9.out hk) ⟨by simp [zeroM, ents], fun h0 => absurd h0 (by simp [zeroM])⟩ (by omega))
    have E4 := Lib.hid (fun (W : World) (hk : Keep Nothing wt W) (hin : MIn (mR s)) => menc_calls W (mR s) A9 c9 (src_kept S9.out hk) hin)
    clear hs9 hk9
    cases hok : mOk s with
    | false =>
      rw [show okF false = 2 from rfl]
      have hE := eqM_same zeroM
      have E3' := Lib.hid (show ∀ (W : World) (hk : Keep Nothing wt W), Calls Try.prog 49 #[.agg (mcs (mR s) A9 c9), .agg zm] W (fun e w' => e = .returned (.bool true) ∧ Keep Nothing W w') from fun W hk => by
        have h := E3.out W hk
        rw [show eqM (mR s) zeroM = true by rw [mR_no hok]; exact hE] at h
        exact h)
      clear hok hE
      go_wp2_with (first | refine wpList_store_row (by rfl) 79 (.tmp 9) (.tmp 36) (by rfl) wt.heap.size (mcs (mR s) A9 c9) (by rfl) (by rfl) 79 zm Z9.out hi79 rfl (mcs_one (mR s) A9 c9) ?_ | refine wpList_load_row (by rfl) 79 (.tmp 9) (by rfl) wt.heap.size (by rfl) 79 (mcs (mR s) A9 c9) (0, 0) _ B9.out hu rfl hi79 ?_)
      refine (E3'.out _ KC.out).mono ?_
      rintro e wu ⟨rfl, hku⟩
      have HU := Lib.hid (H9.out.kept (by repeat (first | exact none_stable | exact wrP_stable _ _ | exact blkP_stable _ _ _ | exact rowP_stable _ _ _ _ _ | apply Stable.star)) hku)
      clear hku
      go_wp2_with fail
      refine (mawake_calls _).mono ?_
      rintro e wv ⟨rfl, hkv⟩
      have HV := Lib.hid (HU.out.kept (by repeat (first | exact none_stable | exact wrP_stable _ _ | exact blkP_stable _ _ _ | exact rowP_stable _ _ _ _ _ | apply Stable.star)) hkv)
      clear hkv
      go_wp2_with fail
      go_ret
      exact ⟨by simp, hb _ HV.out.below⟩
    | true =>
      rw [show okF true = 0 from rfl]
      have hd := menc_dec hok
      have E4' := Lib.hid (show ∀ (W : World) (hk : Keep Nothing wt W), Calls Try.prog 44 #[.agg (mcs (mR s) A9 c9)] W (fun e w' => e = .returned (.tuple #[.string s, .int .i64 0]) ∧ Keep Nothing W w') from fun W hk => by
        have h := E4.out W hk (by rw [mR_ok hok]; exact hd.2.2)
        rw [show msgOk (mR s) = true by rw [mR_ok hok]; exact hd.1, show msgS (mR s) = s by rw [mR_ok hok]; exact hd.2.1] at h
        exact h)
      clear hok hd
      go_wp2_with (first | refine wpList_store_row (by rfl) 79 (.tmp 9) (.tmp 36) (by rfl) wt.heap.size (mcs (mR s) A9 c9) (by rfl) (by rfl) 79 zm Z9.out hi79 rfl (mcs_one (mR s) A9 c9) ?_ | refine wpList_load_row (by rfl) 79 (.tmp 9) (by rfl) wt.heap.size (by rfl) 79 (mcs (mR s) A9 c9) (0, 0) _ B9.out hu rfl hi79 ?_)
      refine (E4'.out _ KC.out).mono ?_
      rintro e wu ⟨rfl, hku⟩
      have HU := Lib.hid (H9.out.kept (by repeat (first | exact none_stable | exact wrP_stable _ _ | exact blkP_stable _ _ _ | exact rowP_stable _ _ _ _ _ | apply Stable.star)) hku)
      clear hku
      go_wp2_with fail
      refine (mawake_calls _).mono ?_
      rintro e wv ⟨rfl, hkv⟩
      have HV := Lib.hid (HU.out.kept (by repeat (first | exact none_stable | exact wrP_stable _ _ | exact blkP_stable _ _ _ | exact rowP_stable _ _ _ _ _ | apply Stable.star)) hkv)
      clear hkv
      go_wp2_with fail
      go_ret
      exact ⟨by simp, hb _ HV.out.below⟩
  | true =>
    have hS : (msgS m).size ≤ 9223372036854775807 := by
      have h := hmo
      unfold msgOk at h
      simp only [Bool.and_eq_true, decide_eq_true_eq] at h
      unfold msgS
      rw [if_pos hmo, ofL_size]
      omega
    have E2 := Lib.hid (show ∀ W, Calls Try.prog 47 #[.string (msgS m)] W (fun e w' => ∃ A c, e = .returned (.tuple #[.agg (mcs m A c), .int .i64 0]) ∧ U.Src w' A 7 m.es.length (ents m.es) ∧ Keep Nothing W w') from fun W => by
      have h := mdec_calls W (msgS m) hS
      have h2 := mdec_enc hm hmo
      unfold DecPost at h
      rw [h2.2, h2.1] at h
      exact h.mono fun e w' ⟨A, c, he, h1, _, hk⟩ => ⟨A, c, he, h1, hk⟩)
    rw [hmo] at E1
    clear hmo hS
    go_enter Try.func14, Try.ntmps14
    go_wp2_with (refine wpList_load_row (by rfl) 79 (.tmp 2) (by rfl) w.heap.size (by rfl) 79 (mcs m A c) (0, 0) _ X0.out hu rfl hi79 ?_)
    refine (E1.out _ (hb _ H0.out.below)).mono ?_
    rintro e w1 ⟨rfl, hk1⟩
    have H1 := Lib.hid (H0.out.kept (by repeat (first | exact none_stable | exact wrP_stable _ _ | exact blkP_stable _ _ _ | exact rowP_stable _ _ _ _ _ | apply Stable.star)) hk1)
    rw [show okE true = 0 from rfl]
    clear hk1
    go_wp2_with fail
    refine (E2.out _).mono ?_
    rintro e w2 ⟨A2, c2, rfl, hs2, hk2⟩
    have S2 := Lib.hid hs2
    have Z2 := Lib.hid (Blk.fresh w2 79 zm)
    have H2 := Lib.hid (held_row (Holds.newBlk (H1.out.kept (by repeat (first | exact none_stable | exact wrP_stable _ _ | exact blkP_stable _ _ _ | exact rowP_stable _ _ _ _ _ | apply Stable.star)) hk2) (by repeat (first | exact none_stable | exact wrP_stable _ _ | exact blkP_stable _ _ _ | exact rowP_stable _ _ _ _ _ | apply Stable.star)) 79 zm) (by repeat (first | exact none_stable | exact wrP_stable _ _ | exact blkP_stable _ _ _ | exact rowP_stable _ _ _ _ _ | apply Stable.star)) (mcs m A2 c2))
    have B2 := Lib.hid (blk_atM H2.out)
    have B2' := Lib.hid (blk_atM (Holds.second H2.out))
    have KC2 := Lib.hid (((Keep.same Nothing w2).alloc (.cells zm 79)).setRow (S := Nothing) (g := w2.heap.size) (.inr (Nat.le_refl _)) (mcs m A2 c2))
    have E5 := Lib.hid (show ∀ (W : World) (h0 : Keep Nothing w W) (hk : Keep Nothing w2 W), Calls Try.prog 49 #[.agg (mcs m A c), .agg (mcs m A2 c2)] W (fun e w' => e = .returned (.bool true) ∧ Keep Nothing W w') from fun W h0 hk => by
      have h := same49 W m m A A2 c c2 (src_kept HS.out h0) (src_kept S2.out hk) hl
      rw [eqM_same] at h
      exact h)
    clear hs2 hk2
    go_wp2_with (first | refine wpList_store_row (by rfl) 79 (.tmp 7) (.tmp 23) (by rfl) w2.heap.size (mcs m A2 c2) (by rfl) (by rfl) 79 zm Z2.out hi79 rfl (mcs_one m A2 c2) ?_ | refine wpList_load_guarded 79 (by rfl) (.tmp 2) (by rfl) w.heap.size (by rfl) 79 (mcs m A c) (0, 0) _ B2'.out hu rfl hi79 ?_ | refine wpList_load_guarded 79 (by rfl) (.tmp 7) (by rfl) w2.heap.size (by rfl) 79 (mcs m A2 c2) (0, 0) _ B2.out hu rfl hi79 ?_)
    refine (E5.out _ (hb _ H2.out.below) KC2.out).mono ?_
    rintro e w3 ⟨rfl, hk3⟩
    have HP := Lib.hid (H2.out.kept (by repeat (first | exact none_stable | exact wrP_stable _ _ | exact blkP_stable _ _ _ | exact rowP_stable _ _ _ _ _ | apply Stable.star)) hk3)
    clear hk3
    go_wp2_with fail
    refine (ED.out _).mono ?_
    rintro e wt ⟨A9, c9, rfl, hs9, hl9, hk9⟩
    have S9 := Lib.hid hs9
    have Z9 := Lib.hid (Blk.fresh wt 79 zm)
    have H9 := Lib.hid (held_row (Holds.newBlk (HP.out.kept (by repeat (first | exact none_stable | exact wrP_stable _ _ | exact blkP_stable _ _ _ | exact rowP_stable _ _ _ _ _ | apply Stable.star)) hk9) (by repeat (first | exact none_stable | exact wrP_stable _ _ | exact blkP_stable _ _ _ | exact rowP_stable _ _ _ _ _ | apply Stable.star)) 79 zm) (by repeat (first | exact none_stable | exact wrP_stable _ _ | exact blkP_stable _ _ _ | exact rowP_stable _ _ _ _ _ | apply Stable.star)) (mcs (mR s) A9 c9))
    have B9 := Lib.hid (blk_atM H9.out)
    have KC := Lib.hid (((Keep.same Nothing wt).alloc (.cells zm 79)).setRow (S := Nothing) (g := wt.heap.size) (.inr (Nat.le_refl _)) (mcs (mR s) A9 c9))
    have E3 := Lib.hid (fun (W : World) (hk : Keep Nothing wt W) => same49 W (mR s) zeroM A9 none c9 0 (src_kept S9.out hk) ⟨by simp [zeroM, ents], fun h0 => absurd h0 (by simp [zeroM])⟩ (by omega))
    have E4 := Lib.hid (fun (W : World) (hk : Keep Nothing wt W) (hin : MIn (mR s)) => menc_calls W (mR s) A9 c9 (src_kept S9.out hk) hin)
    clear hs9 hk9
    cases hok : mOk s with
    | false =>
      rw [show okF false = 2 from rfl]
      have hE := eqM_same zeroM
      have E3' := Lib.hid (show ∀ (W : World) (hk : Keep Nothing wt W), Calls Try.prog 49 #[.agg (mcs (mR s) A9 c9), .agg zm] W (fun e w' => e = .returned (.bool true) ∧ Keep Nothing W w') from fun W hk => by
        have h := E3.out W hk
        rw [show eqM (mR s) zeroM = true by rw [mR_no hok]; exact hE] at h
        exact h)
      clear hok hE
      go_wp2_with (first | refine wpList_store_row (by rfl) 79 (.tmp 9) (.tmp 36) (by rfl) wt.heap.size (mcs (mR s) A9 c9) (by rfl) (by rfl) 79 zm Z9.out hi79 rfl (mcs_one (mR s) A9 c9) ?_ | refine wpList_load_row (by rfl) 79 (.tmp 9) (by rfl) wt.heap.size (by rfl) 79 (mcs (mR s) A9 c9) (0, 0) _ B9.out hu rfl hi79 ?_)
      refine (E3'.out _ KC.out).mono ?_
      rintro e wu ⟨rfl, hku⟩
      have HU := Lib.hid (H9.out.kept (by repeat (first | exact none_stable | exact wrP_stable _ _ | exact blkP_stable _ _ _ | exact rowP_stable _ _ _ _ _ | apply Stable.star)) hku)
      clear hku
      go_wp2_with fail
      refine (mawake_calls _).mono ?_
      rintro e wv ⟨rfl, hkv⟩
      have HV := Lib.hid (HU.out.kept (by repeat (first | exact none_stable | exact wrP_stable _ _ | exact blkP_stable _ _ _ | exact rowP_stable _ _ _ _ _ | apply Stable.star)) hkv)
      clear hkv
      go_wp2_with fail
      go_ret
      exact ⟨by simp, hb _ HV.out.below⟩
    | true =>
      rw [show okF true = 0 from rfl]
      have hd := menc_dec hok
      have E4' := Lib.hid (show ∀ (W : World) (hk : Keep Nothing wt W), Calls Try.prog 44 #[.agg (mcs (mR s) A9 c9)] W (fun e w' => e = .returned (.tuple #[.string s, .int .i64 0]) ∧ Keep Nothing W w') from fun W hk => by
        have h := E4.out W hk (by rw [mR_ok hok]; exact hd.2.2)
        rw [show msgOk (mR s) = true by rw [mR_ok hok]; exact hd.1, show msgS (mR s) = s by rw [mR_ok hok]; exact hd.2.1] at h
        exact h)
      clear hok hd
      go_wp2_with (first | refine wpList_store_row (by rfl) 79 (.tmp 9) (.tmp 36) (by rfl) wt.heap.size (mcs (mR s) A9 c9) (by rfl) (by rfl) 79 zm Z9.out hi79 rfl (mcs_one (mR s) A9 c9) ?_ | refine wpList_load_row (by rfl) 79 (.tmp 9) (by rfl) wt.heap.size (by rfl) 79 (mcs (mR s) A9 c9) (0, 0) _ B9.out hu rfl hi79 ?_)
      refine (E4'.out _ KC.out).mono ?_
      rintro e wu ⟨rfl, hku⟩
      have HU := Lib.hid (H9.out.kept (by repeat (first | exact none_stable | exact wrP_stable _ _ | exact blkP_stable _ _ _ | exact rowP_stable _ _ _ _ _ | apply Stable.star)) hku)
      clear hku
      go_wp2_with fail
      refine (mawake_calls _).mono ?_
      rintro e wv ⟨rfl, hkv⟩
      have HV := Lib.hid (HU.out.kept (by repeat (first | exact none_stable | exact wrP_stable _ _ | exact blkP_stable _ _ _ | exact rowP_stable _ _ _ _ _ | apply Stable.star)) hkv)
      clear hkv
      go_wp2_with fail
      go_ret
      exact ⟨by simp, hb _ HV.out.below⟩
open Go.ChangeShapes Go.WideShapes Go.ChangeAt in
theorem mback_law : R.Law 14 Try.f14 R.any := by
  intro H enc W base args ds p hval hA hsz _ hlt
  rw [Try.params14] at hA hval hsz
  obtain ⟨v0, vs0, d0, ds0, p0, q0, hargs, rfl, rfl, h0, r0⟩ := trodAll_cons hA
  obtain ⟨v1, vs1, d1, ds1, p1, q1, rfl, rfl, rfl, h1, r1⟩ := trodAll_cons r0
  obtain ⟨rfl, rfl, rfl⟩ := trodAll_nil r1
  obtain rfl : args = #[v0, v1] := by cases args; simp_all
  obtain ⟨m, A, c, rfl, e1, e2, e3⟩ := open_msg (hval 0 79 v0 rfl rfl) h0 (fun q hq => hlt q (List.mem_append_left _ hq)) (R.light_of (j := 0) hsz rfl rfl)
  obtain ⟨s, rfl⟩ := okWide_string Try.underlying9 (hval 1 9 v1 rfl rfl)
  exact (mback_calls W m A c s e3 e1 e2 (string_size h1)).mono fun e w' h => ⟨h.1, h.2.below (Nat.le_refl _) (fun _ h => h.elim)⟩
end Go.Proofs.Ytjojibgihoebaaa.A
