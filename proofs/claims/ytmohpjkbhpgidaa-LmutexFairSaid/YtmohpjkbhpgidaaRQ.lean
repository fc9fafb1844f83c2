/-
  LmutexFair.
-/
import Derived.Test.YtmohpjkbhpgidaaRO
import Derived.Deep.RegionHeld3
namespace Go.Proofs.Ytmohpjkbhpgidaa.A
open Go.RowKit Go.Proofs.Ytmohpjkbhpgidaa.U
set_option linter.unusedVariables false
set_option linter.unusedSimpArgs false
set_option maxRecDepth 100000

set_option maxHeartbeats 12800000 in
theorem rwfair_calls (w : World) (A : Option Addr) (len cap : Nat) (l : List LDeed) (hA : R.Args w w.heap.size A len 3 LDeed.cells l) (hlen : len ≤ cap) (hcap : cap ≤ maxLen) :
    Calls Try.prog 5 #[.slice A len cap] w (fun e w' => e = .returned (.bool true) ∧ Keep Nothing w w') := by
  have HA := Lib.hid hA
  have hu31 := Try.underlying31
  have hb : ∀ w', Below w.heap.size w w' → Keep Nothing w w' := fun w' h => Keep.of_below h _
  have H0 := Lib.hid (Holds.start w)
  have SM := Lib.hid rwP_stable
  have SR := Lib.hid rowP_stable
  have SN := Lib.hid none_stable
  have hmax : maxLen = 9223372036854775807 := by rfl
  clear hA
  go_enter Try.func5, Try.ntmps5
  go_wp2_with fail
  refine (rwnew_calls _).mono ?_
  rintro e w1 ⟨rfl, hw1⟩
  have H1 := Lib.hid (show Holds w.heap.size w w1 (star (rwP w.heap.size [] false []) none_) by rw [hw1]; exact Holds.newRW H0.out none_stable)
  clear hw1
  go_wp2_with fail
  generalize hg1 : w.heap.size = b1 at *
  clear hg1
  go_loopw [4] (fun v wr => ∃ (k : Nat) (W : List Int) (wb : Bool) (L : List Wt), k ≤ 200 ∧ v = .int .i64 k ∧ W.length + L.length ≤ k ∧ Good W L ∧ Fair W wb L ∧ Holds b1 w wr (star (rwP b1 W wb L) none_)) (fun v _ => 200 - (intOf v).toNat)
  case atStart => exact ⟨0, [], false, [], by omega, by simp, by simp, good_nil, ⟨fun h => (by cases h), fun _ => rfl⟩, H1.out⟩
  case round =>
    obtain ⟨k, W, wb, L, hk, rfl, hL, hgd, hfa, hh⟩ := hrel
    have H := Lib.hid hh
    have GD := Lib.hid hgd
    have FA := Lib.hid hfa
    clear hh hgd hfa
    by_cases hin : k < len ∧ k < 200
    · obtain ⟨hkl, hk3⟩ := hin
      obtain ⟨ad, x, rfl, hat⟩ := ldeed_all HA.out hkl
      have CC := Lib.hid hat
      clear hat
      have HQ := Lib.hid (x_rwqueue H.out (by omega))
      go_wp2_with fail
      refine HQ.out.mono ?_
      rintro e w3 ⟨A3, c3, rfl, _, hk3', _⟩
      have H3 := Lib.hid (H.out.kept ((SM.out _ _ _ _).star SN.out) hk3')
      clear hk3'
      obtain ⟨c0, c1, c2⟩ := CC.out _ H3.out.below
      cases hxu : x.u with
      | true =>
        rw [hxu] at c1
        obtain ⟨ra, r2, W', wb', L', hE⟩ : ∃ ra r2 W' wb' L', rwUnlock W wb L x.t x.r = (ra, r2, W', wb', L') := ⟨_, _, _, _, _, rfl⟩
        have hlen2 := unlock_total W wb L x.t x.r
        have hx := x_rwunlock (H3.out.kept ((SM.out _ _ _ _).star SN.out) ((Keep.same Nothing w3).drew)) SN.out (by omega) (by omega) GD.out x.t x.r
        have hy := good_unlock (wb := wb) GD.out x.t x.r
        have hz := fair_unlock FA.out x.t x.r
        rw [hE] at hlen2 hy hz hx
        dsimp only at hlen2 hy hz
        have HX := Lib.hid hx
        have GD' := Lib.hid hy
        have FA' := Lib.hid hz
        clear hx hE hy hz
        go_wp2_with fail
        refine region_tail 11 (by kernel_rfl) (by kernel_rfl) ?_
        simp only [List.take_succ_cons, List.take_zero, List.drop_succ_cons, List.drop_zero]
        repeat still_step
        refine wpStill_nil ?_
        go_wp2_with fail
        refine HX.out.mono ?_
        rintro e w4 ⟨A4, c4, rfl, h4⟩
        dsimp only at h4
        have H4 := Lib.hid h4.drop
        clear h4 c0 c1 c2
        have OUT := Lib.hid (fun (wr : World) (hh : Holds b1 w wr (star (rwP b1 W' wb' L') none_)) => (show ∃ (k' : Nat) (W : List Int) (wb : Bool) (L : List Wt), k' ≤ 200 ∧ Value.int .i64 ((k : Int) + 1) = .int .i64 k' ∧ W.length + L.length ≤ k' ∧ Good W L ∧ Fair W wb L ∧ Holds b1 w wr (star (rwP b1 W wb L) none_) from ⟨k + 1, W', wb', L', by omega, by simp, by omega, GD'.out, FA'.out, hh⟩))
        have TH := Lib.hid (x_holders H4.out (by omega))
        have hL1 : L'.length ≤ 1000000 := by omega
        clear hlen2
        go_wp2_with fail
        refine TH.out.mono ?_
        rintro e w5 ⟨A5, c5, rfl, _, hk5, _⟩
        have H5 := Lib.hid (H4.out.kept ((SM.out _ _ _ _).star SN.out) hk5)
        clear hk5 TH
        have TQ := Lib.hid (x_rwqueue H5.out hL1)
        obtain ⟨n, hn⟩ : ∃ n, W'.length = n := ⟨_, rfl⟩
        have EW : W'.isEmpty = decide (n = 0) := by rw [← hn]; cases W' <;> simp
        have hf1 : wb' = true → n ≤ 1 := fun h => by rw [← hn]; exact FA'.out.1 h
        have hf2 : n = 0 → L'.length = 0 := fun h => by rw [FA'.out.2 (List.eq_nil_of_length_eq_zero (by omega))]; rfl
        rw [hn, EW]
        clear hn EW
        rcases (show (n = 0 ∧ L'.length = 0) ∨ (wb' = false ∧ 0 < n) ∨ (wb' = true ∧ n = 1) by
          by_cases h0 : n = 0
          · exact .inl ⟨h0, hf2 h0⟩
          · cases wb' with
            | false => exact .inr (.inl ⟨rfl, by omega⟩)
            | true => exact .inr (.inr ⟨rfl, by have := hf1 rfl; omega⟩)) with ⟨hn0, hl0⟩ | ⟨hwb, hn0⟩ | ⟨hwb, hn0⟩
        · subst hn0
          clear hf1 hf2
          have HL0 := Lib.hid hl0
          clear hl0
          have hwf : (wb' && !decide (0 = 0)) = false := by simp
          go_wp2_with fail
          refine TQ.out.mono ?_
          rintro e w6 ⟨A6, c6, rfl, _, hk6, _⟩
          rw [HL0.out]
          have K6 := Lib.hid hk6
          clear hk6
          go_wp2_with fail
          go_roundw
          case rel => exact OUT.out _ (H5.out.kept ((SM.out _ _ _ _).star SN.out) K6.out)
          case measure => simp [intOf]; omega
        · subst hwb
          clear hf1 hf2
          have hn1 : (n == 0) = false := by rw [beq_eq_false_iff_ne]; omega
          go_wp2_with fail
          go_roundw
          case rel => exact OUT.out _ H5.out
          case measure => simp [intOf]; omega
        · subst hwb hn0
          clear hf1 hf2
          go_wp2_with fail
          go_roundw
          case rel => exact OUT.out _ H5.out
          case measure => simp [intOf]; omega
      | false =>
        rw [hxu] at c1
        obtain ⟨r1, r2, W', wb', L', hE⟩ : ∃ r1 r2 W' wb' L', rwLock W wb L x.t x.r = (r1, r2, W', wb', L') := ⟨_, _, _, _, _, rfl⟩
        have hlen2 := lock_total W wb L x.t x.r
        have hx := x_rwlock (H3.out.kept ((SM.out _ _ _ _).star SN.out) ((Keep.same Nothing w3).drew)) SN.out (by omega) (by omega) GD.out.1 x.t x.r
        have hy := good_lock (wb := wb) GD.out x.t x.r
        have hz := fair_lock FA.out x.t x.r
        have hg : r1 = false ∨ (r1 = true ∧ L.length = 0) := by
          cases L with
          | nil => cases r1 <;> simp
          | cons y l =>
            have := lock_waits (W := W) (wb := wb) (L := y :: l) (by simp) x.t x.r
            rw [hE] at this
            exact .inl this
        rw [hE] at hlen2 hy hz hx
        dsimp only at hlen2 hy hz hx
        have HX := Lib.hid hx
        have GD' := Lib.hid hy
        have FA' := Lib.hid hz
        clear hx hE hy hz
        go_wp2_with fail
        go_region_held3 (fun w' => w'.cell? (ad.add (k * 3)) = some (.int .i64 x.t) ∧ w'.cell? ⟨(ad.add (k * 3)).block, (ad.add (k * 3)).off + 2, none⟩ = some (.bool x.r)) (first | exact ⟨c0, c2⟩ | exact d4 | go_keep) ((first | (go_at_call 23; refine HX.out.mono ?_; rintro e w4 ⟨rfl, h4⟩; have d4 : w4.cell? (ad.add (k * 3)) = some (.int .i64 x.t) ∧ w4.cell? ⟨(ad.add (k * 3)).block, (ad.add (k * 3)).off + 2, none⟩ = some (.bool x.r) := ⟨(CC.out _ h4.below).1, (CC.out _ h4.below).2.2⟩)))
        have H4 := Lib.hid h4
        clear h4 c0 c1 c2 d4
        rcases (show (r2 == 0) = false ∨ ((r2 == 0) = true ∧ r1 = false) ∨ ((r2 == 0) = true ∧ r1 = true ∧ L.length = 0) by
          cases hr : (r2 == 0) with
          | false => exact .inl rfl
          | true => exact .inr (hg.imp (fun h => ⟨rfl, h⟩) (fun h => ⟨rfl, h⟩))) with h2 | ⟨h2, hr1⟩ | ⟨h2, hr1, hl0⟩
        · clear hg
          have OUT := Lib.hid (fun (wr : World) (hh : Holds b1 w wr (star (rwP b1 W' wb' L') none_)) => (show ∃ (k' : Nat) (W : List Int) (wb : Bool) (L : List Wt), k' ≤ 200 ∧ Value.int .i64 ((k : Int) + 1) = .int .i64 k' ∧ W.length + L.length ≤ k' ∧ Good W L ∧ Fair W wb L ∧ Holds b1 w wr (star (rwP b1 W wb L) none_) from ⟨k + 1, W', wb', L', by omega, by simp, by omega, GD'.out, FA'.out, hh⟩))
          have TH := Lib.hid (x_holders H4.out (by omega))
          have hL1 : L'.length ≤ 1000000 := by omega
          clear hlen2
          go_wp2_with fail
          refine TH.out.mono ?_
          rintro e w5 ⟨A5, c5, rfl, _, hk5, _⟩
          have H5 := Lib.hid (H4.out.kept ((SM.out _ _ _ _).star SN.out) hk5)
          clear hk5 TH
          have TQ := Lib.hid (x_rwqueue H5.out hL1)
          obtain ⟨n, hn⟩ : ∃ n, W'.length = n := ⟨_, rfl⟩
          have EW : W'.isEmpty = decide (n = 0) := by rw [← hn]; cases W' <;> simp
          have hf1 : wb' = true → n ≤ 1 := fun h => by rw [← hn]; exact FA'.out.1 h
          have hf2 : n = 0 → L'.length = 0 := fun h => by rw [FA'.out.2 (List.eq_nil_of_length_eq_zero (by omega))]; rfl
          rw [hn, EW]
          clear hn EW
          rcases (show (n = 0 ∧ L'.length = 0) ∨ (wb' = false ∧ 0 < n) ∨ (wb' = true ∧ n = 1) by
            by_cases h0 : n = 0
            · exact .inl ⟨h0, hf2 h0⟩
            · cases wb' with
              | false => exact .inr (.inl ⟨rfl, by omega⟩)
              | true => exact .inr (.inr ⟨rfl, by have := hf1 rfl; omega⟩)) with ⟨hn0, hl0⟩ | ⟨hwb, hn0⟩ | ⟨hwb, hn0⟩
          · subst hn0
            clear hf1 hf2
            have HL0 := Lib.hid hl0
            clear hl0
            have hwf : (wb' && !decide (0 = 0)) = false := by simp
            go_wp2_with fail
            refine TQ.out.mono ?_
            rintro e w6 ⟨A6, c6, rfl, _, hk6, _⟩
            rw [HL0.out]
            have K6 := Lib.hid hk6
            clear hk6
            go_wp2_with fail
            go_roundw
            case rel => exact OUT.out _ (H5.out.kept ((SM.out _ _ _ _).star SN.out) K6.out)
            case measure => simp [intOf]; omega
          · subst hwb
            clear hf1 hf2
            have hn1 : (n == 0) = false := by rw [beq_eq_false_iff_ne]; omega
            go_wp2_with fail
            go_roundw
            case rel => exact OUT.out _ H5.out
            case measure => simp [intOf]; omega
          · subst hwb hn0
            clear hf1 hf2
            go_wp2_with fail
            go_roundw
            case rel => exact OUT.out _ H5.out
            case measure => simp [intOf]; omega
        · subst hr1
          clear hg
          have OUT := Lib.hid (fun (wr : World) (hh : Holds b1 w wr (star (rwP b1 W' wb' L') none_)) => (show ∃ (k' : Nat) (W : List Int) (wb : Bool) (L : List Wt), k' ≤ 200 ∧ Value.int .i64 ((k : Int) + 1) = .int .i64 k' ∧ W.length + L.length ≤ k' ∧ Good W L ∧ Fair W wb L ∧ Holds b1 w wr (star (rwP b1 W wb L) none_) from ⟨k + 1, W', wb', L', by omega, by simp, by omega, GD'.out, FA'.out, hh⟩))
          have TH := Lib.hid (x_holders H4.out (by omega))
          have hL1 : L'.length ≤ 1000000 := by omega
          clear hlen2
          go_wp2_with fail
          refine TH.out.mono ?_
          rintro e w5 ⟨A5, c5, rfl, _, hk5, _⟩
          have H5 := Lib.hid (H4.out.kept ((SM.out _ _ _ _).star SN.out) hk5)
          clear hk5 TH
          have TQ := Lib.hid (x_rwqueue H5.out hL1)
          obtain ⟨n, hn⟩ : ∃ n, W'.length = n := ⟨_, rfl⟩
          have EW : W'.isEmpty = decide (n = 0) := by rw [← hn]; cases W' <;> simp
          have hf1 : wb' = true → n ≤ 1 := fun h => by rw [← hn]; exact FA'.out.1 h
          have hf2 : n = 0 → L'.length = 0 := fun h => by rw [FA'.out.2 (List.eq_nil_of_length_eq_zero (by omega))]; rfl
          rw [hn, EW]
          clear hn EW
          rcases (show (n = 0 ∧ L'.length = 0) ∨ (wb' = false ∧ 0 < n) ∨ (wb' = true ∧ n = 1) by
            by_cases h0 : n = 0
            · exact .inl ⟨h0, hf2 h0⟩
            · cases wb' with
              | false => exact .inr (.inl ⟨rfl, by omega⟩)
              | true => exact .inr (.inr ⟨rfl, by have := hf1 rfl; omega⟩)) with ⟨hn0, hl0⟩ | ⟨hwb, hn0⟩ | ⟨hwb, hn0⟩
          · subst hn0
            clear hf1 hf2
            have HL0 := Lib.hid hl0
            clear hl0
            have hwf : (wb' && !decide (0 = 0)) = false := by simp
            go_wp2_with fail
            refine TQ.out.mono ?_
            rintro e w6 ⟨A6, c6, rfl, _, hk6, _⟩
            rw [HL0.out]
            have K6 := Lib.hid hk6
            clear hk6
            go_wp2_with fail
            go_roundw
            case rel => exact OUT.out _ (H5.out.kept ((SM.out _ _ _ _).star SN.out) K6.out)
            case measure => simp [intOf]; omega
          · subst hwb
            clear hf1 hf2
            have hn1 : (n == 0) = false := by rw [beq_eq_false_iff_ne]; omega
            go_wp2_with fail
            go_roundw
            case rel => exact OUT.out _ H5.out
            case measure => simp [intOf]; omega
          · subst hwb hn0
            clear hf1 hf2
            go_wp2_with fail
            go_roundw
            case rel => exact OUT.out _ H5.out
            case measure => simp [intOf]; omega
        · subst hr1
          clear hg
          rw [hl0]
          have OUT := Lib.hid (fun (wr : World) (hh : Holds b1 w wr (star (rwP b1 W' wb' L') none_)) => (show ∃ (k' : Nat) (W : List Int) (wb : Bool) (L : List Wt), k' ≤ 200 ∧ Value.int .i64 ((k : Int) + 1) = .int .i64 k' ∧ W.length + L.length ≤ k' ∧ Good W L ∧ Fair W wb L ∧ Holds b1 w wr (star (rwP b1 W wb L) none_) from ⟨k + 1, W', wb', L', by omega, by simp, by omega, GD'.out, FA'.out, hh⟩))
          have TH := Lib.hid (x_holders H4.out (by omega))
          have hL1 : L'.length ≤ 1000000 := by omega
          clear hlen2
          go_wp2_with fail
          refine TH.out.mono ?_
          rintro e w5 ⟨A5, c5, rfl, _, hk5, _⟩
          have H5 := Lib.hid (H4.out.kept ((SM.out _ _ _ _).star SN.out) hk5)
          clear hk5 TH
          have TQ := Lib.hid (x_rwqueue H5.out hL1)
          obtain ⟨n, hn⟩ : ∃ n, W'.length = n := ⟨_, rfl⟩
          have EW : W'.isEmpty = decide (n = 0) := by rw [← hn]; cases W' <;> simp
          have hf1 : wb' = true → n ≤ 1 := fun h => by rw [← hn]; exact FA'.out.1 h
          have hf2 : n = 0 → L'.length = 0 := fun h => by rw [FA'.out.2 (List.eq_nil_of_length_eq_zero (by omega))]; rfl
          rw [hn, EW]
          clear hn EW
          rcases (show (n = 0 ∧ L'.length = 0) ∨ (wb' = false ∧ 0 < n) ∨ (wb' = true ∧ n = 1) by
            by_cases h0 : n = 0
            · exact .inl ⟨h0, hf2 h0⟩
            · cases wb' with
              | false => exact .inr (.inl ⟨rfl, by omega⟩)
              | true => exact .inr (.inr ⟨rfl, by have := hf1 rfl; omega⟩)) with ⟨hn0, hl0⟩ | ⟨hwb, hn0⟩ | ⟨hwb, hn0⟩
          · subst hn0
            clear hf1 hf2
            have HL0 := Lib.hid hl0
            clear hl0
            have hwf : (wb' && !decide (0 = 0)) = false := by simp
            go_wp2_with fail
            refine TQ.out.mono ?_
            rintro e w6 ⟨A6, c6, rfl, _, hk6, _⟩
            rw [HL0.out]
            have K6 := Lib.hid hk6
            clear hk6
            go_wp2_with fail
            go_roundw
            case rel => exact OUT.out _ (H5.out.kept ((SM.out _ _ _ _).star SN.out) K6.out)
            case measure => simp [intOf]; omega
          · subst hwb
            clear hf1 hf2
            have hn1 : (n == 0) = false := by rw [beq_eq_false_iff_ne]; omega
            go_wp2_with fail
            go_roundw
            case rel => exact OUT.out _ H5.out
            case measure => simp [intOf]; omega
          · subst hwb hn0
            clear hf1 hf2
            go_wp2_with fail
            go_roundw
            case rel => exact OUT.out _ H5.out
            case measure => simp [intOf]; omega
    · rcases (show ¬ k < len ∨ (k < len ∧ ¬ k < 200) by omega) with hex | ⟨hex1, hex2⟩
      all_goals go_wp2_with fail
      all_goals refine (awake8 _).mono ?_
      all_goals rintro e w9 ⟨rfl, hk9⟩
      all_goals have K9 := Lib.hid hk9
      all_goals clear hk9
      all_goals go_wp2_with fail
      all_goals go_ret
      all_goals exact ⟨rfl, (hb _ H.out.below).then K9.out⟩
open Go.ChangeShapes Go.WideShapes Go.ChangeAt in
theorem rwfair_law : R.Law 5 Try.f5 R.any := by
  intro H enc W base args ds p hval hA hsz _ hlt
  rw [Try.params5] at hA hval
  obtain ⟨v0, vs0, d0, ds0, p0, q0, hargs, rfl, rfl, h0, r0⟩ := trodAll_cons hA
  obtain ⟨rfl, rfl, rfl⟩ := trodAll_nil r0
  obtain rfl : args = #[v0] := by cases args; simp_all
  obtain ⟨A, len, cap, l, rfl, h1, h2, hl⟩ := open_ldeeds (hval 0 22 v0 rfl rfl) h0 (fun x hx => hlt x (List.mem_append_left _ hx))
  exact (rwfair_calls W A len cap l hl h1 h2).mono fun e w' h => ⟨h.1, h.2.below (Nat.le_refl _) (fun _ h => h.elim)⟩
end Go.Proofs.Ytmohpjkbhpgidaa.A
