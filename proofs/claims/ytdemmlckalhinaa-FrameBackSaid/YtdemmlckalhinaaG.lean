/-
  Texts; awake; FrameSums, FrameReads.
-/
import Derived.Test.YtdemmlckalhinaaF
import Derived.Test.YtdemmlckalhinaaR
namespace Go.Proofs.Ytdemmlckalhinaa.A
open Go.RowKit Go.Proofs.Ytdemmlckalhinaa.U
set_option linter.unusedVariables false
set_option linter.unusedSimpArgs false

theorem str_at {w : World} {A : Option Addr} {L : List ByteArray} {n : Nat} (h : Src w A 1 n (strs L)) {k : Nat} (hk : k < n) :
    ∃ ad, A = some ad ∧ w.cell? (ad.add k) = some (.string (L.getD k ByteArray.empty)) := by
  obtain ⟨ad, u, rfl, hu, hc⟩ := h.at_ hk
  refine ⟨ad, rfl, ?_⟩
  have hl := h.1
  simp only [strs, List.length_map] at hl
  rw [hc, ← hu, List.getElem?_map, List.getD_eq_getElem?_getD, List.getElem?_eq_getElem (by omega)]
  rfl
theorem take_step {L L' : List ByteArray} {k : Nat} (h : L.take k = L'.take k) (h1 : k < L.length) (h2 : k < L'.length) (he : L.getD k ByteArray.empty = L'.getD k ByteArray.empty) : L.take (k + 1) = L'.take (k + 1) := by
  have a := List.take_succ_eq_append_getElem h1
  have b := List.take_succ_eq_append_getElem h2
  rw [List.getD_eq_getElem?_getD, List.getD_eq_getElem?_getD, List.getElem?_eq_getElem h1, List.getElem?_eq_getElem h2] at he
  rw [a, b, h]
  simp only [Option.getD_some] at he
  rw [he]
theorem texts_calls (w : World) (A A' : Option Addr) (c c' : Nat) (L L' : List ByteArray) (n n' : Nat) (hn : n = L.length) (hn' : n' = L'.length) (h : Src w A 1 n (strs L)) (h' : Src w A' 1 n' (strs L')) (hb : n ≤ 20000000) (hb' : n' ≤ 20000000) :
    Calls Try.prog 16 #[.slice A n c, .slice A' n' c'] w (Pure w (.bool (decide (L = L')))) := by
  by_cases hl : n = n'
  · subst hl
    have H := Lib.hid h
    have H' := Lib.hid h'
    have N1 := Lib.hid hn
    have N2 := Lib.hid hn'
    have hu := Try.underlying9
    clear h h' hn hn'
    go_enter Try.func16, Try.ntmps16
    go_wp2_with fail
    go_loopw [5] (fun i wr => ∃ k : Nat, k ≤ n ∧ i = .int .i64 k ∧ Drew w wr ∧ L.take k = L'.take k) (fun i _ => n - (intOf i).toNat)
    case atStart => exact ⟨0, Nat.zero_le _, rfl, Drew.same _, rfl⟩
    case round =>
      obtain ⟨k, hk, rfl, ⟨nd, rfl⟩, ht⟩ := hrel
      have HT := Lib.hid ht
      clear ht
      by_cases hlt : k < n
      · obtain ⟨ad, rfl, hc1⟩ := str_at H.out hlt
        obtain ⟨ad', rfl, hc2⟩ := str_at H'.out hlt
        by_cases he : L.getD k ByteArray.empty = L'.getD k ByteArray.empty
        · rw [he] at hc1
          have HE := Lib.hid he
          clear he
          obtain ⟨s, hs⟩ : ∃ s, L'.getD k ByteArray.empty = s := ⟨_, rfl⟩
          rw [hs] at hc1 hc2
          clear hs
          go_wp2_with fail
          go_quiet (fail)
          go_wp2
          go_roundw
          case rel => exact ⟨k + 1, by omega, by go_num, (Drew.same _).more _, take_step HT.out (by have := N1.out; omega) (by have := N2.out; omega) HE.out⟩
          case measure => simp [intOf]; omega
        · have hne : decide (L = L') = false := decide_eq_false fun e => he (by rw [e])
          have hs : ((L.getD k ByteArray.empty).toList == (L'.getD k ByteArray.empty).toList) = false := by
            rw [beq_eq_false_iff_ne]
            intro e
            exact he (ByteArray.ext (Array.ext' (by simpa [ByteArray.toList_eq] using e)))
          have HN := Lib.hid hne
          clear hne he
          obtain ⟨s, hss⟩ : ∃ s, L.getD k ByteArray.empty = s := ⟨_, rfl⟩
          obtain ⟨s', hss'⟩ : ∃ s', L'.getD k ByteArray.empty = s' := ⟨_, rfl⟩
          rw [hss] at hc1 hs
          rw [hss'] at hc2 hs
          clear hss hss'
          go_wp2_with fail
          go_quiet (fail)
          go_wp2
          go_ret
          rw [HN.out]
          exact ⟨rfl, ((Drew.same _).more _).more _⟩
      · have hkn : k = n := by omega
        have he : decide (L = L') = true := by
          rw [decide_eq_true_eq]
          have := HT.out
          rw [List.take_of_length_le (by have := N1.out; omega), List.take_of_length_le (by have := N2.out; omega)] at this
          exact this
        have HE := Lib.hid he
        clear he hkn
        go_wp2
        go_ret
        rw [HE.out]
        exact ⟨rfl, (Drew.same _).more _⟩
  · have he : decide (L = L') = false := decide_eq_false fun e => hl (by rw [hn, hn', e])
    rw [he]
    have hl' : ((n : Int) == (n' : Int)) = false := by rw [beq_eq_false_iff_ne]; omega
    have hl'' : ((n : Int) != (n' : Int)) = true := by rw [bne, hl']; rfl
    clear h h' hn hn' he hl
    go_enter Try.func16, Try.ntmps16
    go_wp2
    go_ret
    exact ⟨rfl, Drew.same _⟩

def bAB : ByteArray := ⟨#[97, 98]⟩
def bX : ByteArray := ⟨#[120]⟩
def bZ : ByteArray := ⟨#[122]⟩
def b000 : ByteArray := ⟨#[0, 0, 0]⟩
def bBad : ByteArray := ⟨#[2, 0, 0, 0, 0, 0, 0, 0, 97, 98]⟩
def b19 : ByteArray := ⟨#[49, 50, 51, 52, 53, 54, 55, 56, 57]⟩
theorem k1 : firstE (wrapS bAB ++ bX) = 0 ∧ firstN (wrapS bAB ++ bX) = 10 ∧ firstT (wrapS bAB ++ bX) = bAB := by decide +kernel
theorem k2 : firstE b000 = 4 := by decide +kernel
theorem k3 : firstE bBad = 3 := by decide +kernel
theorem k4 : sumS b19 = 3421780262 := by decide +kernel
theorem k5 : firstE (wrapS bAB ++ wrapS bAB ++ bZ) = 0 ∧ firstN (wrapS bAB ++ wrapS bAB ++ bZ) = 10 ∧ firstT (wrapS bAB ++ wrapS bAB ++ bZ) = bAB := by decide +kernel
theorem k6 : (wrapS bAB ++ wrapS bAB ++ bZ).extract 10 (wrapS bAB ++ wrapS bAB ++ bZ).size = wrapS bAB ++ bZ := by decide +kernel
theorem k7 : firstE (wrapS bAB ++ bZ) = 0 ∧ firstN (wrapS bAB ++ bZ) = 10 ∧ firstT (wrapS bAB ++ bZ) = bAB := by decide +kernel
theorem k8 : firstE ((wrapS bAB ++ bZ).extract 10 (wrapS bAB ++ bZ).size) ≠ 0 := by decide +kernel
theorem k9 : (wrapS bAB).size = 10 := by decide +kernel
theorem k10 : allP (wrapS bAB ++ wrapS bAB ++ bZ) = ([bAB, bAB], 20) := by
  rw [allP_go k5.1, k5.2.1, k5.2.2, k6, allP_go k7.1, k7.2.1, k7.2.2, allP_end k8]
  rfl
theorem firstV_of {s t : ByteArray} {n : Nat} (h : firstE s = 0 ∧ firstN s = n ∧ firstT s = t) : firstV s = .tuple #[.string t, .int .i64 (n : Int), .int .i64 0] := by
  unfold firstV
  rw [h.1, h.2.1, h.2.2]

set_option maxRecDepth 100000 in
set_option maxHeartbeats 1600000 in
theorem awake_calls (w : World) : Calls Try.prog 7 #[] w (fun e w' => e = .returned (.bool true) ∧ Keep Nothing w w') := by
  have h9 := k9
  have sAB : bAB.size = 2 := rfl
  have sX : bX.size = 1 := rfl
  have sZ : bZ.size = 1 := rfl
  have tAB : bAB.toList = [97, 98] := by rw [ByteArray.toList_eq]; rfl
  have hw := fun w => wrap_ok w bAB (by rw [sAB]; omega)
  have v1 := firstV_of k1
  have v2 : firstV b000 = .tuple #[.string ByteArray.empty, .int .i64 0, .int .i64 4] := by rw [first_end (by rw [k2]; decide), k2]
  have v3 : firstV bBad = .tuple #[.string ByteArray.empty, .int .i64 0, .int .i64 3] := by rw [first_end (by rw [k3]; decide), k3]
  have hf1 := fun w => first_calls w (wrapS bAB ++ bX) (by rw [ByteArray.size_append, h9, sX]; omega)
  have hf2 := fun w => first_calls w b000 (by decide)
  have hf3 := fun w => first_calls w bBad (by decide)
  have hs := fun w => sum_calls w b19 (by decide)
  rw [k4] at hs
  rw [v1] at hf1
  rw [v2] at hf2
  rw [v3] at hf3
  have ha := fun w => all_calls w (wrapS bAB ++ wrapS bAB ++ bZ) (by rw [ByteArray.size_append, ByteArray.size_append, h9, sZ]; omega)
  rw [k10] at ha
  have c1 := fun w => cat w (wrapS bAB) bX (by rw [h9, sX]; omega)
  have c2 := fun w => cat w (wrapS bAB) (wrapS bAB) (by rw [h9]; omega)
  have c3 := fun w => cat w (wrapS bAB ++ wrapS bAB) bZ (by rw [ByteArray.size_append, h9, sZ]; omega)
  have HW := Lib.hid hw
  have HF1 := Lib.hid hf1
  have HF2 := Lib.hid hf2
  have HF3 := Lib.hid hf3
  have HS := Lib.hid hs
  have HA := Lib.hid ha
  clear hw hf1 hf2 hf3 hs ha v1 v2 v3
  go_enter Try.func7, Try.ntmps7
  generalize wrapS bAB = W at *
  go_wp2_with fail
  refine (HW.out _).mono ?_
  rintro e w1 ⟨rfl, hk1⟩
  have K1 := Lib.hid hk1
  clear hk1
  go_wp2_with fail
  refine (HF1.out _).mono ?_
  rintro e w2 ⟨rfl, hk2⟩
  have K2 := Lib.hid hk2
  clear hk2
  go_wp2_with fail
  refine (HF2.out _).mono ?_
  rintro e w3 ⟨rfl, hk3⟩
  have K3 := Lib.hid hk3
  clear hk3
  go_wp2_with fail
  refine (HF3.out _).mono ?_
  rintro e w4 ⟨rfl, hk4⟩
  have K4 := Lib.hid hk4
  clear hk4
  go_wp2_with fail
  refine (HA.out _).mono ?_
  rintro e w5 ⟨A, c, rfl, hr5, hk5⟩
  have K5 := Lib.hid hk5
  clear hk5 hr5
  go_wp2_with fail
  refine (HS.out _).mono ?_
  rintro e w6 ⟨rfl, hk6⟩
  have K6 := Lib.hid hk6
  clear hk6
  go_wp2_with fail
  go_ret
  exact ⟨rfl, ((((K1.out.then K2.out).then K3.out).then K4.out).then K5.out).then K6.out⟩

theorem sums_calls (w : World) (s : ByteArray) : Calls Try.prog 3 #[.string s] w (fun e w' => e = .returned (.bool true) ∧ Keep Nothing w w') := by
  by_cases hbig : 2097152 < s.size
  · go_enter Try.func3, Try.ntmps3
    go_wp2_with fail
    refine (awake_calls _).mono ?_
    rintro e w1 ⟨rfl, hk1⟩
    go_wp2_with fail
    go_ret
    exact ⟨rfl, hk1⟩
  · have hs := fun w => sum_calls w s (by omega)
    have hr := fun w => rsum_calls w s (by omega)
    have HS := Lib.hid hs
    have HR := Lib.hid hr
    clear hs hr
    by_cases h1 : s.size ≤ 524288
    · have HW := Lib.hid (fun w => wrap_ok w s h1)
      have HRW := Lib.hid (fun w => rwrap_ok w s h1)
      generalize wrapS s = W at *
      generalize sumS s = a at *
      go_enter Try.func3, Try.ntmps3
      go_wp2_with fail
      refine (HW.out _).mono ?_
      rintro e w1 ⟨rfl, hk1⟩
      have K1 := Lib.hid hk1
      clear hk1
      go_wp2_with fail
      refine (HRW.out _).mono ?_
      rintro e w2 ⟨rfl, hk2⟩
      have K2 := Lib.hid hk2
      clear hk2
      go_wp2_with fail
      refine (HS.out _).mono ?_
      rintro e w3 ⟨rfl, hk3⟩
      have K3 := Lib.hid hk3
      clear hk3
      go_wp2_with fail
      refine (HR.out _).mono ?_
      rintro e w4 ⟨rfl, ⟨n4, rfl⟩⟩
      go_wp2_with fail
      refine (awake_calls _).mono ?_
      rintro e w5 ⟨rfl, hk5⟩
      have K5 := Lib.hid hk5
      clear hk5
      go_wp2_with fail
      go_ret
      exact ⟨rfl, (((K1.out.then K2.out).then K3.out).drewN _).then K5.out⟩
    · have HW := Lib.hid (fun w => wrap_big w s (by omega))
      have HRW := Lib.hid (fun w => rwrap_big w s (by omega))
      generalize sumS s = a at *
      go_enter Try.func3, Try.ntmps3
      go_wp2_with fail
      refine (HW.out _).mono ?_
      rintro e w1 ⟨rfl, ⟨n1, rfl⟩⟩
      go_wp2_with fail
      refine (HRW.out _).mono ?_
      rintro e w2 ⟨rfl, ⟨n2, rfl⟩⟩
      go_wp2_with fail
      refine (HS.out _).mono ?_
      rintro e w3 ⟨rfl, hk3⟩
      have K3 := Lib.hid hk3
      clear hk3
      go_wp2_with fail
      refine (HR.out _).mono ?_
      rintro e w4 ⟨rfl, ⟨n4, rfl⟩⟩
      go_wp2_with fail
      refine (awake_calls _).mono ?_
      rintro e w5 ⟨rfl, hk5⟩
      have K5 := Lib.hid hk5
      clear hk5
      go_wp2_with fail
      go_ret
      exact ⟨rfl, (((Keep.same Nothing w).drewN _).then (K3.out.drewN _)).then K5.out⟩

open Go.ChangeShapes Go.WideShapes Go.ChangeAt in
theorem sums_law : R.Law 3 Try.f3 R.any := by
  intro H enc W base args ds p hval hA hsz _ hlt
  rw [Try.params3] at hA hval
  obtain ⟨v0, vs0, d0, ds0, p0, q0, hargs, rfl, rfl, h0, r0⟩ := trodAll_cons hA
  obtain ⟨rfl, rfl, rfl⟩ := trodAll_nil r0
  obtain rfl : args = #[v0] := by cases args; simp_all
  obtain ⟨s, rfl⟩ := okWide_string Try.underlying9 (hval 0 9 v0 rfl rfl)
  exact (sums_calls W s).mono fun e w' h => ⟨h.1, h.2.below (Nat.le_refl _) (fun _ h => h.elim)⟩
end Go.Proofs.Ytdemmlckalhinaa.A
