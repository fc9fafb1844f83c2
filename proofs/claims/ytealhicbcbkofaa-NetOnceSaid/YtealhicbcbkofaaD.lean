/-
  The comparison of lists of texts.
-/
import Derived.Test.YtealhicbcbkofaaC
namespace Go.Proofs.Ytealhicbcbkofaa.A
open Go.RowKit Go.Proofs.Ytealhicbcbkofaa.U
set_option linter.unusedVariables false
set_option linter.unusedSimpArgs false

theorem str_at {w : World} {A : Option Addr} {L : List ByteArray} {n : Nat} (h : Src w A 1 n (strs L)) {k : Nat} (hk : k < n) :
    ∃ ad, A = some ad ∧ w.cell? (ad.add k) = some (.string (L.getD k ByteArray.empty)) := by
  obtain ⟨ad, u, rfl, hu, hc⟩ := h.at_ hk
  refine ⟨ad, rfl, ?_⟩
  have hl := h.1
  simp only [strs, List.length_map] at hl
  rw [hc, ← hu, List.getElem?_map, List.getD_eq_getElem?_getD, List.getElem?_eq_getElem (by omega)]
  rfl
theorem take_step {L L' : List ByteArray} {k : Nat} (h : L.take k = L'.take k) (h1 : k < L.length) (h2 : k < L'.length) (he : L.getD k ByteArray.empty = L'.getD k ByteArray.empty) : L.take (k + 1) = L'.take (k + 1) := by
  have a := List.take_succ_eq_append_getElem h1
  have b := List.take_succ_eq_append_getElem h2
  rw [List.getD_eq_getElem?_getD, List.getD_eq_getElem?_getD, List.getElem?_eq_getElem h1, List.getElem?_eq_getElem h2] at he
  rw [a, b, h]
  simp only [Option.getD_some] at he
  rw [he]
theorem texts_calls (w : World) (A A' : Option Addr) (c c' : Nat) (L L' : List ByteArray) (n n' : Nat) (hn : n = L.length) (hn' : n' = L'.length) (h : Src w A 1 n (strs L)) (h' : Src w A' 1 n' (strs L')) (hb : n ≤ 4096) (hb' : n' ≤ 4096) :
    Calls Try.prog 17 #[.slice A n c, .slice A' n' c'] w (Pure w (.bool (decide (L = L')))) := by
  by_cases hl : n = n'
  · subst hl
    have H := Lib.hid h
    have H' := Lib.hid h'
    have N1 := Lib.hid hn
    have N2 := Lib.hid hn'
    have hu := Try.underlying9
    clear h h' hn hn'
    go_enter Try.func17, Try.ntmps17
    go_wp2_with fail
    go_loopw [5] (fun i wr => ∃ k : Nat, k ≤ n ∧ i = .int .i64 k ∧ Drew w wr ∧ L.take k = L'.take k) (fun i _ => n - (intOf i).toNat)
    case atStart => exact ⟨0, Nat.zero_le _, rfl, Drew.same _, rfl⟩
    case round =>
      obtain ⟨k, hk, rfl, ⟨nd, rfl⟩, ht⟩ := hrel
      have HT := Lib.hid ht
      clear ht
      by_cases hlt : k < n
      · obtain ⟨ad, rfl, hc1⟩ := str_at H.out hlt
        obtain ⟨ad', rfl, hc2⟩ := str_at H'.out hlt
        by_cases he : L.getD k ByteArray.empty = L'.getD k ByteArray.empty
        · rw [he] at hc1
          have HE := Lib.hid he
          clear he
          obtain ⟨s, hs⟩ : ∃ s, L'.getD k ByteArray.empty = s := ⟨_, rfl⟩
          rw [hs] at hc1 hc2
          clear hs
          go_wp2_with fail
          go_quiet (fail)
          go_wp2
          go_roundw
          case rel => exact ⟨k + 1, by omega, by go_num, (Drew.same _).more _, take_step HT.out (by have := N1.out; omega) (by have := N2.out; omega) HE.out⟩
          case measure => simp [intOf]; omega
        · have hne : decide (L = L') = false := decide_eq_false fun e => he (by rw [e])
          have hs : ((L.getD k ByteArray.empty).toList == (L'.getD k ByteArray.empty).toList) = false := by
            rw [beq_eq_false_iff_ne]
            intro e
            exact he (ByteArray.ext (Array.ext' (by simpa [ByteArray.toList_eq] using e)))
          have HN := Lib.hid hne
          clear hne he
          obtain ⟨s, hss⟩ : ∃ s, L.getD k ByteArray.empty = s := ⟨_, rfl⟩
          obtain ⟨s', hss'⟩ : ∃ s', L'.getD k ByteArray.empty = s' := ⟨_, rfl⟩
          rw [hss] at hc1 hs
          rw [hss'] at hc2 hs
          clear hss hss'
          go_wp2_with fail
          go_quiet (fail)
          go_wp2
          go_ret
          rw [HN.out]
          exact ⟨rfl, ((Drew.same _).more _).more _⟩
      · have hkn : k = n := by omega
        have he : decide (L = L') = true := by
          rw [decide_eq_true_eq]
          have := HT.out
          rw [List.take_of_length_le (by have := N1.out; omega), List.take_of_length_le (by have := N2.out; omega)] at this
          exact this
        have HE := Lib.hid he
        clear he hkn
        go_wp2
        go_ret
        rw [HE.out]
        exact ⟨rfl, (Drew.same _).more _⟩
  · have he : decide (L = L') = false := decide_eq_false fun e => hl (by rw [hn, hn', e])
    rw [he]
    have hl' : ((n : Int) == (n' : Int)) = false := by rw [beq_eq_false_iff_ne]; omega
    have hl'' : ((n : Int) != (n' : Int)) = true := by rw [bne, hl']; rfl
    clear h h' hn hn' he hl
    go_enter Try.func17, Try.ntmps17
    go_wp2
    go_ret
    exact ⟨rfl, Drew.same _⟩
end Go.Proofs.Ytealhicbcbkofaa.A
