/-
  What is held, in plain Lean.
-/
import Derived.Test.YthlfcinjmljbjaaD6
namespace Go.Proofs.Ythlfcinjmljbjaa.A
open Go.RowKit Go.Proofs.Ythlfcinjmljbjaa.U
set_option linter.unusedVariables false
set_option linter.unusedSimpArgs false

def lowH (L : List Hd) (s : ByteArray) : List Hd := L.filter fun y => decide (cmpN y.nm s < 0)
def hiH (L : List Hd) (s : ByteArray) : List Hd := L.filter fun y => decide (0 < cmpN y.nm s)
def holdL (L : List Hd) (x : Hd) : List Hd := lowH L x.nm ++ x :: hiH L x.nm
def letL (L : List Hd) (s : ByteArray) (r : Bool) : List Hd := match lookH L s with | some y => if y.rd = r then lowH L s ++ hiH L s else L | none => L
theorem mem_low {L : List Hd} {s : ByteArray} {y : Hd} (h : y ∈ lowH L s) : y ∈ L ∧ cmpN y.nm s < 0 := by
  unfold lowH at h
  rw [List.mem_filter] at h
  exact ⟨h.1, by simpa using h.2⟩
theorem mem_hi {L : List Hd} {s : ByteArray} {y : Hd} (h : y ∈ hiH L s) : y ∈ L ∧ 0 < cmpN y.nm s := by
  unfold hiH at h
  rw [List.mem_filter] at h
  exact ⟨h.1, by simpa using h.2⟩
theorem below_hi {a s b : ByteArray} (h : cmpN a s < 0) (h' : 0 < cmpN b s) : cmpN a b < 0 := by
  have e := cmpN_anti s b
  exact cmpN_trans h (by omega)
theorem rise_low {L : List Hd} (h : Rise L) (s : ByteArray) : Rise (lowH L s) := List.Pairwise.filter _ h
theorem rise_hi {L : List Hd} (h : Rise L) (s : ByteArray) : Rise (hiH L s) := List.Pairwise.filter _ h
theorem rise_let' {L : List Hd} (h : Rise L) (s : ByteArray) : Rise (lowH L s ++ hiH L s) := by
  unfold Rise
  rw [List.pairwise_append]
  exact ⟨rise_low h s, rise_hi h s, fun a ha b hb => below_hi (mem_low ha).2 (mem_hi hb).2⟩
theorem rise_let {L : List Hd} (h : Rise L) (s : ByteArray) (r : Bool) : Rise (letL L s r) := by
  unfold letL
  split
  · split
    · exact rise_let' h s
    · exact h
  · exact h
theorem rise_hold {L : List Hd} (h : Rise L) (x : Hd) : Rise (holdL L x) := by
  unfold Rise holdL
  rw [List.pairwise_append, List.pairwise_cons]
  refine ⟨rise_low h _, ⟨fun b hb => ?_, rise_hi h _⟩, fun a ha b hb => ?_⟩
  · have := (mem_hi hb).2
    have e := cmpN_anti x.nm b.nm
    omega
  · rcases List.mem_cons.1 hb with rfl | hb
    · exact (mem_low ha).2
    · exact below_hi (mem_low ha).2 (mem_hi hb).2
theorem look_hold (L : List Hd) (x : Hd) : lookH (holdL L x) x.nm = some x := by
  unfold lookH holdL
  rw [List.find?_append, List.find?_eq_none.2 (fun y hy => ?_), List.find?_cons_of_pos (by simp)]
  · rfl
  · simp only [decide_eq_true_eq]
    intro e
    have := (mem_low hy).2
    rw [(cmpN_zero _ _).2 e] at this
    omega
theorem look_gone (L : List Hd) (s : ByteArray) : lookH (lowH L s ++ hiH L s) s = none := by
  unfold lookH
  rw [List.find?_eq_none]
  intro y hy
  simp only [decide_eq_true_eq]
  intro e
  have z := (cmpN_zero _ _).2 e
  rcases List.mem_append.1 hy with h | h
  · have := (mem_low h).2; omega
  · have := (mem_hi h).2; omega
theorem hold_len (L : List Hd) (x : Hd) : (holdL L x).length ≤ L.length + L.length + 1 := by
  unfold holdL
  rw [List.length_append, List.length_cons]
  have h1 : (lowH L x.nm).length ≤ L.length := List.length_filter_le _ _
  have h2 : (hiH L x.nm).length ≤ L.length := List.length_filter_le _ _
  omega
theorem take_low {L : List Hd} {s : ByteArray} {k : Nat} (hr : Rise L) (h1 : ∀ (j : Nat) (y : Hd), j < k → L[j]? = some y → cmpN y.nm s < 0)
    (h2 : ∀ y, L[k]? = some y → 0 ≤ cmpN y.nm s) : L.take k = lowH L s := by
  unfold lowH
  have e : L.filter (fun y => decide (cmpN y.nm s < 0)) = (L.take k ++ L.drop k).filter (fun y => decide (cmpN y.nm s < 0)) := by rw [List.take_append_drop]
  rw [e, List.filter_append, List.filter_eq_self.2 (fun y hy => ?_), List.filter_eq_nil_iff.2 (fun y hy => ?_), List.append_nil]
  · obtain ⟨j, hj⟩ := List.mem_iff_getElem?.1 hy
    rw [List.getElem?_drop] at hj
    simp only [decide_eq_true_eq]
    cases j with
    | zero => have := h2 y hj; omega
    | succ j =>
      have hk : k < L.length := by have := (List.getElem?_eq_some_iff.1 hj).1; omega
      have q := rise_at hr (show k < k + (j + 1) by omega) (List.getElem?_eq_getElem hk) hj
      have := above q (h2 _ (List.getElem?_eq_getElem hk))
      omega
  · obtain ⟨j, hj⟩ := List.mem_iff_getElem?.1 hy
    rw [List.getElem?_take] at hj
    split at hj
    · simp only [decide_eq_true_eq]; exact h1 j y (by assumption) hj
    · cases hj
theorem drop_hi {L : List Hd} {s : ByteArray} {k : Nat} (hr : Rise L) (h1 : ∀ (j : Nat) (y : Hd), j < k → L[j]? = some y → cmpN y.nm s ≤ 0)
    (h2 : ∀ y, L[k]? = some y → 0 < cmpN y.nm s) : L.drop k = hiH L s := by
  unfold hiH
  have e : L.filter (fun y => decide (0 < cmpN y.nm s)) = (L.take k ++ L.drop k).filter (fun y => decide (0 < cmpN y.nm s)) := by rw [List.take_append_drop]
  rw [e, List.filter_append, List.filter_eq_nil_iff.2 (fun y hy => ?_), List.nil_append, List.filter_eq_self.2 (fun y hy => ?_)]
  · obtain ⟨j, hj⟩ := List.mem_iff_getElem?.1 hy
    rw [List.getElem?_drop] at hj
    simp only [decide_eq_true_eq]
    cases j with
    | zero => exact h2 y hj
    | succ j =>
      have hk : k < L.length := by have := (List.getElem?_eq_some_iff.1 hj).1; omega
      have q := rise_at hr (show k < k + (j + 1) by omega) (List.getElem?_eq_getElem hk) hj
      have g := h2 _ (List.getElem?_eq_getElem hk)
      have e1 := cmpN_anti s (L[k]).nm
      have e2 := cmpN_anti s y.nm
      have := cmpN_trans (show cmpN s (L[k]).nm < 0 by omega) q
      omega
  · obtain ⟨j, hj⟩ := List.mem_iff_getElem?.1 hy
    rw [List.getElem?_take] at hj
    split at hj
    · simp only [decide_eq_true_eq]; have := h1 j y (by assumption) hj; omega
    · cases hj
end Go.Proofs.Ythlfcinjmljbjaa.A
