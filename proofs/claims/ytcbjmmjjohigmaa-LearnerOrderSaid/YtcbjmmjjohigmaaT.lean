/-
  LearnerOrder: the plain law.
-/
import Derived.Test.YtcbjmmjjohigmaaO
namespace Go.Proofs.Ytcbjmmjjohigmaa.A
open Go.RowKit Go.Proofs.Ytcbjmmjjohigmaa.U
set_option linter.unusedVariables false
set_option linter.unusedSimpArgs false

def mkE (s : Int) : Ent := ⟨s, 0, ⟨1, 0, 0, ByteArray.empty, s⟩⟩
/-- All entries are those of slots from 1 to n. -/
def Good (n : Int) (L : List Ent) : Prop := ∀ x ∈ L, x = mkE x.a ∧ 1 ≤ x.a ∧ x.a ≤ n
theorem good_find {n s : Int} {L : List Ent} {x : Ent} (h : Good n L) (hf : findV L s = some x) : x = mkE s ∧ 1 ≤ s ∧ s ≤ n := by
  obtain ⟨h1, h2⟩ := findV_mem hf
  obtain ⟨e, a, b⟩ := h x h1
  rw [h2] at e a b
  exact ⟨e, a, b⟩
theorem fol_good {n : Int} {L : List Ent} (h : Good n L) (hn : n < 9223372036854775807) (a : Int) (ha0 : 0 ≤ a) (ha : a ≤ n) :
    (fol L a).1 ≤ n ∧ a ≤ (fol L a).1 ∧ (fol L a).1 = a + (fol L a).2.length ∧ (∀ (k : Nat) (x : Ent), (fol L a).2[k]? = some x → x = mkE (a + 1 + k)) ∧ findV L ((fol L a).1 + 1) = none := by
  induction hc : cnt L a using Nat.strongRecOn generalizing a with
  | _ c ih =>
    have h0 : a < 9223372036854775807 := by omega
    cases hf : findV L (a + 1) with
    | none =>
      rw [fol_none hf]
      exact ⟨ha, Int.le_refl _, by simp, fun k x hk => by simp at hk, hf⟩
    | some x =>
      obtain ⟨hx, h1, h2⟩ := good_find h hf
      obtain ⟨i1, i2, i3, i4, i5⟩ := ih (cnt L (a + 1)) (by have := cnt_step hf; omega) (a + 1) (by omega) h2 rfl
      rw [fol_some h0 hf]
      refine ⟨i1, by simp only; omega, ?_, ?_, i5⟩
      · simp only [List.length_cons]
        omega
      · intro k y hk
        cases k with
        | zero => simp at hk; rw [← hk, hx]; simp
        | succ k =>
          simp only [List.getElem?_cons_succ] at hk
          rw [i4 k y hk]
          congr 1
          omega
/-- What is so of a learner behind some slots. -/
structure Learnt (n : Int) (S : List Int) (a : Int) (L : List Ent) : Prop where
  good : Good n L
  lo : 0 ≤ a
  hi : a ≤ n
  next : findV L (a + 1) = none
  seen : ∀ s ∈ S, s ≤ a ∨ (findV L s).isSome = true
theorem learnt_none (n : Int) (hn : 0 ≤ n) : Learnt n [] 0 [] := ⟨fun x hx => by simp at hx, Int.le_refl _, hn, rfl, fun s hs => by simp at hs⟩
theorem find_app {L : List Ent} {s : Int} {x : Ent} (h : (findV L s).isSome = true) : (findV (L ++ [x]) s).isSome = true := by
  unfold findV at *
  rw [List.find?_append]
  cases hf : L.find? (isSlot s) with
  | none => rw [hf] at h; cases h
  | some y => rfl
theorem find_new {L : List Ent} {x : Ent} : (findV (L ++ [x]) x.a).isSome = true := by
  unfold findV
  rw [List.find?_append]
  cases hf : L.find? (isSlot x.a) with
  | none => simp [isSlot]
  | some y => rfl
theorem learnt_next {n : Int} {S : List Int} {a : Int} {L : List Ent} (h : Learnt n S a L) (hn : n < 9223372036854775807) {s : Int} (h1 : 1 ≤ s) (h2 : s ≤ n) :
    Learnt n (S ++ [s]) (lnR L a (mkE s)).1 (lnL L a (mkE s)) ∧ (lnR L a (mkE s)).1 = a + (lnR L a (mkE s)).2.length ∧ ∀ (k : Nat) (x : Ent), (lnR L a (mkE s)).2[k]? = some x → x = mkE (a + 1 + k) := by
  cases hk : skip L a (mkE s) with
  | true =>
    obtain ⟨e1, e2⟩ := skip_yes hk
    rw [e1, e2]
    refine ⟨⟨h.good, h.lo, h.hi, h.next, fun t ht => ?_⟩, by simp, fun k x hx => by simp at hx⟩
    rcases List.mem_append.1 ht with ht | ht
    · exact h.seen t ht
    · obtain rfl : t = s := by simpa using ht
      unfold skip at hk
      rw [Bool.or_eq_true, decide_eq_true_iff] at hk
      exact hk
  | false =>
    obtain ⟨e1, e2⟩ := skip_no hk
    rw [e1, e2]
    have hg : Good n (L ++ [mkE s]) := fun x hx => by
      rcases List.mem_append.1 hx with hx | hx
      · exact h.good x hx
      · obtain rfl : x = mkE s := by simpa using hx
        exact ⟨rfl, h1, h2⟩
    obtain ⟨f1, f2, f3, f4, f5⟩ := fol_good hg hn a h.lo h.hi
    refine ⟨⟨hg, by have := h.lo; omega, f1, f5, fun t ht => ?_⟩, f3, f4⟩
    rcases List.mem_append.1 ht with ht | ht
    · rcases h.seen t ht with h3 | h3
      · exact .inl (by omega)
      · exact .inr (find_app h3)
    · obtain rfl : t = s := by simpa using ht
      exact .inr (find_new (x := mkE t))
theorem learnt_all {n : Int} {S : List Int} {a : Int} {L : List Ent} (h : Learnt n S a L) (hall : ∀ s, 1 ≤ s → s ≤ n → s ∈ S) : a = n := by
  have h1 := h.hi
  have h0 := h.lo
  by_cases h2 : a = n
  · exact h2
  · rcases h.seen (a + 1) (hall (a + 1) (by omega) (by omega)) with h3 | h3
    · omega
    · rw [h.next] at h3; cases h3
end Go.Proofs.Ytcbjmmjjohigmaa.A
