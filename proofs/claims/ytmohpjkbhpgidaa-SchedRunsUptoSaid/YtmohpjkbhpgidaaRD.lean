/-
  The rwlock, plain: who may hold it, what Unlock makes of it.
-/
import Derived.Test.YtmohpjkbhpgidaaRC
namespace Go.Proofs.Ytmohpjkbhpgidaa.A
open Go.RowKit Go.Proofs.Ytmohpjkbhpgidaa.U
set_option linter.unusedVariables false
set_option linter.unusedSimpArgs false

theorem rising_iff (W : List Int) : Rising W ↔ W.Pairwise (· < ·) := by
  rw [List.pairwise_iff_getElem]
  constructor
  · intro h i j hi hj hij
    exact h i j _ _ hij (List.getElem?_eq_getElem hi) (List.getElem?_eq_getElem hj)
  · intro h i j x y hij hx hy
    obtain ⟨hi, rfl⟩ := List.getElem?_eq_some_iff.1 hx
    obtain ⟨hj, rfl⟩ := List.getElem?_eq_some_iff.1 hy
    exact h i j hi hj hij
theorem mem_putI (W : List Int) (x z : Int) : z ∈ putI W x ↔ z = x ∨ z ∈ W := by
  induction W with
  | nil => simp [putI]
  | cons y l ih =>
    unfold putI
    split
    · simp only [List.mem_cons, ih]
      constructor
      · rintro (h | h | h)
        · exact .inr (.inl h)
        · exact .inl h
        · exact .inr (.inr h)
      · rintro (h | h | h)
        · exact .inr (.inl h)
        · exact .inl h
        · exact .inr (.inr h)
    · simp only [List.mem_cons]
theorem pair_put {W : List Int} {x : Int} (h : W.Pairwise (· < ·)) (hx : x ∉ W) : (putI W x).Pairwise (· < ·) := by
  induction W with
  | nil => simp [putI]
  | cons y l ih =>
    rw [List.pairwise_cons] at h
    rw [List.mem_cons, not_or] at hx
    unfold putI
    split
    · rename_i hy
      rw [List.pairwise_cons]
      refine ⟨fun z hz => ?_, ih h.2 hx.2⟩
      rcases (mem_putI _ _ _).1 hz with rfl | hz
      · exact hy
      · exact h.1 z hz
    · rename_i hy
      have hxy : x < y := by have := hx.1; omega
      rw [List.pairwise_cons]
      refine ⟨fun z hz => ?_, List.pairwise_cons.2 h⟩
      rcases List.mem_cons.1 hz with rfl | hz
      · exact hxy
      · exact Int.lt_trans hxy (h.1 z hz)
theorem rising_put {W : List Int} {x : Int} (h : Rising W) (hx : x ∉ W) : Rising (putI W x) := (rising_iff _).2 (pair_put ((rising_iff _).1 h) hx)
def dropI (W : List Int) (x : Int) : List Int := W.filter fun y => y != x
theorem rising_drop {W : List Int} {x : Int} (h : Rising W) : Rising (dropI W x) := (rising_iff _).2 (((rising_iff _).1 h).filter _)
theorem mem_dropI (W : List Int) (x z : Int) : z ∈ dropI W x ↔ z ∈ W ∧ z ≠ x := by unfold dropI; simp
/-- Where it stands, it is taken out. -/
theorem drop_eq {W : List Int} {x : Int} {k : Nat} (h : Rising W) (hk : W[k]? = some x) : W.take k ++ W.drop (k + 1) = dropI W x := by
  obtain ⟨hl, he⟩ := List.getElem?_eq_some_iff.1 hk
  have hW : W = W.take k ++ x :: W.drop (k + 1) := by rw [← he]; simp
  have h1 : ∀ z ∈ W.take k, z ≠ x := by
    intro z hz e
    subst e
    obtain ⟨i, hi, e⟩ := List.mem_iff_getElem.1 hz
    rw [List.length_take] at hi
    have := h i k z z (by omega) (by rw [← e, List.getElem_take]; exact List.getElem?_eq_getElem (by omega)) hk
    omega
  have h2 : ∀ z ∈ W.drop (k + 1), z ≠ x := by
    intro z hz e
    subst e
    obtain ⟨i, hi, e⟩ := List.mem_iff_getElem.1 hz
    rw [List.length_drop] at hi
    have := h k (k + 1 + i) z z (by omega) hk (by rw [← e, List.getElem_drop]; exact List.getElem?_eq_getElem (by omega))
    omega
  unfold dropI
  conv => rhs; rw [hW]
  rw [List.filter_append, List.filter_cons]
  have e1 : (W.take k).filter (fun y => y != x) = W.take k := List.filter_eq_self.2 fun z hz => by simpa using h1 z hz
  have e2 : (W.drop (k + 1)).filter (fun y => y != x) = W.drop (k + 1) := List.filter_eq_self.2 fun z hz => by simpa using h2 z hz
  rw [e1, e2]
  simp
/-- Those that hold it, and those that wait, are all others. -/
def Good (W : List Int) (L : List Wt) : Prop := Rising W ∧ (tasks L).Nodup ∧ ∀ t ∈ tasks L, t ∉ W
/-- Who waits in front has it, as long as it may. -/
def drain : List Int → Bool → List Wt → List Int × Bool × List Wt × List Int
  | W, wr, [] => (W, wr, [], [])
  | W, wr, y :: l => if openB W wr y.r then ((drain (putI W y.t) (!y.r) l).1, (drain (putI W y.t) (!y.r) l).2.1, (drain (putI W y.t) (!y.r) l).2.2.1, y.t :: (drain (putI W y.t) (!y.r) l).2.2.2) else (W, wr, y :: l, [])
theorem Good.give {W : List Int} {y : Wt} {l : List Wt} (h : Good W (y :: l)) : Good (putI W y.t) l := by
  obtain ⟨h1, h2, h3⟩ := h
  have h2' : y.t ∉ tasks l ∧ (tasks l).Nodup := by simpa [tasks] using h2
  refine ⟨rising_put h1 (h3 _ (by simp [tasks])), h2'.2, fun t ht hm => ?_⟩
  rcases (mem_putI _ _ _).1 hm with rfl | hm
  · exact h2'.1 ht
  · exact h3 t (by simp only [tasks, List.map_cons, List.mem_cons]; exact .inr ht) hm
theorem Good.dropped {W : List Int} {x : Int} {L : List Wt} (h : Good W L) : Good (dropI W x) L :=
  ⟨rising_drop h.1, h.2.1, fun t ht hm => h.2.2 t ht ((mem_dropI _ _ _).1 hm).1⟩
theorem mem_tasks_hasW (L : List Wt) (x : Int) : x ∈ tasks L ↔ hasW L x = true := by
  unfold tasks hasW
  simp
theorem Good.join {W : List Int} {x : Int} {r d : Bool} {L : List Wt} (h : Good W L) (hx : x ∉ W) (hw : hasW L x = false) : Good W (L ++ [⟨x, r, d⟩]) := by
  have hn : x ∉ tasks L := fun hm => by rw [(mem_tasks_hasW L x).1 hm] at hw; cases hw
  refine ⟨h.1, ?_, ?_⟩
  · show (tasks (L ++ [⟨x, r, d⟩])).Nodup
    unfold tasks at *
    rw [List.map_append, List.nodup_append]
    refine ⟨h.2.1, by simp, fun a ha b hb => ?_⟩
    simp at hb
    subst hb
    intro e
    subst e
    exact hn ha
  · intro t ht
    unfold tasks at ht
    rw [List.map_append, List.mem_append] at ht
    rcases ht with ht | ht
    · exact h.2.2 t ht
    · simp at ht
      rw [ht]
      exact hx
end Go.Proofs.Ytmohpjkbhpgidaa.A
