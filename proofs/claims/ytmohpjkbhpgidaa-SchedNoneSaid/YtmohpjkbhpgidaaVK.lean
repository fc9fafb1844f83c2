/-
  The scheduler: a step, by what it makes in plain Lean; what stays good.
-/
import Derived.Test.YtmohpjkbhpgidaaVJ
namespace Go.Proofs.Ytmohpjkbhpgidaa.A
open Go.RowKit Go.Proofs.Ytmohpjkbhpgidaa.U
set_option linter.unusedVariables false
set_option linter.unusedSimpArgs false

theorem wakeT1_ops (T : List Tk) (u : Int) : (wakeT1 T u).map (·.ops) = T.map (·.ops) := by
  unfold wakeT1
  cases h : T[u.toNat]? with
  | none => rfl
  | some t =>
    apply List.ext_getElem?
    intro j
    show ((T.set u.toNat { t with blk := false }).map (·.ops))[j]? = _
    rw [List.getElem?_map, List.getElem?_map, List.getElem?_set]
    by_cases hj : u.toNat = j
    · subst hj
      have hl := (List.getElem?_eq_some_iff.1 h).1
      rw [if_pos rfl, if_pos hl, h]; rfl
    · rw [if_neg hj]
theorem wakeT_ops : ∀ (l : List Int) (T : List Tk), (wakeT T l).map (·.ops) = T.map (·.ops)
  | [], T => rfl
  | u :: l, T => by
    show (wakeT (wakeT1 T u) l).map (·.ops) = _
    rw [wakeT_ops l, wakeT1_ops]
theorem set_ops {T : List Tk} {i : Nat} {t t' : Tk} (h : T[i]? = some t) (he : t'.ops = t.ops) : (T.set i t').map (·.ops) = T.map (·.ops) := by
  apply List.ext_getElem?
  intro j
  rw [List.getElem?_map, List.getElem?_map, List.getElem?_set]
  by_cases hj : i = j
  · subst hj
    have hl := (List.getElem?_eq_some_iff.1 h).1
    rw [if_pos rfl, if_pos hl, h]
    show some t'.ops = some t.ops
    rw [he]
  · rw [if_neg hj]
theorem stepX_ops {S : PS} {i : Nat} {t : Tk} {x : Op3} (h : S.T[i]? = some t) : (stepX S i t x).2.T.map (·.ops) = S.T.map (·.ops) := by
  unfold stepX
  split
  · exact set_ops h rfl
  · show (wakeT _ _).map (·.ops) = _
    rw [wakeT_ops]
    exact set_ops h rfl
/-- Only mutexes and yields; no queue is too long, nor names a task that is none. -/
structure Good (S : PS) (k : Nat) : Prop where
  ops : ∀ l ∈ S.T.map (·.ops), l.length ≤ 1000000 ∧ ∀ x ∈ l, x.k = 9 ∨ ((x.k = 1 ∨ x.k = 2) ∧ x.n = 0)
  len : S.T.length ≤ 1000000
  q : ∀ m ∈ S.M, m.L.length ≤ k ∧ ∀ y ∈ m.L, 0 ≤ y.t ∧ y.t < S.T.length
theorem findM_q {M : List PM} {n : Int} {P : PM → Prop} (h : ∀ m ∈ M, P m) (hz : P ⟨n, false, 0, []⟩) : ∀ m ∈ findM M n, P m := by
  unfold findM
  split
  · exact h
  · intro m hm
    rcases List.mem_append.1 hm with hm | hm
    · exact h m hm
    · rw [List.mem_singleton.1 hm]; exact hz
theorem doM_q {m : PM} {k id : Int} {c n : Nat} (h : m.L.length ≤ c ∧ ∀ y ∈ m.L, 0 ≤ y.t ∧ y.t < n) (hid : 0 ≤ id ∧ id < n) : (doM m k id).2.2.2.L.length ≤ c + 1 ∧ ∀ y ∈ (doM m k id).2.2.2.L, 0 ≤ y.t ∧ y.t < n := by
  have h0 : m.L.length ≤ c + 1 ∧ ∀ y ∈ m.L, 0 ≤ y.t ∧ y.t < n := ⟨by omega, h.2⟩
  unfold doM
  split
  · show (mLock m.h m.who m.L id).2.2.2.2.length ≤ c + 1 ∧ ∀ y ∈ (mLock m.h m.who m.L id).2.2.2.2, 0 ≤ y.t ∧ y.t < n
    unfold mLock
    split
    · exact h0
    · split
      · exact h0
      · split
        · refine ⟨by simp; omega, fun y hy => ?_⟩
          rcases List.mem_append.1 hy with hy | hy
          · exact h.2 y hy
          · rw [List.mem_singleton.1 hy]; exact hid
        · exact h0
  · show (mUnlock m.h m.who m.L id).2.2.2.2.length ≤ c + 1 ∧ ∀ y ∈ (mUnlock m.h m.who m.L id).2.2.2.2, 0 ≤ y.t ∧ y.t < n
    unfold mUnlock
    split
    · exact h0
    · cases hL : m.L with
      | nil => exact ⟨Nat.zero_le _, fun y hy => by cases hy⟩
      | cons y l => 
        rw [hL] at h
        exact ⟨by have := h.1; simp at this ⊢; omega, fun z hz => h.2 z (List.mem_cons_of_mem _ hz)⟩
theorem Good.step {S : PS} {k i : Nat} {t : Tk} {x : Op3} (h : Good S k) (ht : S.T[i]? = some t) : Good (stepX S i t x).2 (k + 1) := by
  have ho := stepX_ops (x := x) ht
  have hl : (stepX S i t x).2.T.length = S.T.length := by have := congrArg List.length ho; simpa using this
  have hi := (List.getElem?_eq_some_iff.1 ht).1
  refine ⟨by rw [ho]; exact h.ops, by rw [hl]; exact h.len, ?_⟩
  rw [hl]
  unfold stepX
  split
  · exact fun m hm => ⟨by have := (h.q m hm).1; omega, (h.q m hm).2⟩
  · intro m hm
    have hf := findM_q (n := x.obj) (P := fun m => m.L.length ≤ k ∧ ∀ y ∈ m.L, 0 ≤ y.t ∧ y.t < S.T.length) h.q ⟨Nat.zero_le _, fun y hy => by cases hy⟩
    rcases List.mem_or_eq_of_mem_set hm with hm | rfl
    · exact ⟨by have := (hf m hm).1; omega, (hf m hm).2⟩
    · refine doM_q ?_ ⟨by omega, by omega⟩
      rw [List.getD_eq_getElem?_getD]
      cases hg : (findM S.M x.obj)[idxM (findM S.M x.obj) x.obj]? with
      | none => exact ⟨Nat.zero_le _, fun y hy => by cases hy⟩
      | some m => exact hf m (List.mem_of_getElem? hg)
section
variable {B : Nat} {w0 w : World} {Q : SP} {b bm : Nat} {X : List (Nat × Tk)} {O : List Ob} {S : PS}
theorem x_step (h : Holds B w0 w (star (schP b X bm O) Q)) (hQ : Stable Q) (hr : Rel X O S) {k : Nat} (hg : Good S k) (hk : k ≤ 1000000) (i : Nat) (t : Tk) (ht : S.T[i]? = some t) (hrd : t.ready = true) (x : Op3) (hx : t.ops[t.at_]? = some x) :
    Calls Try.prog 62 #[.pointer (some ⟨b, 0, none⟩), .int .i64 i] w (fun e w' => ∃ X' O', e = .returned (.tuple #[.agg (evCs i t.at_ (stepX S i t x).1), .int .i64 0]) ∧ Rel X' O' (stepX S i t x).2 ∧ Holds B w0 w' (star (schP b X' bm O') Q)) := by
  have hXl : X.length = S.T.length := by rw [← hr.1, List.length_map]
  have hXi : ∃ g, X[i]? = some (g, t) := by
    rw [← hr.1, List.getElem?_map] at ht
    cases hx' : X[i]? with
    | none => rw [hx'] at ht; cases ht
    | some y => rw [hx'] at ht; injection ht with ht; exact ⟨y.1, by rw [← ht]⟩
  obtain ⟨g, hXi⟩ := hXi
  have hop := hg.ops t.ops (List.mem_map.2 ⟨t, List.mem_of_getElem? ht, rfl⟩)
  rcases hop.2 x (List.mem_of_getElem? hx) with hk9 | ⟨hk12, hn⟩
  · refine (step_yield h hQ (by rw [hXl]; exact hg.len) i (g, t) hXi hrd x hx hk9 hop.1).mono ?_
    rintro e w' ⟨rfl, hh⟩
    obtain ⟨h1, h2⟩ := rel_yield hr (i := i) (t := (g, t)) x hk9
    exact ⟨_, _, by rw [h2], h1, hh⟩
  · have hq : ∀ o ∈ O, o.L.length ≤ k ∧ ∀ y ∈ o.L, 0 ≤ y.t ∧ y.t < S.T.length := fun o ho => hg.q (pm o) (by rw [← hr.2]; exact List.mem_map_of_mem ho)
    refine (step_mutex h hQ (by rw [hXl]; exact hg.len) i (g, t) hXi hrd x hx hk12 hn hop.1 (fun o ho => by have := (hq o ho).1; omega) (fun o ho => by rw [hXl]; exact (hq o ho).2)).mono ?_
    rintro e w' ⟨O1, j, o, h1, h2, h3, h4, rfl, hh⟩
    obtain ⟨r1, r2⟩ := rel_mutex hr (i := i) (t := (g, t)) (x := x) (by omega) h1 h2 h3 h4
    exact ⟨_, _, by rw [r2], r1, hh⟩
end
end Go.Proofs.Ytmohpjkbhpgidaa.A
