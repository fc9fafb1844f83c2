/-
  The scheduler in plain Lean: what each step keeps, and how far a run goes.
-/
import Derived.Test.YtmohpjkbhpgidaaYM
namespace Go.Proofs.Ytmohpjkbhpgidaa.A
open Go.RowKit Go.Proofs.Ytmohpjkbhpgidaa.U
set_option linter.unusedVariables false
set_option linter.unusedSimpArgs false

/-- What is left to do. -/
def muT (t : Tk) : Nat := t.ops.length - t.at_
def mu (T : List Tk) : Nat := (T.map muT).sum
theorem mu_set : ∀ (T : List Tk) (i : Nat) (t t' : Tk), T[i]? = some t → muT t' < muT t → mu (T.set i t') < mu T
  | [], i, t, t', h, _ => by simp at h
  | y :: T, 0, t, t', h, hl => by
    simp at h; subst h
    unfold mu
    simp only [List.set_cons_zero, List.map_cons, List.sum_cons]
    omega
  | y :: T, i + 1, t, t', h, hl => by
    have := mu_set T i t t' (by simpa using h) hl
    unfold mu at this ⊢
    simp only [List.set_cons_succ, List.map_cons, List.sum_cons]
    omega
theorem map_set_same {α β : Type} (f : α → β) : ∀ (l : List α) (i : Nat) (a b : α), l[i]? = some a → f b = f a → (l.set i b).map f = l.map f
  | [], i, a, b, h, _ => by simp at h
  | y :: l, 0, a, b, h, hf => by simp at h; subst h; simp [hf]
  | y :: l, i + 1, a, b, h, hf => by simp [map_set_same f l i a b (by simpa using h) hf]
theorem mu_wake1 (T : List Tk) (u : Int) : mu (wakeT1 T u) = mu T := by
  unfold wakeT1
  cases h : T[u.toNat]? with
  | none => rfl
  | some t => unfold mu; dsimp only; rw [map_set_same muT T _ t { t with blk := false } h rfl]
theorem mu_wake : ∀ (l : List Int) (T : List Tk), mu (wakeT T l) = mu T
  | [], T => rfl
  | u :: l, T => by
    show mu (wakeT (wakeT1 T u) l) = _
    rw [mu_wake l, mu_wake1]
theorem ready_lt {t : Tk} (h : t.ready = true) : t.blk = false ∧ t.at_ < t.ops.length := by
  unfold Tk.ready at h
  simpa using h
theorem mu_step {S : PS} {i : Nat} {t : Tk} {x : Op3} (ht : S.T[i]? = some t) (hr : t.ready = true) : mu (stepX S i t x).2.T < mu S.T := by
  have hat := (ready_lt hr).2
  have hn : muT t.next < muT t := by unfold muT Tk.next; dsimp only; omega
  unfold stepX
  split
  · exact mu_set _ _ _ _ ht hn
  · cases kindO x.k x.n with
    | none => exact mu_set _ _ _ _ ht hn
    | some kd =>
      dsimp only
      rw [mu_wake]
      refine mu_set _ _ _ _ ht ?_
      have hp : muT t.next.past ≤ muT t.next := by
        unfold muT Tk.past
        dsimp only
        omega
      rcases doS_tk ((findM S.M (kd, x.obj)).getD (idxM (findM S.M (kd, x.obj)) (kd, x.obj)) zPM).st x i t.next with h | h | h | h <;> rw [h]
      · exact hn
      · exact hn
      · exact hn
      · exact Nat.lt_of_le_of_lt hp hn
theorem wake1_get (T : List Tk) (u : Int) (hu : 0 ≤ u) (i : Nat) : (wakeT1 T u)[i]? = (T[i]?).map fun t => if (i : Int) = u then { t with blk := false } else t := by
  unfold wakeT1
  cases h : T[u.toNat]? with
  | none =>
    dsimp only
    by_cases hi : (i : Int) = u
    · have : u.toNat = i := by omega
      rw [this] at h
      rw [h]; rfl
    · simp only [hi, if_false]
      cases T[i]? <;> rfl
  | some t =>
    dsimp only
    rw [List.getElem?_set]
    by_cases hi : (i : Int) = u
    · have e : u.toNat = i := by omega
      rw [e] at h ⊢
      have hl := (List.getElem?_eq_some_iff.1 h).1
      rw [if_pos rfl, if_pos hl, h]
      simp [hi]
    · rw [if_neg (by omega)]
      simp only [hi, if_false]
      cases T[i]? <;> rfl
theorem wake_get : ∀ (l : List Int) (T : List Tk) (hl : ∀ u ∈ l, 0 ≤ u) (i : Nat), (wakeT T l)[i]? = (T[i]?).map fun t => if (i : Int) ∈ l then { t with blk := false } else t
  | [], T, hl, i => by show T[i]? = _; cases T[i]? <;> simp
  | u :: l, T, hl, i => by
    show (wakeT (wakeT1 T u) l)[i]? = _
    rw [wake_get l _ (fun v hv => hl v (List.mem_cons_of_mem _ hv)) i, wake1_get T u (hl u List.mem_cons_self) i]
    cases T[i]? with
    | none => rfl
    | some t =>
      simp only [Option.map_some]
      congr 1
      by_cases h1 : (i : Int) = u
      · by_cases h2 : (i : Int) ∈ l <;> simp [h1, h2]
      · by_cases h2 : (i : Int) ∈ l <;> simp [h1, h2]
theorem wakeT_len (l : List Int) (T : List Tk) : (wakeT T l).length = T.length := by
  have := congrArg List.length (wakeT_ops l T)
  simpa using this
/-- A round: none may go on, or one does its next operation. -/
theorem round_case (picks : List Int) (n : Nat) (S : PS) : (roundX picks n S = none ∧ ∀ t ∈ S.T, t.ready = false) ∨
    ∃ (i : Nat) (t : Tk) (x : Op3), S.T[i]? = some t ∧ t.ready = true ∧ t.ops[t.at_]? = some x ∧ roundX picks n S = some (⟨i, t.at_, (stepX S i t x).1⟩, (stepX S i t x).2) := by
  rcases Nat.eq_zero_or_pos (pickT Tk.ready S.T S.T.length).length with h | h
  · refine .inl ⟨round_none h, fun t ht => ?_⟩
    cases hr : t.ready with
    | false => rfl
    | true =>
      exfalso
      obtain ⟨i, hi, he⟩ := List.getElem_of_mem ht
      have key : ∀ k, i < k → k ≤ S.T.length → pickT Tk.ready S.T k ≠ [] := by
        intro k
        induction k with
        | zero => intro h; omega
        | succ k ih =>
          intro h1 h2 h3
          unfold pickT at h3
          rw [List.append_eq_nil_iff] at h3
          by_cases hik : i = k
          · subst hik
            rw [List.getElem?_eq_getElem hi, he] at h3
            simp [hr] at h3
          · exact ih (by omega) (by omega) h3.1
      exact key _ hi (Nat.le_refl _) (List.eq_nil_of_length_eq_zero h)
  · obtain ⟨i, t, x, _, _, _, ht, hr, hx, he⟩ := round_some (picks := picks) (n := n) (S := S) rfl h
    exact .inr ⟨i, t, x, ht, hr, hx, he⟩
theorem pickT_nil {p : Tk → Bool} {T : List Tk} (h : ∀ t ∈ T, p t = false) : ∀ k, pickT p T k = []
  | 0 => rfl
  | k + 1 => by
    unfold pickT
    rw [pickT_nil h k]
    cases hk : T[k]? with
    | none => rfl
    | some t => simp [h t (List.mem_of_getElem? hk)]
/-- What holds of a run that every round keeps. -/
theorem runX_inv {P : PS → List Ev → Prop} (picks : List Int)
    (step : ∀ (S : PS) (l : List Ev) (i : Nat) (t : Tk) (x : Op3), P S l → S.T[i]? = some t → t.ready = true → t.ops[t.at_]? = some x → P (stepX S i t x).2 (l ++ [⟨i, t.at_, (stepX S i t x).1⟩])) :
    ∀ (f n : Nat) (S : PS) (l : List Ev), P S l → mu S.T < f → P (runX picks f n S l).2 (runX picks f n S l).1 ∧ ∀ t ∈ (runX picks f n S l).2.T, t.ready = false
  | 0, n, S, l, h, hf => by omega
  | f + 1, n, S, l, h, hf => by
    have e : runX picks (f + 1) n S l = (match roundX picks n S with | none => (l, S) | some (e, S') => runX picks f (n + 1) S' (l ++ [e])) := rfl
    rcases round_case picks n S with ⟨h1, h2⟩ | ⟨i, t, x, ht, hr, hx, h1⟩
    · rw [e, h1]
      exact ⟨h, h2⟩
    · rw [e, h1]
      have := mu_step (x := x) ht hr
      exact runX_inv picks step f (n + 1) _ _ (step S l i t x h ht hr hx) (by omega)
theorem not_ready {t : Tk} (h : t.ready = false) (hb : t.blk = false) : t.ops.length ≤ t.at_ := by
  unfold Tk.ready at h
  simp [hb] at h
  exact h
theorem not_open {t : Tk} (hb : t.blk = false) (h : t.ops.length ≤ t.at_) : t.open_ = false := by
  unfold Tk.open_
  simp [hb]
  exact h
end Go.Proofs.Ytmohpjkbhpgidaa.A
