/-
  SchedWaits in plain Lean: who waits for the group goes on just when all are done.
-/
import Derived.Test.YtmohpjkbhpgidaaYO
namespace Go.Proofs.Ytmohpjkbhpgidaa.A
open Go.RowKit Go.Proofs.Ytmohpjkbhpgidaa.U
set_option linter.unusedVariables false
set_option linter.unusedSimpArgs false

def wtO (n : Int) : List Op3 := [⟨5, 1, n⟩, ⟨6, 1, 0⟩, ⟨9, 0, 0⟩]
def wtR : List Op3 := [⟨9, 0, 0⟩, ⟨5, 1, -1⟩]
def dones (R : List Tk) : Nat := R.countP fun t => t.at_ == 2
theorem dones_le (R : List Tk) : dones R ≤ R.length := List.countP_le_length
theorem dones_set : ∀ (R : List Tk) (j : Nat) (t t' : Tk), R[j]? = some t → dones (R.set j t') + (if t.at_ = 2 then 1 else 0) = dones R + (if t'.at_ = 2 then 1 else 0)
  | [], j, t, t', h => by simp at h
  | y :: R, 0, t, t', h => by
    simp at h; subst h
    unfold dones
    simp only [List.set_cons_zero, List.countP_cons, beq_iff_eq]
    omega
  | y :: R, j + 1, t, t', h => by
    have := dones_set R j t t' (by simpa using h)
    unfold dones at this ⊢
    simp only [List.set_cons_succ, List.countP_cons, beq_iff_eq]
    omega
theorem dones_full : ∀ (R : List Tk), (∀ u ∈ R, u.at_ = 2) → dones R = R.length
  | [], h => rfl
  | y :: R, h => by
    have := dones_full R (fun u hu => h u (List.mem_cons_of_mem _ hu))
    unfold dones at this ⊢
    rw [List.countP_cons, this, if_pos (by rw [h y List.mem_cons_self]; rfl), List.length_cons]
/-- The task that waits. -/
def WtT (n d : Nat) (t0 : Tk) (L : List Int) : Prop := t0.ops = wtO n ∧ t0.runs = [] ∧
  ((t0.at_ = 1 ∧ t0.blk = false ∧ L = []) ∨ (t0.at_ = 2 ∧ t0.blk = true ∧ L = [0] ∧ d < n) ∨ (t0.at_ = 2 ∧ t0.blk = false ∧ L = [] ∧ d = n) ∨ (t0.at_ = 3 ∧ t0.blk = false ∧ L = [] ∧ d = n))
def WtI (n : Nat) (S : PS) (d : Nat) : Prop := ∃ (t0 : Tk) (R : List Tk) (L : List Int), S = ⟨t0 :: R, [⟨1, .g ((n : Int) - d) L⟩]⟩ ∧ R.length = n ∧ (∀ u ∈ R, u.ops = wtR ∧ u.blk = false ∧ u.runs = [] ∧ u.at_ ≤ 2) ∧ d = dones R ∧ WtT n d t0 L
theorem wt_first (n : Nat) (h1 : 1 ≤ n) (hn : n ≤ 8) : ∃ t x, (newS (wtO n :: List.replicate n wtR)).T[0]? = some t ∧ t.ready = true ∧ t.ops[t.at_]? = some x ∧ t.at_ = 0 ∧ (stepX (newS (wtO n :: List.replicate n wtR)) 0 t x).1 = 0 ∧ WtI n (stepX (newS (wtO n :: List.replicate n wtR)) 0 t x).2 0 := by
  refine ⟨freshT (wtO n), ⟨5, 1, n⟩, rfl, rfl, rfl, rfl, ?_⟩
  have e1 : gE 0 (n : Int) = 0 := by unfold gE; rw [if_neg (by omega), if_neg (by omega)]
  have e2 : gN 0 (n : Int) = n := by unfold gN; rw [if_pos e1]; omega
  have e3 : gR 0 (n : Int) [] = [] := by unfold gR; split <;> rfl
  have e4 : gL 0 (n : Int) [] = [] := by unfold gL; split <;> rfl
  have hst : stepX (newS (wtO n :: List.replicate n wtR)) 0 (freshT (wtO n)) ⟨5, 1, n⟩ = (gE 0 n, ⟨wakeT (((wtO n :: List.replicate n wtR).map freshT).set 0 { (freshT (wtO n)).next with blk := false && gE 0 (n : Int) == 0 }) (gR 0 n []), [⟨1, .g (gN 0 n) (gL 0 n [])⟩]⟩) := rfl
  rw [hst, e1, e2, e3, e4]
  refine ⟨rfl, { (freshT (wtO n)).next with blk := false }, (List.replicate n wtR).map freshT, [], ?_, by simp, ?_, ?_, rfl, rfl, .inl ⟨rfl, rfl, rfl⟩⟩
  · show PS.mk _ _ = PS.mk _ _
    congr 3
  · intro u hu
    rw [List.map_replicate] at hu
    rw [List.eq_of_mem_replicate hu]
    exact ⟨rfl, rfl, rfl, by decide⟩
  · rw [List.map_replicate]
    unfold dones
    rw [List.countP_eq_zero.2]
    intro u hu
    rw [List.eq_of_mem_replicate hu]
    decide
theorem wt_step (n : Nat) (h1 : 1 ≤ n) (hn : n ≤ 8) (S : PS) (d : Nat) (h : WtI n S d) (i : Nat) (t : Tk) (x : Op3) (ht : S.T[i]? = some t) (hr : t.ready = true) (hx : t.ops[t.at_]? = some x) :
    (stepX S i t x).1 = 0 ∧ (i = 0 → t.at_ = 2 → d = n) ∧ WtI n (stepX S i t x).2 (d + if 0 < i ∧ t.at_ = 1 then 1 else 0) := by
  obtain ⟨t0, R, L, rfl, hR, hu, hd, ho, hru, hc⟩ := h
  obtain ⟨hb, hat⟩ := ready_lt hr
  have hdn : d ≤ n := by rw [hd, ← hR]; exact dones_le R
  cases i with
  | zero =>
    simp at ht
    subst ht
    rw [ho] at hx hat
    have h3 : (wtO (n : Int)).length = 3 := rfl
    rcases hc with ⟨a1, b1, l1⟩ | ⟨a1, b1, _⟩ | ⟨a1, b1, l1, dn⟩ | ⟨a1, b1, l1, dn⟩
    · subst l1
      rw [a1] at hx
      obtain rfl : x = ⟨6, 1, 0⟩ := by injection hx with e; exact e.symm
      have hst : stepX ⟨t0 :: R, [⟨1, .g ((n : Int) - d) []⟩]⟩ 0 t0 ⟨6, 1, 0⟩ = (wE [] 0, ⟨(t0 :: R).set 0 { t0.next with blk := !(wB ((n : Int) - d) [] 0) && wE [] 0 == 0 }, [⟨1, .g ((n : Int) - d) (wL ((n : Int) - d) [] 0)⟩]⟩) := rfl
      have e1 : wE [] 0 = 0 := rfl
      rw [hst, e1, a1]
      refine ⟨rfl, fun _ h => by omega, ?_⟩
      by_cases hc0 : (n : Int) - d = 0
      · have e2 : wB ((n : Int) - d) [] 0 = true := by unfold wB; simp [hc0]
        have e3 : wL ((n : Int) - d) [] 0 = [] := by unfold wL; rw [if_pos (.inr (.inr hc0))]
        rw [e2, e3]
        exact ⟨{ t0.next with blk := false }, R, [], rfl, hR, hu, by simpa using hd, ho, hru, .inr (.inr (.inl ⟨by show t0.at_ + 1 = 2; omega, rfl, rfl, by simp; omega⟩))⟩
      · have e2 : wB ((n : Int) - d) [] 0 = false := by unfold wB; simp [hc0]
        have e3 : wL ((n : Int) - d) [] 0 = [0] := by unfold wL; rw [if_neg (by rintro (h | h | h); omega; cases h; exact hc0 h)]; rfl
        rw [e2, e3]
        exact ⟨{ t0.next with blk := true }, R, [0], rfl, hR, hu, by simpa using hd, ho, hru, .inr (.inl ⟨by show t0.at_ + 1 = 2; omega, rfl, rfl, by simp; omega⟩)⟩
    · rw [b1] at hb; cases hb
    · subst l1
      rw [a1] at hx
      obtain rfl : x = ⟨9, 0, 0⟩ := by injection hx with e; exact e.symm
      have hst : stepX ⟨t0 :: R, [⟨1, .g ((n : Int) - d) []⟩]⟩ 0 t0 ⟨9, 0, 0⟩ = (0, ⟨(t0 :: R).set 0 t0.next, [⟨1, .g ((n : Int) - d) []⟩]⟩) := rfl
      rw [hst, a1]
      refine ⟨rfl, fun _ _ => dn, ?_⟩
      exact ⟨t0.next, R, [], rfl, hR, hu, by simpa using hd, ho, hru, .inr (.inr (.inr ⟨by show t0.at_ + 1 = 3; omega, b1, rfl, by simpa using dn⟩))⟩
    · omega
  | succ j =>
    have htj : R[j]? = some t := by simpa using ht
    have hjl := (List.getElem?_eq_some_iff.1 htj).1
    obtain ⟨to, tb, tr, ta⟩ := hu t (List.mem_of_getElem? htj)
    rw [to] at hx hat
    have h2 : wtR.length = 2 := rfl
    have hset : ∀ t' : Tk, (t'.ops = wtR ∧ t'.blk = false ∧ t'.runs = [] ∧ t'.at_ ≤ 2) → ∀ u ∈ R.set j t', u.ops = wtR ∧ u.blk = false ∧ u.runs = [] ∧ u.at_ ≤ 2 := fun t' h => mem_set_of hu h
    have hds := dones_set R j t
    rcases (show t.at_ = 0 ∨ t.at_ = 1 by omega) with a0 | a0
    · rw [a0] at hx
      obtain rfl : x = ⟨9, 0, 0⟩ := by injection hx with e; exact e.symm
      have hst : stepX ⟨t0 :: R, [⟨1, .g ((n : Int) - d) L⟩]⟩ (j + 1) t ⟨9, 0, 0⟩ = (0, ⟨t0 :: R.set j t.next, [⟨1, .g ((n : Int) - d) L⟩]⟩) := rfl
      rw [hst, a0]
      have := hds t.next htj
      rw [if_neg (by omega), if_neg (by show ¬ t.at_ + 1 = 2; omega)] at this
      refine ⟨rfl, fun h => by omega, t0, R.set j t.next, L, rfl, by rw [List.length_set]; exact hR, hset _ ⟨to, tb, tr, by show t.at_ + 1 ≤ 2; omega⟩, by simp; omega, ?_⟩
      simpa using ⟨ho, hru, hc⟩
    · rw [a0] at hx
      obtain rfl : x = ⟨5, 1, -1⟩ := by injection hx with e; exact e.symm
      have hst : stepX ⟨t0 :: R, [⟨1, .g ((n : Int) - d) L⟩]⟩ (j + 1) t ⟨5, 1, -1⟩ = (gE ((n : Int) - d) (-1), ⟨wakeT (t0 :: R.set j { t.next with blk := false && gE ((n : Int) - d) (-1) == 0 }) (gR ((n : Int) - d) (-1) L), [⟨1, .g (gN ((n : Int) - d) (-1)) (gL ((n : Int) - d) (-1) L)⟩]⟩) := rfl
      have hs := hds { t.next with blk := false } htj
      rw [if_neg (by omega), if_pos (by show t.at_ + 1 = 2; omega)] at hs
      have hlt : d < n := by
        have := dones_le (R.set j { t.next with blk := false })
        rw [List.length_set] at this
        omega
      have e1 : gE ((n : Int) - d) (-1) = 0 := by unfold gE; rw [if_neg (by omega), if_neg (by omega)]
      have e2 : gN ((n : Int) - d) (-1) = (n : Int) - (d + 1 : Nat) := by unfold gN; rw [if_pos e1]; omega
      rw [hst, e1, e2]
      refine ⟨rfl, fun h => by omega, ?_⟩
      rw [if_pos ⟨by omega, a0⟩]
      have hu' := hset { t.next with blk := false } ⟨to, rfl, tr, by show t.at_ + 1 ≤ 2; omega⟩
      by_cases hz : (n : Int) - d + (-1) = 0
      · have e3 : gR ((n : Int) - d) (-1) L = L := by unfold gR; rw [if_pos ⟨e1, hz⟩]
        have e4 : gL ((n : Int) - d) (-1) L = [] := by unfold gL; rw [if_pos ⟨e1, hz⟩]
        rw [e3, e4]
        rcases hc with ⟨a1, b1, l1⟩ | ⟨a1, b1, l1, _⟩ | ⟨a1, b1, l1, dn⟩ | ⟨a1, b1, l1, dn⟩
        · subst l1
          exact ⟨t0, R.set j { t.next with blk := false }, [], rfl, by rw [List.length_set]; exact hR, hu', by omega, ho, hru, .inl ⟨a1, b1, rfl⟩⟩
        · subst l1
          exact ⟨{ t0 with blk := false }, R.set j { t.next with blk := false }, [], rfl, by rw [List.length_set]; exact hR, hu', by omega, ho, hru, .inr (.inr (.inl ⟨a1, rfl, rfl, by omega⟩))⟩
        · omega
        · omega
      · have e3 : gR ((n : Int) - d) (-1) L = [] := by unfold gR; rw [if_neg (fun h => hz h.2)]
        have e4 : gL ((n : Int) - d) (-1) L = L := by unfold gL; rw [if_neg (fun h => hz h.2)]
        rw [e3, e4]
        refine ⟨t0, R.set j { t.next with blk := false }, L, rfl, by rw [List.length_set]; exact hR, hu', by omega, ho, hru, ?_⟩
        rcases hc with ⟨a1, b1, l1⟩ | ⟨a1, b1, l1, _⟩ | ⟨a1, b1, l1, dn⟩ | ⟨a1, b1, l1, dn⟩
        · exact .inl ⟨a1, b1, l1⟩
        · exact .inr (.inl ⟨a1, b1, l1, by omega⟩)
        · omega
        · omega
theorem wt_end (n : Nat) (S : PS) (d : Nat) (h : WtI n S d) (hnr : ∀ t ∈ S.T, t.ready = false) : (pickT Tk.open_ S.T S.T.length).isEmpty = true := by
  obtain ⟨t0, R, L, rfl, hR, hu, hd, ho, hru, hc⟩ := h
  have hR2 : ∀ u ∈ R, u.at_ = 2 := fun u hm => by
    obtain ⟨o, b, _, a⟩ := hu u hm
    have := not_ready (hnr u (List.mem_cons_of_mem _ hm)) b
    rw [o] at this
    have h2 : wtR.length = 2 := rfl
    omega
  have hdn : d = n := by rw [hd, dones_full R hR2, hR]
  have h3 : (wtO (n : Int)).length = 3 := rfl
  have ht0 : t0.blk = false ∧ t0.at_ = 3 := by
    have hn0 := hnr t0 List.mem_cons_self
    rcases hc with ⟨a1, b1, l1⟩ | ⟨a1, b1, l1, _⟩ | ⟨a1, b1, l1, dn⟩ | ⟨a1, b1, l1, dn⟩
    · have := not_ready hn0 b1; rw [ho] at this; omega
    · omega
    · have := not_ready hn0 b1; rw [ho] at this; omega
    · exact ⟨b1, a1⟩
  rw [pickT_nil (fun t ht => ?_)]
  · rfl
  · rcases List.mem_cons.1 ht with rfl | ht
    · exact not_open ht0.1 (by rw [ho, ht0.2]; exact Nat.le_refl _)
    · obtain ⟨o, b, _, a⟩ := hu t ht
      exact not_open b (by rw [o, hR2 t ht]; exact Nat.le_refl _)
theorem wt_mu (n : Nat) (hn : n ≤ 8) : mu (newS (wtO n :: List.replicate n wtR)).T ≤ 40 := by
  unfold mu newS
  simp only [List.map_cons, List.map_replicate, List.sum_cons, List.sum_replicate_nat]
  have e1 : muT (freshT (wtO (n : Int))) = 3 := rfl
  have e2 : muT (freshT wtR) = 2 := rfl
  rw [e1, e2]
  omega
end Go.Proofs.Ytmohpjkbhpgidaa.A
