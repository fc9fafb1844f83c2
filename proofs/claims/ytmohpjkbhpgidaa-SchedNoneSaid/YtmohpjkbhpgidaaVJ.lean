/-
  The scheduler in plain Lean: tasks and mutexes without their blocks; what a step makes of them.
-/
import Derived.Test.YtmohpjkbhpgidaaVI
namespace Go.Proofs.Ytmohpjkbhpgidaa.A
open Go.RowKit Go.Proofs.Ytmohpjkbhpgidaa.U
set_option linter.unusedVariables false
set_option linter.unusedSimpArgs false

/-- A mutex without its block. -/
structure PM where
  num : Int
  h : Bool
  who : Int
  L : List Wt
/-- The scheduler without its blocks. -/
structure PS where
  T : List Tk
  M : List PM
def pm (o : Ob) : PM := ⟨o.num, o.h, o.who, o.L⟩
def Rel (X : List (Nat × Tk)) (O : List Ob) (S : PS) : Prop := X.map (·.2) = S.T ∧ O.map pm = S.M
def pickT (p : Tk → Bool) (T : List Tk) : Nat → List Int
  | 0 => []
  | k + 1 => pickT p T k ++ (match T[k]? with | some t => if p t then [(k : Int)] else [] | none => [])
theorem pickL_T (p : Tk → Bool) (X : List (Nat × Tk)) : ∀ k, pickL p X k = pickT p (X.map (·.2)) k
  | 0 => rfl
  | k + 1 => by
    unfold pickL pickT
    rw [pickL_T p X k, List.getElem?_map]
    cases X[k]? <;> rfl
def wakeT1 (T : List Tk) (u : Int) : List Tk := match T[u.toNat]? with | some t => T.set u.toNat { t with blk := false } | none => T
def wakeT : List Tk → List Int → List Tk
  | T, [] => T
  | T, u :: l => wakeT (wakeT1 T u) l
theorem wake1_T (X : List (Nat × Tk)) (u : Int) : (wake1 X u).map (·.2) = wakeT1 (X.map (·.2)) u := by
  unfold wake1 wakeT1
  rw [List.getElem?_map]
  cases X[u.toNat]? with
  | none => rfl
  | some x => simp [List.map_set]
theorem wake_T : ∀ (l : List Int) (X : List (Nat × Tk)), (wakeAll X l).map (·.2) = wakeT (X.map (·.2)) l
  | [], X => rfl
  | u :: l, X => by
    show (wakeAll (wake1 X u) l).map (·.2) = wakeT (wakeT1 (X.map (·.2)) u) l
    rw [wake_T l, wake1_T]
def doM (m : PM) (k id : Int) : Bool × List Int × Int × PM :=
  if k = 1 then (!(mLock m.h m.who m.L id).1, [], (mLock m.h m.who m.L id).2.1, ⟨m.num, (mLock m.h m.who m.L id).2.2.1, (mLock m.h m.who m.L id).2.2.2.1, (mLock m.h m.who m.L id).2.2.2.2⟩)
  else (false, wakeL (mUnlock m.h m.who m.L id).1 (mUnlock m.h m.who m.L id).2.1, (mUnlock m.h m.who m.L id).2.1, ⟨m.num, (mUnlock m.h m.who m.L id).2.2.1, (mUnlock m.h m.who m.L id).2.2.2.1, (mUnlock m.h m.who m.L id).2.2.2.2⟩)
theorem doS_M (o : Ob) (k id : Int) : (doS o k id).1 = (doM (pm o) k id).1 ∧ (doS o k id).2.1 = (doM (pm o) k id).2.1 ∧ (doS o k id).2.2.1 = (doM (pm o) k id).2.2.1 ∧ pm (doS o k id).2.2.2 = (doM (pm o) k id).2.2.2 := by
  unfold doS doM
  split <;> exact ⟨rfl, rfl, rfl, rfl⟩
def findM (M : List PM) (n : Int) : List PM := if M.any (fun m => m.num == n) then M else M ++ [⟨n, false, 0, []⟩]
def idxM (M : List PM) (n : Int) : Nat := M.findIdx fun m => m.num == n
def zPM : PM := ⟨0, false, 0, []⟩
/-- A step of task i, whose next operation is x: the error, and what is left. -/
def stepX (S : PS) (i : Nat) (t : Tk) (x : Op3) : Int × PS :=
  if x.k = 9 then (0, ⟨S.T.set i t.next, S.M⟩)
  else
    let M1 := findM S.M x.obj
    let d := doM (M1.getD (idxM M1 x.obj) zPM) x.k i
    (d.2.2.1, ⟨wakeT (S.T.set i { t.next with blk := d.1 && d.2.2.1 == 0 }) d.2.1, M1.set (idxM M1 x.obj) d.2.2.2⟩)
theorem idx_of {M : List PM} {n : Int} {j : Nat} {m : PM} (h : M[j]? = some m) (hn : m.num = n) (hf : ∀ (j' : Nat) (m' : PM), j' < j → M[j']? = some m' → m'.num ≠ n) : idxM M n = j := by
  obtain ⟨hj, he⟩ := List.getElem?_eq_some_iff.1 h
  unfold idxM
  rw [List.findIdx_eq hj]
  refine ⟨by rw [he]; simp [hn], fun j' hj' => ?_⟩
  have := hf j' (M[j']'(by omega)) hj' (List.getElem?_eq_getElem (by omega))
  simpa using this
theorem rel_yield {X : List (Nat × Tk)} {O : List Ob} {S : PS} (h : Rel X O S) {i : Nat} {t : Nat × Tk} (x : Op3) (hk : x.k = 9) : Rel (X.set i (t.1, t.2.next)) O (stepX S i t.2 x).2 ∧ (stepX S i t.2 x).1 = 0 := by
  unfold stepX
  rw [if_pos hk]
  refine ⟨⟨?_, h.2⟩, rfl⟩
  show (X.set i (t.1, t.2.next)).map (·.2) = S.T.set i t.2.next
  rw [List.map_set, h.1]
theorem rel_mutex {X : List (Nat × Tk)} {O : List Ob} {S : PS} (h : Rel X O S) {i : Nat} {t : Nat × Tk} {x : Op3} (hk : x.k ≠ 9) {O1 : List Ob} {j : Nat} {o : Ob} (h1 : O1[j]? = some o) (h2 : o.num = x.obj)
    (h3 : ∀ (j' : Nat) (o' : Ob), j' < j → O1[j']? = some o' → o'.num ≠ x.obj) (h4 : O1 = O ∨ (O1 = O ++ [o] ∧ o.h = false ∧ o.who = 0 ∧ o.L = [] ∧ ∀ o ∈ O, o.num ≠ x.obj)) :
    Rel (wakeAll (X.set i (t.1, { t.2.next with blk := (doS o x.k i).1 && (doS o x.k i).2.2.1 == 0 })) (doS o x.k i).2.1) (O1.set j (doS o x.k i).2.2.2) (stepX S i t.2 x).2 ∧ (stepX S i t.2 x).1 = (doS o x.k i).2.2.1 := by
  have hM : O1.map pm = findM S.M x.obj := by
    unfold findM
    rw [← h.2]
    rcases h4 with rfl | ⟨rfl, e1, e2, e3, hn⟩
    · rw [if_pos]
      rw [List.any_map, List.any_eq_true]
      exact ⟨o, List.mem_of_getElem? h1, by simp [pm, h2]⟩
    · rw [if_neg]
      · rw [List.map_append]
        congr 1
        show [pm o] = _
        unfold pm
        rw [h2, e1, e2, e3]
      · rw [List.any_map, List.any_eq_true]
        rintro ⟨o', ho', he⟩
        exact hn o' ho' (by simpa [pm] using he)
  have hj : (findM S.M x.obj)[j]? = some (pm o) := by rw [← hM, List.getElem?_map, h1]; rfl
  have hi : idxM (findM S.M x.obj) x.obj = j := idx_of hj h2 (fun j' m' hj' hm' => by
    rw [← hM, List.getElem?_map] at hm'
    cases ho' : O1[j']? with
    | none => rw [ho'] at hm'; cases hm'
    | some o' =>
      rw [ho'] at hm'
      injection hm' with hm'
      subst hm'
      exact h3 j' o' hj' ho')
  obtain ⟨d1, d2, d3, d4⟩ := doS_M o x.k i
  unfold stepX
  rw [if_neg hk]
  dsimp only
  rw [hi, show (findM S.M x.obj).getD j zPM = pm o by rw [List.getD_eq_getElem?_getD, hj]; rfl]
  refine ⟨⟨?_, ?_⟩, d3.symm⟩
  · show (wakeAll _ _).map (·.2) = wakeT _ _
    rw [wake_T, List.map_set, h.1, d1, d2, d3]
  · show (O1.set j _).map pm = (findM S.M x.obj).set j _
    rw [List.map_set, hM, d4]
end Go.Proofs.Ytmohpjkbhpgidaa.A
