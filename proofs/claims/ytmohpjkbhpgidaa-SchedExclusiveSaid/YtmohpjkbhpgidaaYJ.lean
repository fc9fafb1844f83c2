/-
  The scheduler in plain Lean: tasks and objects without their blocks; a step by it; what stays good. Printed by gen_yj.py.
-/
import Derived.Test.YtmohpjkbhpgidaaYI
namespace Go.Proofs.Ytmohpjkbhpgidaa.A
open Go.RowKit Go.Proofs.Ytmohpjkbhpgidaa.U
set_option linter.unusedVariables false
set_option linter.unusedSimpArgs false

/-- An object without its block. -/
structure PM where
  num : Int
  st : OS
def PM.key (m : PM) : Int × Int := (m.st.kd, m.num)
/-- The scheduler without its blocks. -/
structure PS where
  T : List Tk
  M : List PM
def pm (o : Ob) : PM := ⟨o.num, o.st⟩
def Rel (X : List (Nat × Tk)) (O : List Ob) (S : PS) : Prop := X.map (·.2) = S.T ∧ O.map pm = S.M
def pickT (p : Tk → Bool) (T : List Tk) : Nat → List Int
  | 0 => []
  | k + 1 => pickT p T k ++ (match T[k]? with | some t => if p t then [(k : Int)] else [] | none => [])
theorem pickL_T (p : Tk → Bool) (X : List (Nat × Tk)) : ∀ k, pickL p X k = pickT p (X.map (·.2)) k
  | 0 => rfl
  | k + 1 => by
    unfold pickL pickT
    rw [pickL_T p X k, List.getElem?_map]
    cases X[k]? <;> rfl
def wakeT1 (T : List Tk) (u : Int) : List Tk := match T[u.toNat]? with | some t => T.set u.toNat { t with blk := false } | none => T
def wakeT : List Tk → List Int → List Tk
  | T, [] => T
  | T, u :: l => wakeT (wakeT1 T u) l
theorem wake1_T (X : List (Nat × Tk)) (u : Int) : (wake1 X u).map (·.2) = wakeT1 (X.map (·.2)) u := by
  unfold wake1 wakeT1
  rw [List.getElem?_map]
  cases X[u.toNat]? with
  | none => rfl
  | some x => simp [List.map_set]
theorem wake_T : ∀ (l : List Int) (X : List (Nat × Tk)), (wakeAll X l).map (·.2) = wakeT (X.map (·.2)) l
  | [], X => rfl
  | u :: l, X => by
    show (wakeAll (wake1 X u) l).map (·.2) = wakeT (wakeT1 (X.map (·.2)) u) l
    rw [wake_T l, wake1_T]
def findM (M : List PM) (n : Int × Int) : List PM := if M.any (fun m => m.key == n) then M else M ++ [⟨n.2, fresh n.1⟩]
def idxM (M : List PM) (n : Int × Int) : Nat := M.findIdx fun m => m.key == n
def zPM : PM := ⟨0, .g 0 []⟩
/-- A step of task i, whose next operation is x: the error, and what is left. -/
def stepX (S : PS) (i : Nat) (t : Tk) (x : Op3) : Int × PS :=
  if x.k = 9 then (0, ⟨S.T.set i t.next, S.M⟩)
  else match kindO x.k x.n with
    | none => (1, ⟨S.T.set i t.next, S.M⟩)
    | some kd =>
      let M1 := findM S.M (kd, x.obj)
      let m := M1.getD (idxM M1 (kd, x.obj)) zPM
      let d := doS m.st x i t.next
      (d.er, ⟨wakeT (S.T.set i { d.tk with blk := d.wait && d.er == 0 }) d.wk, M1.set (idxM M1 (kd, x.obj)) ⟨m.num, d.st⟩⟩)
theorem idx_of {M : List PM} {n : Int × Int} {j : Nat} {m : PM} (h : M[j]? = some m) (hn : m.key = n) (hf : ∀ (j' : Nat) (m' : PM), j' < j → M[j']? = some m' → m'.key ≠ n) : idxM M n = j := by
  obtain ⟨hj, he⟩ := List.getElem?_eq_some_iff.1 h
  unfold idxM
  rw [List.findIdx_eq hj]
  refine ⟨by rw [he]; simp [hn], fun j' hj' => ?_⟩
  have := hf j' (M[j']'(by omega)) hj' (List.getElem?_eq_getElem (by omega))
  simpa using this
theorem rel_yield {X : List (Nat × Tk)} {O : List Ob} {S : PS} (h : Rel X O S) {i : Nat} {t : Nat × Tk} (x : Op3) (hk : x.k = 9) : Rel (X.set i (t.1, t.2.next)) O (stepX S i t.2 x).2 ∧ (stepX S i t.2 x).1 = 0 := by
  unfold stepX
  rw [if_pos hk]
  refine ⟨⟨?_, h.2⟩, rfl⟩
  show (X.set i (t.1, t.2.next)).map (·.2) = S.T.set i t.2.next
  rw [List.map_set, h.1]
theorem rel_bad {X : List (Nat × Tk)} {O : List Ob} {S : PS} (h : Rel X O S) {i : Nat} {t : Nat × Tk} (x : Op3) (hk9 : x.k ≠ 9) (hk : kindO x.k x.n = none) : Rel (X.set i (t.1, t.2.next)) O (stepX S i t.2 x).2 ∧ (stepX S i t.2 x).1 = 1 := by
  unfold stepX
  rw [if_neg hk9, hk]
  refine ⟨⟨?_, h.2⟩, rfl⟩
  show (X.set i (t.1, t.2.next)).map (·.2) = S.T.set i t.2.next
  rw [List.map_set, h.1]
theorem kindO_mem {k n kd : Int} (h : kindO k n = some kd) : kd = 109 ∨ kd = 119 ∨ kd = 103 ∨ kd = 111 := by
  unfold kindO at h
  (repeat' split at h) <;> first | (simp at h; done) | (injection h with h; omega)
theorem fresh_kd {k n kd : Int} (h : kindO k n = some kd) : (fresh kd).kd = kd := by
  rcases kindO_mem h with rfl | rfl | rfl | rfl <;> rfl
theorem rel_obj {X : List (Nat × Tk)} {O : List Ob} {S : PS} (h : Rel X O S) {i : Nat} {t : Nat × Tk} {x : Op3} {kd : Int} (hk9 : x.k ≠ 9) (hk : kindO x.k x.n = some kd) {O1 : List Ob} {j : Nat} {o : Ob} (h1 : O1[j]? = some o) (h2 : o.key = (kd, x.obj))
    (h3 : ∀ (j' : Nat) (o' : Ob), j' < j → O1[j']? = some o' → o'.key ≠ (kd, x.obj)) (h4 : O1 = O ∨ (O1 = O ++ [o] ∧ o.st = fresh kd ∧ ∀ o ∈ O, o.key ≠ (kd, x.obj))) :
    Rel (wakeAll (X.set i (t.1, { (doS o.st x i t.2.next).tk with blk := (doS o.st x i t.2.next).wait && (doS o.st x i t.2.next).er == 0 })) (doS o.st x i t.2.next).wk) (O1.set j { o with st := (doS o.st x i t.2.next).st }) (stepX S i t.2 x).2 ∧ (stepX S i t.2 x).1 = (doS o.st x i t.2.next).er := by
  have hM : O1.map pm = findM S.M (kd, x.obj) := by
    unfold findM
    rw [← h.2]
    rcases h4 with rfl | ⟨rfl, e1, hn⟩
    · rw [if_pos]
      rw [List.any_map, List.any_eq_true]
      exact ⟨o, List.mem_of_getElem? h1, by simp only [Function.comp]; exact beq_iff_eq.2 h2⟩
    · rw [if_neg]
      · rw [List.map_append]
        congr 1
        show [pm o] = _
        unfold pm
        rw [(Prod.mk.inj h2).2, e1]
      · rw [List.any_map, List.any_eq_true]
        rintro ⟨o', ho', he⟩
        exact hn o' ho' (beq_iff_eq.1 he)
  have hj : (findM S.M (kd, x.obj))[j]? = some (pm o) := by rw [← hM, List.getElem?_map, h1]; rfl
  have hi : idxM (findM S.M (kd, x.obj)) (kd, x.obj) = j := idx_of hj h2 (fun j' m' hj' hm' => by
    rw [← hM, List.getElem?_map] at hm'
    cases ho' : O1[j']? with
    | none => rw [ho'] at hm'; cases hm'
    | some o' =>
      rw [ho'] at hm'
      injection hm' with hm'
      subst hm'
      exact h3 j' o' hj' ho')
  unfold stepX
  rw [if_neg hk9, hk]
  dsimp only
  rw [hi, show (findM S.M (kd, x.obj)).getD j zPM = pm o by rw [List.getD_eq_getElem?_getD, hj]; rfl]
  refine ⟨⟨?_, ?_⟩, rfl⟩
  · show (wakeAll _ _).map (·.2) = wakeT _ _
    rw [wake_T, List.map_set, h.1]
    rfl
  · show (O1.set j _).map pm = (findM S.M (kd, x.obj)).set j _
    rw [List.map_set, hM]
    rfl
theorem wakeT1_ops (T : List Tk) (u : Int) : (wakeT1 T u).map (·.ops) = T.map (·.ops) := by
  unfold wakeT1
  cases h : T[u.toNat]? with
  | none => rfl
  | some t =>
    apply List.ext_getElem?
    intro j
    show ((T.set u.toNat { t with blk := false }).map (·.ops))[j]? = _
    rw [List.getElem?_map, List.getElem?_map, List.getElem?_set]
    by_cases hj : u.toNat = j
    · subst hj
      have hl := (List.getElem?_eq_some_iff.1 h).1
      rw [if_pos rfl, if_pos hl, h]; rfl
    · rw [if_neg hj]
theorem wakeT_ops : ∀ (l : List Int) (T : List Tk), (wakeT T l).map (·.ops) = T.map (·.ops)
  | [], T => rfl
  | u :: l, T => by
    show (wakeT (wakeT1 T u) l).map (·.ops) = _
    rw [wakeT_ops l, wakeT1_ops]
theorem set_ops {T : List Tk} {i : Nat} {t t' : Tk} (h : T[i]? = some t) (he : t'.ops = t.ops) : (T.set i t').map (·.ops) = T.map (·.ops) := by
  apply List.ext_getElem?
  intro j
  rw [List.getElem?_map, List.getElem?_map, List.getElem?_set]
  by_cases hj : i = j
  · subst hj
    have hl := (List.getElem?_eq_some_iff.1 h).1
    rw [if_pos rfl, if_pos hl, h]
    show some t'.ops = some t.ops
    rw [he]
  · rw [if_neg hj]
theorem wakeT1_mem {T : List Tk} {u : Int} {P : Tk → Prop} (h : ∀ t ∈ T, P t) (hP : ∀ t, P t → P { t with blk := false }) : ∀ t ∈ wakeT1 T u, P t := by
  unfold wakeT1
  cases hu : T[u.toNat]? with
  | none => exact h
  | some t' =>
    intro t ht
    rcases List.mem_or_eq_of_mem_set ht with ht | rfl
    · exact h t ht
    · exact hP t' (h t' (List.mem_of_getElem? hu))
theorem wakeT_mem {P : Tk → Prop} (hP : ∀ t, P t → P { t with blk := false }) : ∀ (l : List Int) (T : List Tk), (∀ t ∈ T, P t) → ∀ t ∈ wakeT T l, P t
  | [], T, h => h
  | u :: l, T, h => wakeT_mem hP l _ (wakeT1_mem h hP)
theorem doS_tk (s : OS) (x : Op3) (id : Int) (T : Tk) : (doS s x id T).tk = T ∨ (doS s x id T).tk = T.pop ∨ (doS s x id T).tk = T.push x.obj ∨ (doS s x id T).tk = T.past := by
  cases s <;> unfold doS <;> dsimp only
  · split <;> exact .inl rfl
  · split <;> exact .inl rfl
  · split <;> exact .inl rfl
  · split
    · split
      · exact .inr (.inl rfl)
      · exact .inl rfl
    · dsimp only
      split
      · exact .inl rfl
      · split
        · exact .inr (.inr (.inl rfl))
        · exact .inr (.inr (.inr rfl))
theorem doS_ops (s : OS) (x : Op3) (id : Int) (T : Tk) : (doS s x id T).tk.ops = T.ops := by
  rcases doS_tk s x id T with h | h | h | h <;> rw [h] <;> rfl
theorem stepX_ops {S : PS} {i : Nat} {t : Tk} {x : Op3} (h : S.T[i]? = some t) : (stepX S i t x).2.T.map (·.ops) = S.T.map (·.ops) := by
  unfold stepX
  split
  · exact set_ops h rfl
  · cases kindO x.k x.n with
    | none => exact set_ops h rfl
    | some kd =>
      show (wakeT _ _).map (·.ops) = _
      rw [wakeT_ops]
      exact set_ops h (by show (doS _ x i t.next).tk.ops = t.ops; rw [doS_ops]; rfl)
/-- What stays so: k grows by one at each step. -/
structure GoodS (S : PS) (k : Nat) : Prop where
  ops : ∀ l ∈ S.T.map (·.ops), l.length ≤ 1000000 ∧ ∀ x ∈ l, -9223372036854775808 ≤ x.n ∧ x.n ≤ 9223372036854775807
  len : S.T.length ≤ 1000000
  tk : ∀ t ∈ S.T, t.at_ ≤ t.ops.length ∧ t.runs.length ≤ k
  ok : ∀ m ∈ S.M, m.st.ok k S.T.length
theorem findM_q {M : List PM} {n : Int × Int} {P : PM → Prop} (h : ∀ m ∈ M, P m) (hz : P ⟨n.2, fresh n.1⟩) : ∀ m ∈ findM M n, P m := by
  unfold findM
  split
  · exact h
  · intro m hm
    rcases List.mem_append.1 hm with hm | hm
    · exact h m hm
    · rw [List.mem_singleton.1 hm]; exact hz
theorem GoodS.step {S : PS} {k i : Nat} {t : Tk} {x : Op3} (h : GoodS S k) (ht : S.T[i]? = some t) (hr : t.ready = true) : GoodS (stepX S i t x).2 (k + 1) := by
  have ho := stepX_ops (x := x) ht
  have hl : (stepX S i t x).2.T.length = S.T.length := by have := congrArg List.length ho; simpa using this
  have hi := (List.getElem?_eq_some_iff.1 ht).1
  have ht0 := h.tk t (List.mem_of_getElem? ht)
  have hat : t.at_ < t.ops.length := by unfold Tk.ready at hr; simp at hr; exact hr.2
  have hnx : t.next.at_ ≤ t.next.ops.length ∧ t.next.runs.length ≤ k + 1 := ⟨hat, by show t.runs.length ≤ k + 1; omega⟩
  have h0 : ∀ t' ∈ S.T, t'.at_ ≤ t'.ops.length ∧ t'.runs.length ≤ k + 1 := fun t' h' => ⟨(h.tk t' h').1, by have := (h.tk t' h').2; omega⟩
  have hset : ∀ t2 : Tk, (t2.at_ ≤ t2.ops.length ∧ t2.runs.length ≤ k + 1) → ∀ t' ∈ S.T.set i t2, t'.at_ ≤ t'.ops.length ∧ t'.runs.length ≤ k + 1 := fun t2 h2 t' h' => by
    rcases List.mem_or_eq_of_mem_set h' with h' | rfl
    · exact h0 t' h'
    · exact h2
  have hm0 : ∀ m ∈ S.M, m.st.ok (k + 1) S.T.length := fun m hm => (h.ok m hm).more (by omega)
  refine ⟨by rw [ho]; exact h.ops, by rw [hl]; exact h.len, ?_, ?_⟩
  · unfold stepX
    split
    · exact hset _ hnx
    · cases kindO x.k x.n with
      | none => exact hset _ hnx
      | some kd =>
        dsimp only
        refine wakeT_mem (fun t h => h) _ _ (hset _ ?_)
        show (doS _ x i t.next).tk.at_ ≤ (doS _ x i t.next).tk.ops.length ∧ (doS _ x i t.next).tk.runs.length ≤ k + 1
        rcases doS_tk ((findM S.M (kd, x.obj)).getD (idxM (findM S.M (kd, x.obj)) (kd, x.obj)) zPM).st x i t.next with h | h | h | h <;> rw [h]
        · exact hnx
        · exact ⟨hnx.1, by show t.runs.dropLast.length ≤ _; rw [List.length_dropLast]; omega⟩
        · exact ⟨hnx.1, by show (t.runs ++ [x.obj]).length ≤ _; simp; omega⟩
        · refine ⟨?_, hnx.2⟩
          show t.next.at_ + pastL 1 (t.next.ops.drop t.next.at_) ≤ t.next.ops.length
          have := pastL_le (t.next.ops.drop t.next.at_) 1
          rw [List.length_drop] at this
          have := hnx.1
          omega
  · rw [hl]
    unfold stepX
    split
    · exact hm0
    · cases hkd : kindO x.k x.n with
      | none => exact hm0
      | some kd =>
        dsimp only
        intro m hm
        have hf := findM_q (n := (kd, x.obj)) (P := fun m => m.st.ok k S.T.length) h.ok (fresh_ok _ _ _)
        rcases List.mem_or_eq_of_mem_set hm with hm | rfl
        · exact (hf m hm).more (by omega)
        · refine (doS_ok ?_ ⟨by omega, by omega⟩).1
          rw [List.getD_eq_getElem?_getD]
          cases hg : (findM S.M (kd, x.obj))[idxM (findM S.M (kd, x.obj)) (kd, x.obj)]? with
          | none => exact ⟨by decide, by decide, Nat.zero_le _, fun y hy => by cases hy⟩
          | some m => exact hf m (List.mem_of_getElem? hg)
section
variable {B : Nat} {w0 w : World} {Q : SP} {b bm : Nat} {X : List (Nat × Tk)} {O : List Ob} {S : PS}
theorem x_step (h : Holds B w0 w (star (schP b X bm O) Q)) (hQ : Stable Q) (hr : Rel X O S) {k : Nat} (hg : GoodS S k) (hk : k ≤ 500000) (i : Nat) (t : Tk) (ht : S.T[i]? = some t) (hrd : t.ready = true) (x : Op3) (hx : t.ops[t.at_]? = some x) :
    Calls Try.prog 62 #[.pointer (some ⟨b, 0, none⟩), .int .i64 i] w (fun e w' => ∃ X' O', e = .returned (.tuple #[.agg (evCs i t.at_ (stepX S i t x).1), .int .i64 0]) ∧ Rel X' O' (stepX S i t x).2 ∧ Holds B w0 w' (star (schP b X' bm O') Q)) := by
  have hXl : X.length = S.T.length := by rw [← hr.1, List.length_map]
  have hXi : ∃ g, X[i]? = some (g, t) := by
    rw [← hr.1, List.getElem?_map] at ht
    cases hx' : X[i]? with
    | none => rw [hx'] at ht; cases ht
    | some y => rw [hx'] at ht; injection ht with ht; exact ⟨y.1, by rw [← ht]⟩
  obtain ⟨g, hXi⟩ := hXi
  have hop := hg.ops t.ops (List.mem_map.2 ⟨t, List.mem_of_getElem? ht, rfl⟩)
  have htk := hg.tk t (List.mem_of_getElem? ht)
  by_cases hk9 : x.k = 9
  · refine (step_yield h hQ (by rw [hXl]; exact hg.len) i (g, t) hXi hrd x hx hk9 hop.1).mono ?_
    rintro e w' ⟨rfl, hh⟩
    obtain ⟨h1, h2⟩ := rel_yield hr (i := i) (t := (g, t)) x hk9
    exact ⟨_, _, by rw [h2], h1, hh⟩
  · cases hkd : kindO x.k x.n with
    | none =>
      refine (step_bad h hQ (by rw [hXl]; exact hg.len) i (g, t) hXi hrd x hx hk9 hkd hop.1).mono ?_
      rintro e w' ⟨rfl, hh⟩
      obtain ⟨h1, h2⟩ := rel_bad hr (i := i) (t := (g, t)) x hk9 hkd
      exact ⟨_, _, by rw [h2], h1, hh⟩
    | some kd =>
      have hn := hop.2 x (List.mem_of_getElem? hx)
      refine (step_obj h hQ (by rw [hXl]; exact hg.len) i (g, t) hXi hrd x hx hk9 kd hkd hop.1 (by have := htk.2; show t.runs.length ≤ _; omega) hn.1 hn.2 k hk (fun o ho => by rw [hXl]; exact hg.ok (pm o) (by rw [← hr.2]; exact List.mem_map_of_mem ho))).mono ?_
      rintro e w' ⟨O1, j, o, h1, h2, h3, h4, rfl, hh⟩
      obtain ⟨r1, r2⟩ := rel_obj hr (i := i) (t := (g, t)) (x := x) hk9 hkd h1 h2 h3 h4
      exact ⟨_, _, by rw [r2], r1, hh⟩
end
end Go.Proofs.Ytmohpjkbhpgidaa.A
