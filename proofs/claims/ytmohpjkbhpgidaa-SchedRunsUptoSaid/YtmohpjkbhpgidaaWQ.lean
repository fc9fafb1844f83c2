/-
  Tasks as an argument; SchedRuns: the two Runs answer alike.
-/
import Derived.Test.YtmohpjkbhpgidaaWK
import Derived.Test.YtmohpjkbhpgidaaYU
namespace Go.Proofs.Ytmohpjkbhpgidaa.A
open Go.RowKit Go.Proofs.Ytmohpjkbhpgidaa.U
set_option linter.unusedVariables false
set_option linter.unusedSimpArgs false

section
variable {α : Type} {key : α → Int × Int}
theorem find_set : ∀ {l : List α} {j : Nat} {a a' : α} {n : Int × Int}, l[j]? = some a → key a = n → (∀ (j' : Nat) (y : α), j' < j → l[j']? = some y → key y ≠ n) → key a' = n → ∀ n', (l.set j a').find? (fun y => key y == n') = if n' = n then some a' else l.find? (fun y => key y == n')
  | [], j, a, a', n, h, _, _, _, _ => by simp at h
  | y :: l, 0, a, a', n, h, hn, hf, ha, n' => by
    simp only [List.getElem?_cons_zero, Option.some.injEq] at h
    subst h
    show (a' :: l).find? _ = _
    rw [List.find?_cons, List.find?_cons]
    by_cases hq : n' = n
    · subst hq; simp [ha]
    · rw [if_neg hq]
      have e1 : (key a' == n') = false := by simp [ha]; exact fun h => hq h.symm
      have e2 : (key y == n') = false := by simp [hn]; exact fun h => hq h.symm
      rw [e1, e2]
  | y :: l, j + 1, a, a', n, h, hn, hf, ha, n' => by
    show (y :: l.set j a').find? _ = _
    have h0 := hf 0 y (by omega) rfl
    have ih := find_set (l := l) (j := j) (a := a) (a' := a') (n := n) (by simpa using h) hn (fun j' y' hj' hy => hf (j' + 1) y' (by omega) (by simpa using hy)) ha n'
    rw [List.find?_cons, List.find?_cons, ih]
    by_cases hq : n' = n
    · subst hq
      have e1 : (key y == n') = false := by simp [h0]
      rw [e1, if_pos rfl]
    · rw [if_neg hq, if_neg hq]
theorem find_here : ∀ {l : List α} {j : Nat} {a : α} {n : Int × Int}, l[j]? = some a → key a = n → (∀ (j' : Nat) (y : α), j' < j → l[j']? = some y → key y ≠ n) → l.find? (fun y => key y == n) = some a
  | [], j, a, n, h, _, _ => by simp at h
  | y :: l, 0, a, n, h, hn, hf => by
    simp only [List.getElem?_cons_zero, Option.some.injEq] at h
    subst h
    rw [List.find?_cons]
    simp [hn]
  | y :: l, j + 1, a, n, h, hn, hf => by
    have h0 := hf 0 y (by omega) rfl
    rw [List.find?_cons]
    have e1 : (key y == n) = false := by simp [h0]
    rw [e1]
    exact find_here (l := l) (j := j) (by simpa using h) hn (fun j' y' hj' hy => hf (j' + 1) y' (by omega) (by simpa using hy))
end
def getO (O : List RO) (n : Int × Int) : OS := match O.find? (fun o => o.key == n) with | some o => o.st | none => freshR n.1
def getP (M : List PM) (n : Int × Int) : OS := match M.find? (fun m => m.key == n) with | some m => m.st | none => fresh n.1
def kR (kd : Int) : Int := if kd = 109 then 0 else if kd = 119 then 1 else if kd = 103 then 2 else 3
def isK (kd : Int) : Prop := kd = 109 ∨ kd = 119 ∨ kd = 103 ∨ kd = 111
theorem freshR_kR {kd : Int} (h : isK kd) : freshR (kR kd) = fresh kd := by
  rcases h with rfl | rfl | rfl | rfl <;> rfl
theorem kR_inj {a b : Int} (ha : isK a) (hb : isK b) (h : kR a = kR b) : a = b := by
  rcases ha with rfl | rfl | rfl | rfl <;> rcases hb with rfl | rfl | rfl | rfl <;> first | rfl | (exact absurd h (by decide))
theorem getO_new {O O1 : List RO} {o : RO} {n : Int × Int} (hk : o.key = n) (h : O1 = O ∨ (O1 = O ++ [o] ∧ o.st = freshR n.1 ∧ ∀ o ∈ O, o.key ≠ n)) (n' : Int × Int) : getO O1 n' = getO O n' := by
  rcases h with rfl | ⟨rfl, hs, _⟩
  · rfl
  · unfold getO
    rw [List.find?_append]
    cases hq : O.find? (fun o => o.key == n') with
    | some y => rfl
    | none =>
      rw [Option.none_or, List.find?_cons]
      by_cases he : n = n'
      · subst he
        have e1 : (o.key == n) = true := by simp [hk]
        rw [e1]
        exact hs
      · have e1 : (o.key == n') = false := by rw [hk]; simp [he]
        rw [e1]
        rfl
theorem getO_at {O1 : List RO} {j : Nat} {o : RO} {n : Int × Int} (h : O1[j]? = some o) (hk : o.key = n) (hf : ∀ (j' : Nat) (o' : RO), j' < j → O1[j']? = some o' → o'.key ≠ n) : getO O1 n = o.st := by
  unfold getO
  rw [find_here (key := RO.key) h hk hf]
theorem getO_set {O1 : List RO} {j : Nat} {o : RO} {n : Int × Int} (h : O1[j]? = some o) (hk : o.key = n) (hf : ∀ (j' : Nat) (o' : RO), j' < j → O1[j']? = some o' → o'.key ≠ n) (s : OS) (hs : kindR s = kindR o.st) (n' : Int × Int) :
    getO (O1.set j { o with st := s }) n' = if n' = n then s else getO O1 n' := by
  unfold getO
  rw [find_set (key := RO.key) (a' := { o with st := s }) h hk hf (by rw [← hk]; show (kindR s, o.num) = (kindR o.st, o.num); rw [hs])]
  by_cases hq : n' = n
  · rw [if_pos hq, if_pos hq]
  · rw [if_neg hq, if_neg hq]
theorem fresh_key {n : Int × Int} (h : isK n.1) : (⟨n.2, fresh n.1⟩ : PM).key = n := by
  obtain ⟨a, b⟩ := n
  rcases h with h | h | h | h <;> (dsimp only at h; subst h; rfl)
theorem getP_new {M : List PM} {n : Int × Int} (hn : isK n.1) (n' : Int × Int) : getP (findM M n) n' = getP M n' := by
  unfold findM
  split
  · rfl
  · unfold getP
    rw [List.find?_append]
    cases hq : M.find? (fun m => m.key == n') with
    | some y => rfl
    | none =>
      rw [Option.none_or, List.find?_cons, fresh_key hn]
      by_cases he : n = n'
      · subst he
        simp
      · have e1 : (n == n') = false := by simp [he]
        rw [e1]
        rfl
theorem findM_at {M : List PM} {n : Int × Int} (hn : isK n.1) : ∃ m, (findM M n)[idxM (findM M n) n]? = some m ∧ m.key = n ∧ ∀ (j' : Nat) (m' : PM), j' < idxM (findM M n) n → (findM M n)[j']? = some m' → m'.key ≠ n := by
  have hex : ∃ m ∈ findM M n, (fun m : PM => m.key == n) m = true := by
    unfold findM
    split
    · rename_i h
      exact List.any_eq_true.1 h
    · exact ⟨⟨n.2, fresh n.1⟩, by simp, by simp only; rw [fresh_key hn]; simp⟩
  have hlt : idxM (findM M n) n < (findM M n).length := List.findIdx_lt_length_of_exists hex
  refine ⟨(findM M n)[idxM (findM M n) n], List.getElem?_eq_getElem hlt, ?_, fun j' m' hj' hm' => ?_⟩
  · have := List.findIdx_getElem (xs := findM M n) (p := fun m : PM => m.key == n) (w := hlt)
    exact beq_iff_eq.1 this
  · have h1 := List.not_of_lt_findIdx (xs := findM M n) (p := fun m : PM => m.key == n) hj'
    obtain ⟨hb, he⟩ := List.getElem?_eq_some_iff.1 hm'
    rw [he] at h1
    simpa using h1
theorem getP_at {M : List PM} {j : Nat} {m : PM} {n : Int × Int} (h : M[j]? = some m) (hk : m.key = n) (hf : ∀ (j' : Nat) (m' : PM), j' < j → M[j']? = some m' → m'.key ≠ n) : getP M n = m.st := by
  unfold getP
  rw [find_here (key := PM.key) h hk hf]
theorem getP_set {M : List PM} {j : Nat} {m : PM} {n : Int × Int} (h : M[j]? = some m) (hk : m.key = n) (hf : ∀ (j' : Nat) (m' : PM), j' < j → M[j']? = some m' → m'.key ≠ n) (s : OS) (hs : s.kd = m.st.kd) (n' : Int × Int) :
    getP (M.set j ⟨m.num, s⟩) n' = if n' = n then s else getP M n' := by
  unfold getP
  rw [find_set (key := PM.key) (a' := ⟨m.num, s⟩) h hk hf (by rw [← hk]; show (s.kd, m.num) = (m.st.kd, m.num); rw [hs])]
  by_cases hq : n' = n
  · rw [if_pos hq, if_pos hq]
  · rw [if_neg hq, if_neg hq]
/-- The reference and the plain scheduler answer alike. -/
def Eqv (R : List RTk) (O : List RO) (S : PS) : Prop := R.map (·.T) = S.T ∧ ∀ kd num, isK kd → getO O (kR kd, num) = getP S.M (kd, num)
theorem doS_wk (s : OS) (x : Op3) (id : Int) (T : Tk) : (doS s x id T).wk = [] ∨ (doS s x id T).wait = false := by
  cases s <;> unfold doS <;> dsimp only
  · split
    · exact .inl rfl
    · exact .inr rfl
  · split
    · exact .inl rfl
    · exact .inr rfl
  · split
    · exact .inr rfl
    · exact .inl rfl
  · split
    · split
      · exact .inr rfl
      · exact .inl rfl
    · exact .inl rfl
theorem doS_blk (s : OS) (x : Op3) (id : Int) (T : Tk) : (doS s x id T).tk.blk = T.blk := by
  rcases doS_tk s x id T with h | h | h | h <;> rw [h] <;> rfl
theorem doS_kR (s : OS) (x : Op3) (id : Int) (T : Tk) : kindR (doS s x id T).st = kindR s := by
  cases s <;> unfold doS <;> dsimp only
  · split <;> rfl
  · split <;> rfl
  · split <;> rfl
  · split
    · split <;> rfl
    · rfl
theorem doS_T (s : OS) (x : Op3) (id : Int) (T : Tk) (h : kindR s ≠ 3) : doS s x id T = { doS s x id zT with tk := T } := by
  cases s with
  | m => unfold doS; dsimp only; split <;> rfl
  | r => unfold doS; dsimp only; split <;> rfl
  | g => unfold doS; dsimp only; split <;> rfl
  | o => exact absurd rfl h
theorem doS_mg {s : OS} (x : Op3) (id : Int) (T : Tk) (h : mg s) : mg (doS s x id T).st := by
  cases s with
  | m h0 who L =>
    unfold doS
    dsimp only
    split
    · exact (lock_both h id).2
    · exact (unlock_both h id).2
  | r => unfold doS; dsimp only; split <;> trivial
  | g => unfold doS; dsimp only; split <;> trivial
  | o =>
    unfold doS
    dsimp only
    split
    · split <;> trivial
    · trivial
theorem wakeT1_at {T : List Tk} {i : Nat} {t : Tk} (h : T[i]? = some t) (hb : t.blk = false) (u : Int) : (wakeT1 T u)[i]? = some t := by
  unfold wakeT1
  cases hu : T[u.toNat]? with
  | none => exact h
  | some y =>
    show (T.set u.toNat _)[i]? = some t
    rw [List.getElem?_set]
    by_cases he : u.toNat = i
    · subst he
      rw [hu] at h
      injection h with h
      subst h
      rw [if_pos rfl, if_pos (List.getElem?_eq_some_iff.1 hu).1]
      rw [← hb]
    · rw [if_neg he]; exact h
theorem wakeT_at : ∀ (l : List Int) {T : List Tk} {i : Nat} {t : Tk}, T[i]? = some t → t.blk = false → (wakeT T l)[i]? = some t
  | [], T, i, t, h, _ => h
  | u :: l, T, i, t, h, hb => wakeT_at l (wakeT1_at h hb u) hb
/-- The reference blocks after it wakes, the implementation before. -/
theorem wake_block {T : List Tk} {i : Nat} {d : Ans} (hi : i < T.length) (hb : d.tk.blk = false) (hw : d.wk = [] ∨ d.wait = false) {q : Tk} (hq : (wakeT (T.set i d.tk) d.wk)[i]? = some q) :
    (wakeT (T.set i d.tk) d.wk).set i { q with blk := d.wait && d.er == 0 } = wakeT (T.set i { d.tk with blk := d.wait && d.er == 0 }) d.wk := by
  have h0 : (T.set i d.tk)[i]? = some d.tk := by rw [List.getElem?_set, if_pos rfl, if_pos hi]
  have h1 := wakeT_at d.wk h0 hb
  rw [hq] at h1
  injection h1 with h1
  subst h1
  rcases hw with hw | hw
  · rw [hw]
    show (T.set i d.tk).set i _ = T.set i _
    rw [List.set_set]
  · rw [hw, Bool.false_and]
    have : ({ d.tk with blk := false } : Tk) = d.tk := by rw [← hb]
    rw [this]
    exact set_same hq
/-- What a step of the reference leaves, against the plain step. -/
def RP1 (S : PS) (i : Nat) (t : Tk) (x : Op3) (k n : Nat) (wait : Bool) (er : Int) (R8 : List RTk) (O8 : List RO) : Prop :=
  ∀ rq, R8[i]? = some rq → er = (stepX S i t x).1 ∧ Eqv (R8.set i (rq.block (wait && er == 0))) O8 (stepX S i t x).2 ∧ O8.length ≤ k + 1 ∧ ∀ o ∈ O8, o.st.ok (k + 1) n ∧ mg o.st
theorem OS.more1 {s : OS} {k n : Nat} (h : s.ok k n) : s.ok (k + 1) n := h.more (by omega)
theorem rp_obj {R : List RTk} {O : List RO} {S : PS} {i : Nat} {r r' : RTk} {x : Op3} {kd : Int} {k : Nat} (hE : Eqv R O S) (hr : R[i]? = some r) (hrd : r.T.ready = true) (hk9 : x.k ≠ 9) (hkd : kindO x.k x.n = some kd)
    (hO : O.length ≤ k) (hok : ∀ o ∈ O, o.st.ok k R.length ∧ mg o.st)
    {O1 : List RO} {j : Nat} {o : RO} (h1 : O1[j]? = some o) (h2 : o.key = (kR kd, x.obj)) (h3 : ∀ (j' : Nat) (o' : RO), j' < j → O1[j']? = some o' → o'.key ≠ (kR kd, x.obj)) (h4 : O1 = O ∨ (O1 = O ++ [o] ∧ o.st = freshR (kR kd) ∧ ∀ o ∈ O, o.key ≠ (kR kd, x.obj)))
    (hr' : r'.T = (doS o.st x i r.T.next).tk) :
    RP1 S i r.T x k R.length (doS o.st x i r.T.next).wait (doS o.st x i r.T.next).er (wakeR (R.set i r') (doS o.st x i r.T.next).wk) (O1.set j { o with st := (doS o.st x i r.T.next).st }) := by
  intro rq hrq
  have hK : isK kd := kindO_mem hkd
  obtain ⟨m, m1, m2, m3⟩ := findM_at (M := S.M) (n := (kd, x.obj)) hK
  have hst : o.st = m.st := by
    rw [← getO_at h1 h2 h3, ← getP_at m1 m2 m3, getO_new h2 h4, getP_new hK]
    exact hE.2 kd x.obj hK
  have hstep : stepX S i r.T x = ((doS o.st x i r.T.next).er, ⟨wakeT (S.T.set i { (doS o.st x i r.T.next).tk with blk := (doS o.st x i r.T.next).wait && (doS o.st x i r.T.next).er == 0 }) (doS o.st x i r.T.next).wk, (findM S.M (kd, x.obj)).set (idxM (findM S.M (kd, x.obj)) (kd, x.obj)) ⟨m.num, (doS o.st x i r.T.next).st⟩⟩) := by
    unfold stepX
    rw [if_neg hk9, hkd]
    dsimp only
    rw [show (findM S.M (kd, x.obj)).getD (idxM (findM S.M (kd, x.obj)) (kd, x.obj)) zPM = m by rw [List.getD_eq_getElem?_getD, m1]; rfl, hst]
  have hil := (List.getElem?_eq_some_iff.1 hr).1
  have hb : (doS o.st x i r.T.next).tk.blk = false := by rw [doS_blk]; exact (ready_lt' hrd).1
  rw [hstep]
  refine ⟨rfl, ⟨?_, ?_⟩, ?_, ?_⟩
  · show ((wakeR _ _).set i _).map (·.T) = wakeT _ _
    rw [← wake_block (by rw [← hE.1, List.length_map]; exact hil) hb (doS_wk _ _ _ _) (q := rq.T) (by
      rw [← hE.1, ← hr', ← List.map_set, ← wakeR_T, List.getElem?_map, hrq]; rfl)]
    rw [List.map_set, wakeR_T, List.map_set, hE.1, hr']
    rfl
  · intro kd' num hk'
    show _ = getP ((findM S.M (kd, x.obj)).set _ _) _
    rw [getO_set h1 h2 h3 _ (doS_kR _ _ _ _), getP_set m1 m2 m3 _ (by rw [doS_kd, hst]), getO_new h2 h4, getP_new hK, hE.2 kd' num hk']
    by_cases hq : (kd', num) = (kd, x.obj)
    · injection hq with q1 q2
      subst q1; subst q2
      rw [if_pos rfl, if_pos rfl]
    · rw [if_neg hq, if_neg]
      intro h
      injection h with q1 q2
      exact hq (by rw [kR_inj hk' hK q1, q2])
  · rw [List.length_set]
    rcases h4 with rfl | ⟨rfl, _, _⟩
    · omega
    · simp; omega
  · have hok1 : ∀ o' ∈ O1, o'.st.ok k R.length ∧ mg o'.st := by
      rcases h4 with rfl | ⟨rfl, e1, _⟩
      · exact hok
      · intro o' ho'
        rcases List.mem_append.1 ho' with ho' | ho'
        · exact hok o' ho'
        · rw [List.mem_singleton.1 ho', e1]; exact ⟨freshR_ok _ _ _, mg_fresh _⟩
    intro o' ho'
    rcases List.mem_or_eq_of_mem_set ho' with ho' | rfl
    · exact ⟨OS.more1 (hok1 o' ho').1, (hok1 o' ho').2⟩
    · have := hok1 o (List.mem_of_getElem? h1)
      exact ⟨(doS_ok this.1 ⟨by omega, by omega⟩).1, doS_mg _ _ _ this.2⟩
/-- Nothing but the place has moved. -/
theorem rp_same {R : List RTk} {O : List RO} {S : PS} {i : Nat} {r : RTk} {x : Op3} {k : Nat} {er : Int} (hE : Eqv R O S) (hr : R[i]? = some r) (hrd : r.T.ready = true)
    (hO : O.length ≤ k) (hok : ∀ o ∈ O, o.st.ok k R.length ∧ mg o.st) (h1 : (stepX S i r.T x).1 = er) (h2 : (stepX S i r.T x).2.T = S.T.set i r.T.next) (h3 : ∀ n, isK n.1 → getP (stepX S i r.T x).2.M n = getP S.M n) :
    RP1 S i r.T x k R.length false er (R.set i r.next) O := by
  intro rq hrq
  have hil := (List.getElem?_eq_some_iff.1 hr).1
  rw [List.getElem?_set, if_pos rfl, if_pos hil] at hrq
  injection hrq with hrq
  subst hrq
  refine ⟨h1.symm, ⟨?_, fun kd num hk => by rw [h3 _ hk]; exact hE.2 kd num hk⟩, by omega, fun o ho => ⟨OS.more1 (hok o ho).1, (hok o ho).2⟩⟩
  rw [h2, List.set_set, List.map_set, hE.1]
  congr 1
  show ({ r.T.next with blk := false } : Tk) = r.T.next
  have : r.T.next.blk = false := (ready_lt' hrd).1
  rw [← this]
theorem rp_yield {R : List RTk} {O : List RO} {S : PS} {i : Nat} {r : RTk} {x : Op3} {k : Nat} (hE : Eqv R O S) (hr : R[i]? = some r) (hrd : r.T.ready = true) (hk9 : x.k = 9)
    (hO : O.length ≤ k) (hok : ∀ o ∈ O, o.st.ok k R.length ∧ mg o.st) : RP1 S i r.T x k R.length false 0 (R.set i r.next) O := by
  have e : stepX S i r.T x = (0, ⟨S.T.set i r.T.next, S.M⟩) := by unfold stepX; rw [if_pos hk9]
  exact rp_same hE hr hrd hO hok (by rw [e]) (by rw [e]) (fun n _ => by rw [e])
theorem rp_bad {R : List RTk} {O : List RO} {S : PS} {i : Nat} {r : RTk} {x : Op3} {k : Nat} (hE : Eqv R O S) (hr : R[i]? = some r) (hrd : r.T.ready = true) (hk9 : x.k ≠ 9) (hkd : kindO x.k x.n = none)
    (hO : O.length ≤ k) (hok : ∀ o ∈ O, o.st.ok k R.length ∧ mg o.st) : RP1 S i r.T x k R.length false 1 (R.set i r.next) O := by
  have e : stepX S i r.T x = (1, ⟨S.T.set i r.T.next, S.M⟩) := by unfold stepX; rw [if_neg hk9, hkd]
  exact rp_same hE hr hrd hO hok (by rw [e]) (by rw [e]) (fun n _ => by rw [e])
/-- An end that has no beginning: the implementation makes the object, the reference does not. -/
theorem rp_end {R : List RTk} {O : List RO} {S : PS} {i : Nat} {r : RTk} {x : Op3} {k : Nat} (hE : Eqv R O S) (hr : R[i]? = some r) (hrd : r.T.ready = true) (hk8 : x.k = 8) (hno : onceOk r.T.next x = false)
    (hO : O.length ≤ k) (hok : ∀ o ∈ O, o.st.ok k R.length ∧ mg o.st) : RP1 S i r.T x k R.length false 1 (R.set i r.next) O := by
  have hkd : kindO x.k x.n = some 111 := by rw [hk8]; rfl
  have hK : isK 111 := .inr (.inr (.inr rfl))
  obtain ⟨m, m1, m2, m3⟩ := findM_at (M := S.M) (n := (111, x.obj)) hK
  have hm : ∃ W ov L, m.st = .o W ov L := by
    have : m.st.kd = 111 := (Prod.mk.inj m2).1
    cases hs : m.st with
    | o W ov L => exact ⟨W, ov, L, rfl⟩
    | m => rw [hs] at this; simp [OS.kd] at this
    | r => rw [hs] at this; simp [OS.kd] at this
    | g => rw [hs] at this; simp [OS.kd] at this
  obtain ⟨W, ov, L, hs⟩ := hm
  have e : stepX S i r.T x = (1, ⟨S.T.set i { r.T.next with blk := false }, (findM S.M (111, x.obj)).set (idxM (findM S.M (111, x.obj)) (111, x.obj)) ⟨m.num, m.st⟩⟩) := by
    unfold stepX
    rw [if_neg (by omega), hkd]
    dsimp only
    rw [show (findM S.M (111, x.obj)).getD (idxM (findM S.M (111, x.obj)) (111, x.obj)) zPM = m by rw [List.getD_eq_getElem?_getD, m1]; rfl, hs]
    unfold doS
    dsimp only
    rw [if_pos hk8, hno]
    rfl
  have hb : r.T.next.blk = false := (ready_lt' hrd).1
  refine rp_same hE hr hrd hO hok (by rw [e]) ?_ (fun n hn => ?_)
  · rw [e]
    show S.T.set i { r.T.next with blk := false } = _
    congr 1
    rw [← hb]
  · rw [e]
    show getP ((findM S.M (111, x.obj)).set _ _) n = _
    rw [getP_set m1 m2 m3 _ rfl, getP_new hK]
    by_cases hq : n = (111, x.obj)
    · rw [if_pos hq, hq, ← getP_new (n := (111, x.obj)) hK, getP_at m1 m2 m3]
    · rw [if_neg hq]
end Go.Proofs.Ytmohpjkbhpgidaa.A
namespace Go.Proofs.Ytmohpjkbhpgidaa.A
open Go.RowKit Go.Proofs.Ytmohpjkbhpgidaa.U
set_option linter.unusedVariables false
set_option linter.unusedSimpArgs false

section
variable {B : Nat} {w0 w : World} {Q : SP} {b : Nat} {A : Option Addr} {ad : Addr} {c : Nat} {R : List RTk} {O : List RO} {S : PS} {i : Nat} {r : RTk} {x : Op3} {kd : Int} {k : Nat}
theorem ra_do {e : Ending} {w' : World} (hE : Eqv R O S) (hr : R[i]? = some r) (hrd : r.T.ready = true) (hk9 : x.k ≠ 9) (hkd : kindO x.k x.n = some kd) (hO : O.length ≤ k) (hok : ∀ o ∈ O, o.st.ok k R.length ∧ mg o.st) (hk3 : kR kd ≠ 3)
    (hdo : RDo B w0 b A c (R.set i r.next) O (kR kd) x i Q e w') : RA B w0 b A c R.length (RP1 S i r.T x k R.length) Q e w' := by
  obtain ⟨O1, j, o, h1, h2, h3, h4, rfl, hh⟩ := hdo
  have hK3 : kindR o.st ≠ 3 := by rw [(Prod.mk.inj h2).1]; exact hk3
  have e := doS_T o.st x i r.T.next hK3
  have hp := rp_obj hE hr hrd hk9 hkd hO hok h1 h2 h3 h4 (r' := r.next) (by rw [e]; rfl)
  rw [e] at hp
  exact ⟨_, _, _, _, hp, by rw [wakeR_len, List.length_set], rfl, hh⟩
theorem ra_once {e : Ending} {w' : World} (hE : Eqv R O S) (hr : R[i]? = some r) (hrd : r.T.ready = true) (hk9 : x.k ≠ 9) (hkd : kindO x.k x.n = some 111) (hO : O.length ≤ k) (hok : ∀ o ∈ O, o.st.ok k R.length ∧ mg o.st)
    (hdo : ROnce B w0 b A c (R.set i r.next) O x i r.next Q e w') : RA B w0 b A c R.length (RP1 S i r.T x k R.length) Q e w' := by
  obtain ⟨O1, j, o, r', h1, h2, h3, h4, h5, rfl, hh⟩ := hdo
  have hp := rp_obj (kd := 111) hE hr hrd hk9 hkd hO hok h1 h2 h3 h4 (r' := r') h5
  rw [List.set_set] at hh
  exact ⟨_, _, _, _, hp, by rw [wakeR_len, List.length_set], rfl, hh⟩
theorem rpl_rp1 {wait : Bool} {er : Int} {R8 : List RTk} {O8 : List RO} (hE : Eqv R O S) (hr : R[i]? = some r) (hrd : r.T.ready = true) (hk9 : x.k ≠ 9) (hkd : kindO x.k x.n = some 103) (hO : O.length ≤ k) (hok : ∀ o ∈ O, o.st.ok k R.length ∧ mg o.st)
    (h : RPl O (R.set i r.next) 2 x i wait er R8 O8) : RP1 S i r.T x k R.length wait er R8 O8 := by
  obtain ⟨O1, j, o, h1, h2, h3, h4, rfl, rfl, rfl, rfl⟩ := h
  have hK3 : kindR o.st ≠ 3 := by rw [(Prod.mk.inj h2).1]; decide
  have e := doS_T o.st x i r.T.next hK3
  have hp := rp_obj (kd := 103) hE hr hrd hk9 hkd hO hok h1 h2 h3 h4 (r' := r.next) (by rw [e]; rfl)
  rw [e] at hp
  exact hp
theorem r_step1 (h : Holds B w0 w (star (refP b A c R O) Q)) (hQ : Stable Q) (hE : Eqv R O S) (hg : GoodS S k) (hk : k ≤ 500000) (hO : O.length ≤ k) (hok : ∀ o ∈ O, o.st.ok k R.length ∧ mg o.st) (hr : R[i]? = some r) (hrd : r.T.ready = true) (hx : r.T.ops[r.T.at_]? = some x) :
    Calls Try.prog 65 #[.pointer (some ⟨b, 0, none⟩), .int .i64 i] w (RSt B w0 b A c R.length i r.T.at_ (RP1 S i r.T x k R.length) Q) := by
  have hRl : R.length ≤ 1000000 := by have := hg.len; rw [← hE.1, List.length_map] at this; exact this
  have hmem : r.T ∈ S.T := by rw [← hE.1]; exact List.mem_map.2 ⟨r, List.mem_of_getElem? hr, rfl⟩
  have hop := hg.ops r.T.ops (List.mem_map.2 ⟨r.T, hmem, rfl⟩)
  have htk := hg.tk r.T hmem
  have hn := hop.2 x (List.mem_of_getElem? hx)
  have hil := (List.getElem?_eq_some_iff.1 hr).1
  have hR1 : (R.set i r.next).length ≤ 1000000 := by rw [List.length_set]; exact hRl
  have hok1 : ∀ o ∈ O, o.st.ok k (R.set i r.next).length ∧ mg o.st := by rw [List.length_set]; exact hok
  have hO1 : O.length ≤ 1000000 := by omega
  have hr1 : (R.set i r.next)[i]? = some r.next := by rw [List.getElem?_set, if_pos rfl, if_pos hil]
  have hlt := (ready_lt' hrd).2
  by_cases k9 : x.k = 9
  · exact rstep_y h hQ hRl i r hr hrd hx hop.1 _ k9 (rp_yield hE hr hrd k9 hO hok)
  by_cases k5 : x.k = 5
  · exact rstep_5 h hQ hRl i r hr hrd hx hop.1 _ k5 hO1 hok hk rfl hn (fun wait er R8 O8 hp => rpl_rp1 hE hr hrd k9 (by rw [k5]; rfl) hO hok hp)
  by_cases k6 : x.k = 6
  · exact rstep_6 h hQ hRl i r hr hrd hx hop.1 _ k6 hO1 hok hk rfl hn (fun wait er R8 O8 hp => rpl_rp1 hE hr hrd k9 (by rw [k6]; rfl) hO hok hp)
  have hsm : r.next.T.small := by
    refine ⟨?_, ?_, ?_⟩ <;> first | exact hop.1 | exact hlt | (show r.T.runs.length ≤ 1000000; have := htk.2; omega)
  by_cases k7 : x.k = 7
  · refine rstep_o7 h hQ hRl i r hr hrd hx hop.1 _ k7 (fun ad W' Q' hQ' hA hh => ?_)
    subst hA
    exact (ronce_do hh hQ' hO1 hR1 hok1 hk rfl k7 i r.next hr1 hsm).mono fun e w' hd => ra_once hE hr hrd k9 (by rw [k7]; rfl) hO hok hd
  by_cases k8 : x.k = 8
  · refine rstep_o8 h hQ hRl i r hr hrd hx hop.1 _ k8 (fun ad W' Q' hQ' hA hh => ?_)
    subst hA
    cases hoo : onceOk r.T.next x with
    | true => exact (ronce_endy hh hQ' hO1 hR1 hok1 hk rfl k8 i r.next hr1 hsm hoo).mono fun e w' hd => ra_once hE hr hrd k9 (by rw [k8]; rfl) hO hok hd
    | false =>
      have hp := rp_end hE hr hrd k8 hoo hO hok
      by_cases h0 : r.next.T.runs.length = 0
      · refine (ronce_end0 hh hQ' hO1 hR1 hok1 hk rfl k8 i r.next hr1 hsm h0).mono ?_
        rintro e w' ⟨rfl, hkp⟩
        exact ⟨_, _, _, _, hp, List.length_set, rfl, hh.kept ((refP_stable _ _ _ _ _).star hQ') hkp⟩
      · refine (ronce_endn hh hQ' hO1 hR1 hok1 hk rfl k8 i r.next hr1 hsm (by omega) hoo).mono ?_
        rintro e w' ⟨rfl, hkp⟩
        exact ⟨_, _, _, _, hp, List.length_set, rfl, hh.kept ((refP_stable _ _ _ _ _).star hQ') hkp⟩
  refine rstep_l h hQ hRl i r hr hrd hx hop.1 _ ⟨k9, k5, k6, k7, k8⟩ (fun ad W' Q' hQ' hA hh => ?_)
  subst hA
  by_cases k3 : x.k = 3
  · exact (rlock_3 hh hQ' hO1 hR1 hok1 hk rfl k3 i).mono fun e w' hd => ra_do (kd := 119) hE hr hrd k9 (by rw [k3]; rfl) hO hok (by decide) hd
  by_cases k4 : x.k = 4
  · exact (rlock_4 hh hQ' hO1 hR1 hok1 hk rfl k4 i).mono fun e w' hd => ra_do (kd := 119) hE hr hrd k9 (by rw [k4]; rfl) hO hok (by decide) hd
  have hbad : ((x.k = 1 ∨ x.k = 2) ∧ x.n ≠ 0 ∧ x.n ≠ 1) ∨ (x.k ≠ 1 ∧ x.k ≠ 2 ∧ x.k ≠ 3 ∧ x.k ≠ 4) → Calls Try.prog 97 #[.pointer (some ⟨b, 0, none⟩), .int .i64 i, x.val] W' (RA B w0 b (some ad) c R.length (RP1 S i r.T x k R.length) Q') := fun hb => by
    refine (rlock_bad hh hQ' hb i).mono ?_
    rintro e w' ⟨rfl, hkp⟩
    have hno : kindO x.k x.n = none := by
      unfold kindO
      rcases hb with ⟨h1, h2, h3⟩ | ⟨h1, h2, h3, h4⟩
      · rw [if_pos h1, if_neg h2, if_neg h3]
      · rw [if_neg (by omega), if_neg (by omega), if_neg (by omega), if_neg (by omega)]
    exact ⟨_, _, _, _, rp_bad hE hr hrd k9 hno hO hok, List.length_set, rfl, hh.kept ((refP_stable _ _ _ _ _).star hQ') hkp⟩
  by_cases k1 : x.k = 1
  · by_cases n0 : x.n = 0
    · exact (rlock_1_0 hh hQ' hO1 hR1 hok1 hk rfl k1 n0 i).mono fun e w' hd => ra_do (kd := 109) hE hr hrd k9 (by rw [k1, n0]; rfl) hO hok (by decide) hd
    by_cases n1 : x.n = 1
    · exact (rlock_1_1 hh hQ' hO1 hR1 hok1 hk rfl k1 n1 i).mono fun e w' hd => ra_do (kd := 119) hE hr hrd k9 (by rw [k1, n1]; rfl) hO hok (by decide) hd
    exact hbad (.inl ⟨.inl k1, n0, n1⟩)
  by_cases k2 : x.k = 2
  · by_cases n0 : x.n = 0
    · exact (rlock_2_0 hh hQ' hO1 hR1 hok1 hk rfl k2 n0 i).mono fun e w' hd => ra_do (kd := 109) hE hr hrd k9 (by rw [k2, n0]; rfl) hO hok (by decide) hd
    by_cases n1 : x.n = 1
    · exact (rlock_2_1 hh hQ' hO1 hR1 hok1 hk rfl k2 n1 i).mono fun e w' hd => ra_do (kd := 119) hE hr hrd k9 (by rw [k2, n1]; rfl) hO hok (by decide) hd
    exact hbad (.inl ⟨.inr k2, n0, n1⟩)
  exact hbad (.inr ⟨k1, k2, k3, k4⟩)
/-- The reference stands as the plain scheduler does. -/
def refE (b : Nat) (k : Nat) (S : PS) : SP := fun w F => ∃ A c R O, Eqv R O S ∧ O.length ≤ k ∧ (∀ o ∈ O, o.st.ok k R.length ∧ mg o.st) ∧ refP b A c R O w F
theorem refE_stable {b k : Nat} {S : PS} : Stable (refE b k S) where
  keep := fun ⟨A, c, R, O, h1, h2, h3, h⟩ hk hn => ⟨A, c, R, O, h1, h2, h3, (refP_stable _ _ _ _ _).keep h hk hn⟩
  lt := fun ⟨A, c, R, O, h1, h2, h3, h⟩ hk => (refP_stable _ _ _ _ _).lt h hk
theorem refE_open (h : Holds B w0 w (star (refE b k S) Q)) : ∃ A c R O, Eqv R O S ∧ O.length ≤ k ∧ (∀ o ∈ O, o.st.ok k R.length ∧ mg o.st) ∧ Holds B w0 w (star (refP b A c R O) Q) := by
  obtain ⟨F, ⟨F1, F2, ⟨A, c, R, O, e1, e2, e3, h1⟩, h2, h3, h4⟩, hq⟩ := h
  exact ⟨A, c, R, O, e1, e2, e3, F, ⟨F1, F2, h1, h2, h3, h4⟩, hq⟩
theorem refE_close (hE : Eqv R O S) (hO : O.length ≤ k) (hok : ∀ o ∈ O, o.st.ok k R.length ∧ mg o.st) (h : Holds B w0 w (star (refP b A c R O) Q)) : Holds B w0 w (star (refE b k S) Q) := by
  obtain ⟨F, ⟨F1, F2, h1, h2, h3, h4⟩, hq⟩ := h
  exact ⟨F, ⟨F1, F2, ⟨A, c, R, O, hE, hO, hok, h1⟩, h2, h3, h4⟩, hq⟩
theorem f_step (h : Holds B w0 w (star (refE b k S) Q)) (hQ : Stable Q) (hg : GoodS S k) (hk : k ≤ 500000) (i : Nat) (t : Tk) (ht : S.T[i]? = some t) (hrd : t.ready = true) (x : Op3) (hx : t.ops[t.at_]? = some x) :
    Calls Try.prog 65 #[.pointer (some ⟨b, 0, none⟩), .int .i64 i] w (StepOk B w0 i t.at_ (stepX S i t x).1 (star (refE b (k + 1) (stepX S i t x).2) Q)) := by
  obtain ⟨A, c, R, O, hE, hO, hok, h1⟩ := refE_open h
  obtain ⟨r, hr, rfl⟩ : ∃ r, R[i]? = some r ∧ r.T = t := by
    rw [← hE.1, List.getElem?_map] at ht
    cases hq : R[i]? with
    | none => rw [hq] at ht; cases ht
    | some r => rw [hq] at ht; injection ht with ht; exact ⟨r, rfl, ht⟩
  refine (r_step1 h1 hQ hE hg hk hO hok hr hrd hx).mono ?_
  rintro e w' ⟨wait, er, R', O', r', hP, hl, hr', rfl, hh⟩
  obtain ⟨e1, e2, e3, e4⟩ := hP r' hr'
  subst e1
  exact ⟨rfl, refE_close e2 e3 (by rw [List.length_set, hl]; exact e4) hh⟩
theorem f_tasks (h : Holds B w0 w (star (refE b k S) Q)) (hg : S.T.length ≤ 1000000) : ∃ R A c, R.map (·.T) = S.T ∧ RTasks w b R A c := by
  obtain ⟨A, c, R, O, hE, hO, hok, h1⟩ := refE_open h
  exact ⟨R, A, c, hE.1, ref_tasks h1 (by rw [← hE.1, List.length_map] at hg; exact hg)⟩
theorem pickR_T {R : List RTk} {p : Tk → Bool} (h : R.map (·.T) = S.T) : pickR p R = pickT p S.T S.T.length := by
  unfold pickR
  rw [h, ← h, List.length_map]
theorem f_ready (h : Holds B w0 w (star (refE b k S) Q)) (hg : S.T.length ≤ 1000000) : Calls Try.prog 66 #[.pointer (some ⟨b, 0, none⟩)] w (PickPost (pickT Tk.ready S.T S.T.length) w) := by
  obtain ⟨R, A, c, hX, hT⟩ := f_tasks h hg
  have := ready66 w b R A c hT
  rw [pickR_T hX] at this
  exact this
theorem f_blocked (h : Holds B w0 w (star (refE b k S) Q)) (hg : S.T.length ≤ 1000000) : Calls Try.prog 68 #[.pointer (some ⟨b, 0, none⟩)] w (PickPost (pickT Tk.blk S.T S.T.length) w) := by
  obtain ⟨R, A, c, hX, hT⟩ := f_tasks h hg
  have := blocked68 w b R A c hT
  rw [pickR_T hX] at this
  exact this
theorem f_ended (h : Holds B w0 w (star (refE b k S) Q)) (hg : S.T.length ≤ 1000000) : Calls Try.prog 69 #[.pointer (some ⟨b, 0, none⟩)] w (fun e w' => e = .returned (.bool (pickT Tk.open_ S.T S.T.length).isEmpty) ∧ Keep Nothing w w') := by
  obtain ⟨R, A, c, hX, hT⟩ := f_tasks h hg
  have := ended69 w b R A c hT
  rw [pickR_T hX] at this
  exact this
/-- A step of a task that is none, or not ready. -/
theorem f_no (h : Holds B w0 w (star (refE b k S) Q)) (hQ : Stable Q) (hg : S.T.length ≤ 1000000) (i : Int) (hn : ∀ (j : Nat) (t : Tk), i = j → S.T[j]? = some t → t.ready = false) :
    Calls Try.prog 65 #[.pointer (some ⟨b, 0, none⟩), .int .i64 i] w (fun e w' => e = .returned (.tuple #[.agg #[.int .i64 0, .int .i64 0, .int .i64 0], .int .i64 1]) ∧ Holds B w0 w' (star (refE b k S) Q)) := by
  obtain ⟨A, c, R, O, hE, hO, hok, h1⟩ := refE_open h
  refine (rstep_no h1 hQ (by rw [← hE.1, List.length_map] at hg; exact hg) i ?_).mono fun e w' ⟨he, hh⟩ => ⟨he, refE_close hE hO hok hh⟩
  unfold rdy
  by_cases h0 : 0 ≤ i
  · rw [decide_eq_true h0, Bool.true_and]
    cases hr : R[i.toNat]? with
    | none => rfl
    | some r => exact hn i.toNat r.T (by omega) (by rw [← hE.1, List.getElem?_map, hr]; rfl)
  · rw [decide_eq_false h0]; rfl
end
end Go.Proofs.Ytmohpjkbhpgidaa.A
namespace Go.Proofs.Ytmohpjkbhpgidaa.A
open Go.RowKit Go.Proofs.Ytmohpjkbhpgidaa.U
set_option linter.unusedVariables false
set_option linter.unusedSimpArgs false
set_option maxRecDepth 100000
set_option maxHeartbeats 1600000

theorem tmod_more {a n : Int} (h0 : 0 ≤ a) (h1 : a < n) : (a + n).tmod n = a := by
  rw [Int.tmod_eq_emod_of_nonneg (by omega)]
  have e : (a + n) % n = a % n := by first | exact Int.add_emod_right _ _ | exact Int.add_emod_self | simp
  have e2 : a % n = a := Int.emod_eq_of_lt h0 h1
  omega
theorem rrun_end {w w' : World} {A : Option Addr} {c b k : Nat} {S : PS} {l : List Ev} {R : List Ev × PS} (h : Holds w.heap.size w w' (star (rowP 103 3 (.slice A l.length c) l.length (evsV l)) (star (refE b k S) none_))) (hr : (l, S) = R) :
    RunPost R w (.returned (.tuple #[.slice A l.length c, .bool (pickT Tk.open_ S.T S.T.length).isEmpty])) w' := by
  subst hr
  exact ⟨A, c, rfl, h.row, Keep.of_below h.below _⟩
theorem rrun_calls (w : World) (A Ap : Option Addr) (c np cp : Nat) (TS : List (List Op3)) (picks : List Int) (h : ArgOps w A TS) (hl : TS.length ≤ 1000000) (hp : U.Src w Ap 1 np (ints picks)) (hg : GoodS (newS TS) 0) (hN : Calls Try.prog 64 #[.slice A TS.length c] w (fun e w' => ∃ b, e = .returned (.pointer (some ⟨b, 0, none⟩)) ∧ Holds w.heap.size w w' (star (refE b 0 (newS TS)) none_))) :
    Calls Try.prog 56 #[.slice A TS.length c, .slice Ap np cp] w (RunPost (runX picks 10000 0 (newS TS) []) w) := by
  have hu := Try.underlying103
  have HN := Lib.hid hN
  have HP := Lib.hid hp
  have HG := Lib.hid hg
  have hpl : picks.length = np := by have := hp.1; rw [ints, List.length_map] at this; omega
  clear h hl hp hg hN
  go_enter Try.func56, Try.ntmps56
  go_wp2_with fail
  refine HN.out.mono ?_
  rintro e w1 ⟨b, rfl, hh⟩
  have H1 := Lib.hid (hh.newRow (refE_stable.star none_stable) (Row.nil _ 103 3) (Keep.same _ _) (fun k hk => by simp [Value.ownBlock] at hk))
  clear hh
  go_wp2_with fail
  go_loopw [7, 8] (fun vo vn wr => ∃ (k : Nat) (S : PS) (l : List Ev) (A2 : Option Addr) (c2 : Nat), k ≤ 10000 ∧ vn = .int .i64 k ∧ vo = .slice A2 l.length c2 ∧ l.length = k ∧ GoodS S k ∧ runX picks (10000 - k) k S l = runX picks 10000 0 (newS TS) [] ∧ Holds w.heap.size w wr (star (rowP 103 3 (.slice A2 l.length c2) l.length (evsV l)) (star (refE b k S) none_))) (fun vo vn _ => 10000 - (intOf vn).toNat)
  case atStart => exact ⟨0, newS TS, [], none, 0, by omega, by simp, by simp, rfl, HG.out, rfl, H1.out⟩
  case round =>
    obtain ⟨k, S, l, A2, c2, hk, rfl, rfl, hlk, hgS, hrun, hh⟩ := hrel
    have HH := Lib.hid hh
    have GS := Lib.hid hgS
    have RN := Lib.hid hrun
    have LK := Lib.hid hlk
    have hlb : l.length ≤ 10000 := by omega
    have hll : (l.length : Int) = k := by omega
    have HLL := Lib.hid hll
    clear hll
    have hE : Holds w.heap.size w wr (star (refE b k S) (star (rowP 103 3 (.slice A2 l.length c2) l.length (evsV l)) none_)) := hh.perm (by ac_rfl)
    have HE := Lib.hid hE
    have RD := Lib.hid (fun w' (hk' : Keep Nothing wr w') => f_ready (hE.kept (refE_stable.star ((rowP_stable _ _ _ _ _).star none_stable)) hk') hgS.len)
    clear hh hgS hrun hlk hE
    by_cases hlt : k < 10000
    · have hlt2 : l.length < 10000 := by have := HLL.out; omega
      go_wp2_with fail
      refine (RD.out _ (by repeat (first | with_reducible (exact Keep.same _ _) | with_reducible (apply Keep.drew) | with_reducible (apply Keep.alloc)))).mono ?_
      generalize hPL : pickT Tk.ready S.T S.T.length = L
      rintro e w2 ⟨A3, c3, rfl, hr3, hk3, hf3⟩
      have R3 := Lib.hid hr3
      have hkk := (Keep.then (by repeat (first | with_reducible (exact Keep.same _ _) | with_reducible (apply Keep.drew) | with_reducible (apply Keep.alloc)) : Keep Nothing wr _) hk3)
      have H3 := Lib.hid (HE.out.kept (refE_stable.star ((rowP_stable _ _ _ _ _).star none_stable)) hkk)
      have H2 := Lib.hid (HH.out.kept ((rowP_stable _ _ _ _ _).star (refE_stable.star none_stable)) hkk)
      have hLl : L.length ≤ 1000000 := by have := pickT_len Tk.ready S.T S.T.length; have := GS.out.len; rw [← hPL]; omega
      have PL := Lib.hid hPL
      clear hk3 hr3 hf3 hkk HH hPL
      rcases Nat.eq_zero_or_pos L.length with h0 | h0
      · have HH := H2
        have RX := Lib.hid (show (l, S) = runX picks 10000 0 (newS TS) [] by
          rw [← RN.out, show 10000 - k = (10000 - (k + 1)) + 1 by omega]
          show _ = (match roundX picks k S with | none => (l, S) | some (e, S') => runX picks (10000 - (k + 1)) (k + 1) S' (l ++ [e]))
          rw [round_none (by rw [PL.out]; exact h0)])
        have ED := Lib.hid (fun w' (hk' : Keep Nothing w2 w') => f_ended (H3.out.kept (refE_stable.star ((rowP_stable _ _ _ _ _).star none_stable)) hk') GS.out.len)
        have hz : ((L.length : Int) == 0) = true := by rw [beq_iff_eq]; omega
        go_wp2_with fail
        refine (ED.out _ (by repeat (first | with_reducible (exact Keep.same _ _) | with_reducible (apply Keep.drew) | with_reducible (apply Keep.alloc)))).mono ?_
        rintro e w5 ⟨rfl, hk5⟩
        have H5 := Lib.hid (HH.out.kept ((rowP_stable _ _ _ _ _).star (refE_stable.star none_stable)) (Keep.then (by repeat (first | with_reducible (exact Keep.same _ _) | with_reducible (apply Keep.drew) | with_reducible (apply Keep.alloc)) : Keep Nothing _ _) hk5))
        clear hk5
        go_wp2_with fail
        refine bodyPost_ret (v := .tuple #[.slice A2 l.length c2, .bool (pickT Tk.open_ S.T S.T.length).isEmpty]) (by simp [results, Try.results56, go_sem]) rfl ?_
        exact rrun_end H5.out RX.out
      · have hz : ((L.length : Int) == 0) = false := by rw [beq_eq_false_iff_ne]; omega
        by_cases hkn : k < np
        · obtain ⟨pk, hpk⟩ : ∃ pk, picks[k]? = some pk := ⟨_, List.getElem?_eq_getElem (by rw [hpl]; exact hkn)⟩
          obtain ⟨i, t, x, hq0, hq1, hLq, ht, hrd, hx, hrx⟩ := round_some (picks := picks) (n := k) (S := S) rfl (by rw [PL.out]; exact h0)
          rw [PL.out] at hq0 hq1 hLq
          have hpi : pickI picks k L.length = (pk.tmod (L.length : Int) + L.length).tmod L.length := by unfold pickI; rw [hpk]
          obtain ⟨q, hq⟩ : ∃ q : Nat, pickI picks k L.length = (q : Int) := ⟨_, (Int.toNat_of_nonneg hq0).symm⟩
          rw [hq] at hq1 hLq hpi
          simp only [Int.toNat_natCast] at hq1 hLq
          by_cases hneg : pk.tmod (L.length : Int) < 0
          · have hlo := Int.lt_tmod_of_pos pk (show (0 : Int) < L.length by omega)
            have hhi := Int.tmod_lt_of_pos pk (show (0 : Int) < L.length by omega)
            have hw2 : wrap64 (pk.tmod (L.length : Int) + L.length) = (q : Int) := by
              rw [wrap64_in (by omega) (by omega), hpi]
              exact (Int.tmod_eq_of_lt (by omega) (by omega)).symm
            have hng : decide (pk.tmod (L.length : Int) < 0) = true := decide_eq_true hneg
            clear hlo hhi hneg
            obtain ⟨adp, rfl, hcp⟩ := HP.out.2 (by omega)
            have KB := Lib.hid (Keep.of_below H3.out.below Nothing)
            have cp := KB.out.cell (hcp k (.int .i64 pk) (by unfold ints; rw [List.getElem?_map, hpk]; rfl)) (fun h => h)
            clear hcp hq0 hpk hpi hq
            obtain ⟨adl, rfl, hcl⟩ := R3.out.src.2 (by omega)
            have cl := hcl q (.int .i64 (i : Int)) (by unfold ints; rw [List.getElem?_map, hLq]; rfl)
            clear hcl
            skip
            have ST := Lib.hid (fun w' (hk' : Keep Nothing w2 w') => f_step (H3.out.kept (refE_stable.star ((rowP_stable _ _ _ _ _).star none_stable)) hk') ((rowP_stable _ _ _ _ _).star none_stable) GS.out (by omega) i t ht hrd x hx)
            have GS' := Lib.hid (GS.out.step (x := x) ht hrd)
            have RX' := Lib.hid hrx
            clear ht hrd hx hrx hLq
            go_wp2_with fail
            refine (ST.out _ (by repeat (first | with_reducible (exact Keep.same _ _) | with_reducible (apply Keep.drew) | with_reducible (apply Keep.alloc)))).mono ?_
            rintro e w4 ⟨rfl, hh4⟩
            generalize hS' : (stepX S i t x).2 = S' at *
            generalize her : (stepX S i t x).1 = er at *
            have h4 : Holds w.heap.size w w4 (star (rowP 103 3 (.slice A2 l.length c2) l.length (evsV l)) (star (refE b (k + 1) S') none_)) := hh4.perm (by ac_rfl)
            have R4 := Lib.hid (h4.row)
            have B4 := Blk.fresh w4 103 #[.int .i64 (i : Int), .int .i64 (t.at_ : Int), .int .i64 er]
            have f0 := B4.cell 0
            have f1 := B4.cell 1
            have f2 := B4.cell 2
            have H4 := Lib.hid ((h4.alloc ((rowP_stable _ _ _ _ _).star (refE_stable.star none_stable)) (.cells #[.int .i64 (i : Int), .int .i64 (t.at_ : Int), .int .i64 er] 103)).alloc ((rowP_stable _ _ _ _ _).star (refE_stable.star none_stable)) (.cells #[.int .i64 (i : Int), .int .i64 (t.at_ : Int), .int .i64 er] 103))
            have SRC := Lib.hid (U.Src.fresh (w4.alloc (.cells #[.int .i64 (i : Int), .int .i64 (t.at_ : Int), .int .i64 er] 103)) #[.int .i64 (i : Int), .int .i64 (t.at_ : Int), .int .i64 er] 103 3 1 rfl)
            rw [size_alloc] at SRC
            have hml : l.length + 1 ≤ maxLen := by unfold maxLen; omega
            clear hS' her hh4 h4 B4
            go_wp2_with (at_builtin; refine wpList_app _ rfl EV (.tmp 51) (.tmp 53) rfl ((R4.out.alloc _).alloc _) SRC.out 1 rfl rfl (by simp [Value.oneCell']) hml (by omega) ?_)
            intro v5 w5 hr5 hg5 hl5
            obtain ⟨A5, c5, rfl, _, _⟩ := hr5.form
            have H5 := Lib.hid (H4.out.grew (refE_stable.star none_stable) hr5 hg5 (by rw [size_alloc, size_alloc]; exact hl5))
            clear hr5 hg5 hl5
            go_wp2_with fail
            go_roundw
            case rel =>
              refine ⟨k + 1, S', l ++ [⟨i, t.at_, er⟩], A5, c5, by omega, by go_num, by simp, by simp [LK.out], GS'.out, ?_, ?_⟩
              · rw [← RN.out, show 10000 - k = (10000 - (k + 1)) + 1 by omega]
                show _ = (match roundX picks k S with | none => (l, S) | some (e, S') => runX picks (10000 - (k + 1)) (k + 1) S' (l ++ [e]))
                rw [RX'.out]
              · have := H5.out
                rw [evsV_app, List.length_append]
                exact this
            case measure => simp [intOf]; omega
          · have hhi := Int.tmod_lt_of_pos pk (show (0 : Int) < L.length by omega)
            have hw2 : pk.tmod (L.length : Int) = (q : Int) := by
              rw [hpi, tmod_more (by omega) hhi]
            have hng : decide (pk.tmod (L.length : Int) < 0) = false := decide_eq_false hneg
            clear hhi hneg
            obtain ⟨adp, rfl, hcp⟩ := HP.out.2 (by omega)
            have KB := Lib.hid (Keep.of_below H3.out.below Nothing)
            have cp := KB.out.cell (hcp k (.int .i64 pk) (by unfold ints; rw [List.getElem?_map, hpk]; rfl)) (fun h => h)
            clear hcp hq0 hpk hpi hq
            obtain ⟨adl, rfl, hcl⟩ := R3.out.src.2 (by omega)
            have cl := hcl q (.int .i64 (i : Int)) (by unfold ints; rw [List.getElem?_map, hLq]; rfl)
            clear hcl
            skip
            have ST := Lib.hid (fun w' (hk' : Keep Nothing w2 w') => f_step (H3.out.kept (refE_stable.star ((rowP_stable _ _ _ _ _).star none_stable)) hk') ((rowP_stable _ _ _ _ _).star none_stable) GS.out (by omega) i t ht hrd x hx)
            have GS' := Lib.hid (GS.out.step (x := x) ht hrd)
            have RX' := Lib.hid hrx
            clear ht hrd hx hrx hLq
            go_wp2_with fail
            refine (ST.out _ (by repeat (first | with_reducible (exact Keep.same _ _) | with_reducible (apply Keep.drew) | with_reducible (apply Keep.alloc)))).mono ?_
            rintro e w4 ⟨rfl, hh4⟩
            generalize hS' : (stepX S i t x).2 = S' at *
            generalize her : (stepX S i t x).1 = er at *
            have h4 : Holds w.heap.size w w4 (star (rowP 103 3 (.slice A2 l.length c2) l.length (evsV l)) (star (refE b (k + 1) S') none_)) := hh4.perm (by ac_rfl)
            have R4 := Lib.hid (h4.row)
            have B4 := Blk.fresh w4 103 #[.int .i64 (i : Int), .int .i64 (t.at_ : Int), .int .i64 er]
            have f0 := B4.cell 0
            have f1 := B4.cell 1
            have f2 := B4.cell 2
            have H4 := Lib.hid ((h4.alloc ((rowP_stable _ _ _ _ _).star (refE_stable.star none_stable)) (.cells #[.int .i64 (i : Int), .int .i64 (t.at_ : Int), .int .i64 er] 103)).alloc ((rowP_stable _ _ _ _ _).star (refE_stable.star none_stable)) (.cells #[.int .i64 (i : Int), .int .i64 (t.at_ : Int), .int .i64 er] 103))
            have SRC := Lib.hid (U.Src.fresh (w4.alloc (.cells #[.int .i64 (i : Int), .int .i64 (t.at_ : Int), .int .i64 er] 103)) #[.int .i64 (i : Int), .int .i64 (t.at_ : Int), .int .i64 er] 103 3 1 rfl)
            rw [size_alloc] at SRC
            have hml : l.length + 1 ≤ maxLen := by unfold maxLen; omega
            clear hS' her hh4 h4 B4
            go_wp2_with (at_builtin; refine wpList_app _ rfl EV (.tmp 51) (.tmp 53) rfl ((R4.out.alloc _).alloc _) SRC.out 1 rfl rfl (by simp [Value.oneCell']) hml (by omega) ?_)
            intro v5 w5 hr5 hg5 hl5
            obtain ⟨A5, c5, rfl, _, _⟩ := hr5.form
            have H5 := Lib.hid (H4.out.grew (refE_stable.star none_stable) hr5 hg5 (by rw [size_alloc, size_alloc]; exact hl5))
            clear hr5 hg5 hl5
            go_wp2_with fail
            go_roundw
            case rel =>
              refine ⟨k + 1, S', l ++ [⟨i, t.at_, er⟩], A5, c5, by omega, by go_num, by simp, by simp [LK.out], GS'.out, ?_, ?_⟩
              · rw [← RN.out, show 10000 - k = (10000 - (k + 1)) + 1 by omega]
                show _ = (match roundX picks k S with | none => (l, S) | some (e, S') => runX picks (10000 - (k + 1)) (k + 1) S' (l ++ [e]))
                rw [RX'.out]
              · have := H5.out
                rw [evsV_app, List.length_append]
                exact this
            case measure => simp [intOf]; omega
        · obtain ⟨i, t, x, hq0, hq1, hLq, ht, hrd, hx, hrx⟩ := round_some (picks := picks) (n := k) (S := S) rfl (by rw [PL.out]; exact h0)
          rw [PL.out] at hq0 hq1 hLq
          obtain ⟨q, hqz, hq⟩ : ∃ q : Nat, q = 0 ∧ pickI picks k L.length = (q : Int) := ⟨0, rfl, by unfold pickI; rw [List.getElem?_eq_none (by omega)]; rfl⟩
          rw [hq] at hq1 hLq
          simp only [Int.toNat_natCast] at hq1 hLq
          subst hqz
          clear hq0 hq
          obtain ⟨adl, rfl, hcl⟩ := R3.out.src.2 (by omega)
          have cl := hcl 0 (.int .i64 (i : Int)) (by unfold ints; rw [List.getElem?_map, hLq]; rfl)
          clear hcl
          rw [show adl.add 0 = adl from rfl] at cl
          have ST := Lib.hid (fun w' (hk' : Keep Nothing w2 w') => f_step (H3.out.kept (refE_stable.star ((rowP_stable _ _ _ _ _).star none_stable)) hk') ((rowP_stable _ _ _ _ _).star none_stable) GS.out (by omega) i t ht hrd x hx)
          have GS' := Lib.hid (GS.out.step (x := x) ht hrd)
          have RX' := Lib.hid hrx
          clear ht hrd hx hrx hLq
          go_wp2_with fail
          refine (ST.out _ (by repeat (first | with_reducible (exact Keep.same _ _) | with_reducible (apply Keep.drew) | with_reducible (apply Keep.alloc)))).mono ?_
          rintro e w4 ⟨rfl, hh4⟩
          generalize hS' : (stepX S i t x).2 = S' at *
          generalize her : (stepX S i t x).1 = er at *
          have h4 : Holds w.heap.size w w4 (star (rowP 103 3 (.slice A2 l.length c2) l.length (evsV l)) (star (refE b (k + 1) S') none_)) := hh4.perm (by ac_rfl)
          have R4 := Lib.hid (h4.row)
          have B4 := Blk.fresh w4 103 #[.int .i64 (i : Int), .int .i64 (t.at_ : Int), .int .i64 er]
          have f0 := B4.cell 0
          have f1 := B4.cell 1
          have f2 := B4.cell 2
          have H4 := Lib.hid ((h4.alloc ((rowP_stable _ _ _ _ _).star (refE_stable.star none_stable)) (.cells #[.int .i64 (i : Int), .int .i64 (t.at_ : Int), .int .i64 er] 103)).alloc ((rowP_stable _ _ _ _ _).star (refE_stable.star none_stable)) (.cells #[.int .i64 (i : Int), .int .i64 (t.at_ : Int), .int .i64 er] 103))
          have SRC := Lib.hid (U.Src.fresh (w4.alloc (.cells #[.int .i64 (i : Int), .int .i64 (t.at_ : Int), .int .i64 er] 103)) #[.int .i64 (i : Int), .int .i64 (t.at_ : Int), .int .i64 er] 103 3 1 rfl)
          rw [size_alloc] at SRC
          have hml : l.length + 1 ≤ maxLen := by unfold maxLen; omega
          clear hS' her hh4 h4 B4
          go_wp2_with (at_builtin; refine wpList_app _ rfl EV (.tmp 51) (.tmp 53) rfl ((R4.out.alloc _).alloc _) SRC.out 1 rfl rfl (by simp [Value.oneCell']) hml (by omega) ?_)
          intro v5 w5 hr5 hg5 hl5
          obtain ⟨A5, c5, rfl, _, _⟩ := hr5.form
          have H5 := Lib.hid (H4.out.grew (refE_stable.star none_stable) hr5 hg5 (by rw [size_alloc, size_alloc]; exact hl5))
          clear hr5 hg5 hl5
          go_wp2_with fail
          go_roundw
          case rel =>
            refine ⟨k + 1, S', l ++ [⟨i, t.at_, er⟩], A5, c5, by omega, by go_num, by simp, by simp [LK.out], GS'.out, ?_, ?_⟩
            · rw [← RN.out, show 10000 - k = (10000 - (k + 1)) + 1 by omega]
              show _ = (match roundX picks k S with | none => (l, S) | some (e, S') => runX picks (10000 - (k + 1)) (k + 1) S' (l ++ [e]))
              rw [RX'.out]
            · have := H5.out
              rw [evsV_app, List.length_append]
              exact this
          case measure => simp [intOf]; omega
    · have hlt2 : ¬ l.length < 10000 := by have := HLL.out; omega
      obtain rfl : k = 10000 := by omega
      have RX := Lib.hid (show (l, S) = runX picks 10000 0 (newS TS) [] by rw [← RN.out]; rfl)
      have ED := Lib.hid (fun w' (hk' : Keep Nothing wr w') => f_ended (HE.out.kept (refE_stable.star ((rowP_stable _ _ _ _ _).star none_stable)) hk') GS.out.len)
      go_wp2_with fail
      refine (ED.out _ (by repeat (first | with_reducible (exact Keep.same _ _) | with_reducible (apply Keep.drew) | with_reducible (apply Keep.alloc)))).mono ?_
      rintro e w5 ⟨rfl, hk5⟩
      have H5 := Lib.hid (HH.out.kept ((rowP_stable _ _ _ _ _).star (refE_stable.star none_stable)) (Keep.then (by repeat (first | with_reducible (exact Keep.same _ _) | with_reducible (apply Keep.drew) | with_reducible (apply Keep.alloc)) : Keep Nothing _ _) hk5))
      clear hk5
      go_wp2_with fail
      refine bodyPost_ret (v := .tuple #[.slice A2 l.length c2, .bool (pickT Tk.open_ S.T S.T.length).isEmpty]) (by simp [results, Try.results56, go_sem]) rfl ?_
      exact rrun_end H5.out RX.out
end Go.Proofs.Ytmohpjkbhpgidaa.A
namespace Go.Proofs.Ytmohpjkbhpgidaa.A
open Go.RowKit Go.Proofs.Ytmohpjkbhpgidaa.U
set_option linter.unusedVariables false
set_option linter.unusedSimpArgs false
set_option maxRecDepth 100000
set_option maxHeartbeats 1600000

theorem oRow_st (O : List RO) (A : Option Addr) (c : Nat) : Stable (oRow O A c) := rowP_stable _ _ _ _ _
theorem eqv_new {R : List RTk} {TS : List (List Op3)} (h : R.map (·.T) = TS.map freshT) : Eqv R [] (newS TS) :=
  ⟨h, fun kd num hk => freshR_kR hk⟩
theorem new64 (w : World) (A : Option Addr) (c : Nat) (TS : List (List Op3)) (h : ArgOps w A TS) (hl : TS.length ≤ 1000000) :
    Calls Try.prog 64 #[.slice A TS.length c] w (fun e w' => ∃ b, e = .returned (.pointer (some ⟨b, 0, none⟩)) ∧ Holds w.heap.size w w' (star (refE b 0 (newS TS)) none_)) := by
  have hu := Try.underlying155
  have hu2 := Try.underlying157
  have HA := Lib.hid h
  have HL := Lib.hid hl
  have hb : ∀ w', Below w.heap.size w w' → Keep Nothing w w' := fun w' h => Keep.of_below h _
  have h1 := (Holds.start w).newBlk none_stable 155 #[.slice none 0 0, .slice none 0 0]
  have S1 := (blkP_stable w.heap.size 155 #[.slice none 0 0, .slice none 0 0]).star none_stable
  have h2 := h1.newRow S1 (Row.nil _ 157 4) (Keep.same _ _) (fun k hk => by simp [Value.ownBlock] at hk)
  have S2 := (rowP_stable 157 4 (.slice none 0 0) 0 []).star S1
  have h3 := h2.newRow S2 (Row.nil _ 160 6) (Keep.same _ _) (fun k hk => by simp [Value.ownBlock] at hk)
  have S3 := (rowP_stable 160 6 (.slice none 0 0) 0 []).star S2
  have h4 := h3.more S3 (P := none_) (F := fun _ => False) (fun k h => h) (Keep.same _ _) (fun k hk => hk.elim)
  have h5 := h4.more (none_stable.star S3) (P := none_) (F := fun _ => False) (fun k h => h) (Keep.same _ _) (fun k hk => hk.elim)
  have H0 := Lib.hid (ref_close (R := []) (O := []) (b := w.heap.size) (A := none) (c := 0) (A' := none) (c' := 0) (h5.perm (by
    show _ = star (blkP w.heap.size 155 #[.slice none 0 0, .slice none 0 0]) (star (rowP 157 4 (.slice none 0 0) 0 []) (star (rowP 160 6 (.slice none 0 0) 0 []) (star none_ (star none_ none_))))
    ac_rfl)))
  clear h h1 h2 h3 h4 h5 S1 S2 S3
  go_enter Try.func64, Try.ntmps64
  go_wp2_with fail
  generalize hg1 : w.heap.size = b at *
  have HG := Lib.hid hg1
  clear hg1
  have H0' := H0
  go_loopw [4] (fun iv wr => ∃ (k : Nat) (R : List RTk) (A1 : Option Addr) (c1 : Nat), k ≤ TS.length ∧ iv = .int .i64 k ∧ R.map (·.T) = (TS.take k).map freshT ∧ Holds b w wr (star (refP b A1 c1 R []) none_)) (fun iv _ => TS.length - (intOf iv).toNat)
  case atStart => exact ⟨0, [], none, 0, by omega, by simp, rfl, H0'.out⟩
  case round =>
    obtain ⟨k, R, A1, c1, hk, rfl, hX, hh⟩ := hrel
    have H := Lib.hid hh
    have HX := Lib.hid hX
    have HXL := Lib.hid (show R.length = k by have := congrArg List.length hX; rw [List.length_map, List.length_map, List.length_take] at this; omega)
    clear hh hX
    by_cases hlt : k < TS.length
    · have HLT := Lib.hid hlt
      obtain ⟨L, hTL⟩ : ∃ L, TS[k]? = some L := ⟨_, List.getElem?_eq_getElem hlt⟩
      obtain ⟨ad, Ak, ck, rfl, hca, hsa, hlL⟩ := HA.out k L hTL
      have KW := Lib.hid (hb _ H.out.below)
      have ca := KW.out.cell hca (fun h => h)
      have SRCL := Lib.hid (fun w' (hk' : Keep Nothing wr w') => src_keep hsa (KW.out.then hk'))
      obtain ⟨A2, c2, g1⟩ := ref_open H.out
      have G1 := Lib.hid g1
      have B1 := Lib.hid (blk_at' g1)
      have a0 := B1.out.cell 0
      have HLL := Lib.hid hlL
      have O1 := Lib.hid (opsV_one L)
      have HT := Lib.hid hTL
      have hTS := hl
      have SCA := Lib.hid (fun (w' : World) (hk' : Keep Nothing wr w') => show w'.cell? (ad.add k) = some (.slice Ak L.length ck) from hk'.cell ca (fun h => h))
      have hca0 := Lib.hid hca
      have hH : (fun w' => w'.cell? (ad.add k) = some (.slice Ak L.length ck)) wr := ca
      dsimp only at hH
      clear hca hsa g1 hlL hTL
      go_wp2_with fail
      refine wp_region_noPanic ?_
      refine wp_region_held_drew (S := (fun w' => w'.cell? (ad.add k) = some (.slice Ak L.length ck))) (by kernel_rfl) hH (fun hHeld => ?_)
      refine tk 0 ?_
      (try simp only [pn])
      refine tk 1 ?_
      (try simp only [pn])
      refine tk 2 ?_
      (try simp only [pn])
      refine tk 3 ?_
      (try simp only [pn])
      refine tk 5 ?_
      (try simp only [pn])
      refine tk 6 ?_
      (try simp only [pn])
      refine tk 7 ?_
      (try simp only [pn])
      refine tk 8 ?_
      (try simp only [pn])
      refine wpAnyH_ready (rs := [4, 9]) (by kernel_rfl) (by simp) ?_
      refine AllReadyH.cons (o := _) (by simp only [List.getElem?_toArray, List.getElem?_cons_succ, List.getElem?_cons_zero]; rfl) (fun K hK => ?_) (AllReadyH.cons (o := _) (by simp only [List.getElem?_toArray, List.getElem?_cons_succ, List.getElem?_cons_zero]; rfl) (fun K hK => ?_) AllReadyH.nil)
      · go_simp
        refine hK.out _ _ (SCA.out _ kn) (fun hHeld => ?_)
        clear hK K
        (try simp only [pn])
        refine rd 9 (fun K hK => ?_)
        refine step_app _ (by rfl) EO (.const (.slice none 0 0)) (.tmp 21) (by rfl) (Row.nil _ 97 3) (SRCL.out _ kn) ck (by simp [Act.eval, Act.put]) (by simp [Act.eval, Act.put]) O1.out (by have := HLL.out; unfold maxLen; omega) (by have := HLL.out; omega) ?_
        intro A6 c6 w6 hr6 hg6 hl6
        have K6 := Lib.hid (((Keep.same Nothing wr).drew).grown hg6 (fun i hi => by simp [Value.ownBlock] at hi))
        have F6 := Lib.hid (show ∀ j, (Value.slice A6 (0 + L.length) c6).ownBlock = some j → wr.heap.size ≤ j by
          intro j hj
          rcases hl6 with h | h
          · rw [h] at hj; simp [Value.ownBlock] at hj
          · rw [h] at hj; injection hj with hj; rw [← hj]; exact Nat.le_refl _)
        rw [List.nil_append] at hr6
        rw [Nat.zero_add] at hr6 F6 ⊢
        have B6 := B1.out.keep K6.out (fun h => h)
        have a6 := B6.cell 0
        have B7 := B6.alloc (.cells #[.slice A6 L.length c6, .int .i64 0, .bool false, .slice none 0 0] 157)
        have a7 := B7.cell 0
        have R6 := Lib.hid hr6
        clear hr6 hg6 hl6 B6 B7
        refine hK.out _ _ (SCA.out _ K6.out) (fun hHeld => ?_)
        clear hK K
        (try simp only [pn])
        refine tk 10 ?_
        (try simp only [pn])
        refine rd 11 (fun K hK => ?_)
        go_simp
        refine hK.out _ _ (SCA.out _ (by repeat (first | with_reducible (exact K6.out) | with_reducible (apply Keep.drew) | with_reducible (apply Keep.alloc)))) (fun hHeld => ?_)
        clear hK K
        (try simp only [pn])
        refine rd 12 (fun K hK => ?_)
        have SQ0 := Lib.hid ((oRow_st [] A2 c2).star ((robP_stable []).star none_stable))
        have SQ1 := Lib.hid ((blkP_stable b 155 #[.slice A1 R.length c1, .slice A2 0 c2]).star ((rinP_stable R).star SQ0.out))
        have N1 := Holds.newRow (show Holds b w wr (star (rRow R A1 c1) (star (rBlk b R [] A1 c1 A2 c2) (star (rinP R) (star (oRow [] A2 c2) (star (robP []) none_))))) from G1.out.perm (by ac_rfl)) ((rowP_stable _ _ _ _ _).star SQ1.out) R6.out K6.out (fun k hk => F6.out k hk)
        have N2 := N1.newRow ((rowP_stable _ _ _ _ _).star ((rowP_stable _ _ _ _ _).star SQ1.out)) (Row.nil w6 3 1) (Keep.same _ _) (fun k hk => by simp [Value.ownBlock] at hk)
        have SQ2 := Lib.hid ((rowP_stable 97 3 (.slice A6 L.length c6) L.length (opsV L)).star ((rowP_stable 3 1 (.slice none 0 0) 0 []).star SQ1.out))
        have N5 := Holds.alloc (show Holds b w w6 (star (rRow R A1 c1) (star (rowP 97 3 (.slice A6 L.length c6) L.length (opsV L)) (star (rowP 3 1 (.slice none 0 0) 0 []) (star (rBlk b R [] A1 c1 A2 c2) (star (rinP R) (star (oRow [] A2 c2) (star (robP []) none_))))))) from N2.perm (by ac_rfl)) ((rowP_stable _ _ _ _ _).star SQ2.out) (.cells #[.slice A6 L.length c6, .int .i64 0, .bool false, .slice none 0 0] 157)
        have N6 := Lib.hid N5
        have RW := Lib.hid N5.row
        have SRC := Lib.hid (U.Src.fresh w6 #[.slice A6 L.length c6, .int .i64 0, .bool false, .slice none 0 0] 157 4 1 rfl)
        refine step_app _ (by rfl) ER (.tmp 17) (.tmp 24) (by rfl) RW.out SRC.out 1 (by simp [Act.eval, Act.put]) (by simp [Act.eval, Act.put]) (by simp [Value.oneCell']) (by have := HXL.out; have := HLT.out; unfold maxLen; omega) (by have := HXL.out; have := HLT.out; omega) ?_
        intro A9 c9 w9 hr9 hg9 hl9
        have N7 := Holds.grew N6.out SQ2.out hr9 hg9 hl9
        have N8 : Holds b w w9 (star (blkP b 155 #[.slice A1 R.length c1, .slice A2 0 c2]) (star (rowP 157 4 (.slice A9 (R.length + 1) c9) (R.length + 1) (rtV R ++ [.slice A6 L.length c6, .int .i64 0, .bool false, .slice none 0 0])) (star (rowP 97 3 (.slice A6 L.length c6) L.length (opsV L)) (star (rowP 3 1 (.slice none 0 0) 0 []) (star (rinP R) (star (oRow [] A2 c2) (star (robP []) none_))))))) := N7.perm (by
          show _ = star (rBlk b R [] A1 c1 A2 c2) _
          ac_rfl)
        have SQ3 := Lib.hid ((rowP_stable 157 4 (.slice A9 (R.length + 1) c9) (R.length + 1) (rtV R ++ [.slice A6 L.length c6, .int .i64 0, .bool false, .slice none 0 0])).star ((rowP_stable 97 3 (.slice A6 L.length c6) L.length (opsV L)).star ((rowP_stable 3 1 (.slice none 0 0) 0 []).star ((rinP_stable R).star SQ0.out))))
        have ca9 := (hb _ N8.below).cell hca0.out (fun h => h)
        have a9 := (blk_at' N8).cell 0
        have f9 := (blk_at' N8).free 0
        have N9 := N8.setBlk SQ3.out 0 (.slice A9 (R.length + 1) c9)
        have ca10 := (hb _ N9.below).cell hca0.out (fun h => h)
        have N9 := Lib.hid N9
        clear N1 N2 N5 N7 N8 hr9 hg9 hl9
        refine hK.out _ _ (ca9) (fun hHeld => ?_)
        clear hK K
        (try simp only [pn])
        refine tk 13 ?_
        (try simp only [pn])
        refine tk 14 ?_
        (try simp only [pn])
        refine rd 15 (fun K hK => ?_)
        go_simp
        refine hK.out _ _ (ca10) (fun hHeld => ?_)
        clear hK K
        (try simp only [pn])
        refine wpAnyH_done (by kernel_rfl) ?_ _
        refine NoPanic.normal ?_
        clear a0 a6 a7 a9 ca9 ca10
        have N10 := Lib.hid (ref_close (b := b) (R := R ++ [(⟨freshT L, .slice A6 L.length c6, .slice none 0 0⟩ : RTk)]) (O := []) (A := A9) (c := c9) (A' := A2) (c' := c2) (Q := none_) (by
          unfold rBlk rRow
          rw [List.length_append, rtV_app, rinP_push]
          exact N9.out.perm (by
            show star (blkP b 155 #[.slice A9 (R.length + 1) c9, .slice A2 0 c2]) (star (rowP 157 4 (.slice A9 (R.length + 1) c9) (R.length + 1) (rtV R ++ [.slice A6 L.length c6, .int .i64 0, .bool false, .slice none 0 0])) (star (rowP 97 3 (.slice A6 L.length c6) L.length (opsV L)) (star (rowP 3 1 (.slice none 0 0) 0 []) (star (rinP R) (star (oRow [] A2 c2) (star (robP []) none_)))))) = star (blkP b 155 #[.slice A9 (R.length + 1) c9, .slice A2 0 c2]) (star (rowP 157 4 (.slice A9 (R.length + 1) c9) (R.length + 1) (rtV R ++ [.slice A6 L.length c6, .int .i64 0, .bool false, .slice none 0 0])) (star (oRow [] A2 c2) (star (star (star (rowP 97 3 (.slice A6 L.length c6) L.length (opsV L)) (rowP 3 1 (.slice none 0 0) 0 [])) (rinP R)) (star (robP []) none_))))
            ac_rfl)))
        go_wp2_with fail
        go_roundw
        case rel => exact ⟨k + 1, R ++ [(⟨freshT L, .slice A6 L.length c6, .slice none 0 0⟩ : RTk)], A9, c9, by have := HLT.out; omega, by go_num, by rw [List.map_append, HX.out, List.take_add_one, HT.out]; simp, N10.out⟩
        case measure => have := HLT.out; simp [intOf]; omega
      · refine step_app _ (by rfl) EO (.const (.slice none 0 0)) (.tmp 21) (by rfl) (Row.nil _ 97 3) (SRCL.out _ kn) ck (by simp [Act.eval, Act.put]) (by simp [Act.eval, Act.put]) O1.out (by have := HLL.out; unfold maxLen; omega) (by have := HLL.out; omega) ?_
        intro A6 c6 w6 hr6 hg6 hl6
        have K6 := Lib.hid (((Keep.same Nothing wr).drew).grown hg6 (fun i hi => by simp [Value.ownBlock] at hi))
        have F6 := Lib.hid (show ∀ j, (Value.slice A6 (0 + L.length) c6).ownBlock = some j → wr.heap.size ≤ j by
          intro j hj
          rcases hl6 with h | h
          · rw [h] at hj; simp [Value.ownBlock] at hj
          · rw [h] at hj; injection hj with hj; rw [← hj]; exact Nat.le_refl _)
        rw [List.nil_append] at hr6
        rw [Nat.zero_add] at hr6 F6 ⊢
        have B6 := B1.out.keep K6.out (fun h => h)
        have a6 := B6.cell 0
        have B7 := B6.alloc (.cells #[.slice A6 L.length c6, .int .i64 0, .bool false, .slice none 0 0] 157)
        have a7 := B7.cell 0
        have R6 := Lib.hid hr6
        clear hr6 hg6 hl6 B6 B7
        refine hK.out _ _ (SCA.out _ K6.out) (fun hHeld => ?_)
        clear hK K
        (try simp only [pn])
        refine tk 10 ?_
        (try simp only [pn])
        refine wpAnyH_ready (rs := [4, 11]) (by kernel_rfl) (by simp) ?_
        refine AllReadyH.cons (o := _) (by simp only [List.getElem?_toArray, List.getElem?_cons_succ, List.getElem?_cons_zero]; rfl) (fun K hK => ?_) (AllReadyH.cons (o := _) (by simp only [List.getElem?_toArray, List.getElem?_cons_succ, List.getElem?_cons_zero]; rfl) (fun K hK => ?_) AllReadyH.nil)
        · go_simp
          refine hK.out _ _ (SCA.out _ (by repeat (first | with_reducible (exact K6.out) | with_reducible (apply Keep.drew) | with_reducible (apply Keep.alloc)))) (fun hHeld => ?_)
          clear hK K
          (try simp only [pn])
          refine rd 11 (fun K hK => ?_)
          go_simp
          refine hK.out _ _ (SCA.out _ (by repeat (first | with_reducible (exact K6.out) | with_reducible (apply Keep.drew) | with_reducible (apply Keep.alloc)))) (fun hHeld => ?_)
          clear hK K
          (try simp only [pn])
          refine rd 12 (fun K hK => ?_)
          have SQ0 := Lib.hid ((oRow_st [] A2 c2).star ((robP_stable []).star none_stable))
          have SQ1 := Lib.hid ((blkP_stable b 155 #[.slice A1 R.length c1, .slice A2 0 c2]).star ((rinP_stable R).star SQ0.out))
          have N1 := Holds.newRow (show Holds b w wr (star (rRow R A1 c1) (star (rBlk b R [] A1 c1 A2 c2) (star (rinP R) (star (oRow [] A2 c2) (star (robP []) none_))))) from G1.out.perm (by ac_rfl)) ((rowP_stable _ _ _ _ _).star SQ1.out) R6.out K6.out (fun k hk => F6.out k hk)
          have N2 := N1.newRow ((rowP_stable _ _ _ _ _).star ((rowP_stable _ _ _ _ _).star SQ1.out)) (Row.nil w6 3 1) (Keep.same _ _) (fun k hk => by simp [Value.ownBlock] at hk)
          have SQ2 := Lib.hid ((rowP_stable 97 3 (.slice A6 L.length c6) L.length (opsV L)).star ((rowP_stable 3 1 (.slice none 0 0) 0 []).star SQ1.out))
          have N5 := Holds.alloc (show Holds b w w6 (star (rRow R A1 c1) (star (rowP 97 3 (.slice A6 L.length c6) L.length (opsV L)) (star (rowP 3 1 (.slice none 0 0) 0 []) (star (rBlk b R [] A1 c1 A2 c2) (star (rinP R) (star (oRow [] A2 c2) (star (robP []) none_))))))) from N2.perm (by ac_rfl)) ((rowP_stable _ _ _ _ _).star SQ2.out) (.cells #[.slice A6 L.length c6, .int .i64 0, .bool false, .slice none 0 0] 157)
          have N6 := Lib.hid N5
          have RW := Lib.hid N5.row
          have SRC := Lib.hid (U.Src.fresh w6 #[.slice A6 L.length c6, .int .i64 0, .bool false, .slice none 0 0] 157 4 1 rfl)
          refine step_app _ (by rfl) ER (.tmp 17) (.tmp 24) (by rfl) RW.out SRC.out 1 (by simp [Act.eval, Act.put]) (by simp [Act.eval, Act.put]) (by simp [Value.oneCell']) (by have := HXL.out; have := HLT.out; unfold maxLen; omega) (by have := HXL.out; have := HLT.out; omega) ?_
          intro A9 c9 w9 hr9 hg9 hl9
          have N7 := Holds.grew N6.out SQ2.out hr9 hg9 hl9
          have N8 : Holds b w w9 (star (blkP b 155 #[.slice A1 R.length c1, .slice A2 0 c2]) (star (rowP 157 4 (.slice A9 (R.length + 1) c9) (R.length + 1) (rtV R ++ [.slice A6 L.length c6, .int .i64 0, .bool false, .slice none 0 0])) (star (rowP 97 3 (.slice A6 L.length c6) L.length (opsV L)) (star (rowP 3 1 (.slice none 0 0) 0 []) (star (rinP R) (star (oRow [] A2 c2) (star (robP []) none_))))))) := N7.perm (by
            show _ = star (rBlk b R [] A1 c1 A2 c2) _
            ac_rfl)
          have SQ3 := Lib.hid ((rowP_stable 157 4 (.slice A9 (R.length + 1) c9) (R.length + 1) (rtV R ++ [.slice A6 L.length c6, .int .i64 0, .bool false, .slice none 0 0])).star ((rowP_stable 97 3 (.slice A6 L.length c6) L.length (opsV L)).star ((rowP_stable 3 1 (.slice none 0 0) 0 []).star ((rinP_stable R).star SQ0.out))))
          have ca9 := (hb _ N8.below).cell hca0.out (fun h => h)
          have a9 := (blk_at' N8).cell 0
          have f9 := (blk_at' N8).free 0
          have N9 := N8.setBlk SQ3.out 0 (.slice A9 (R.length + 1) c9)
          have ca10 := (hb _ N9.below).cell hca0.out (fun h => h)
          have N9 := Lib.hid N9
          clear N1 N2 N5 N7 N8 hr9 hg9 hl9
          refine hK.out _ _ (ca9) (fun hHeld => ?_)
          clear hK K
          (try simp only [pn])
          refine tk 13 ?_
          (try simp only [pn])
          refine tk 14 ?_
          (try simp only [pn])
          refine rd 15 (fun K hK => ?_)
          go_simp
          refine hK.out _ _ (ca10) (fun hHeld => ?_)
          clear hK K
          (try simp only [pn])
          refine wpAnyH_done (by kernel_rfl) ?_ _
          refine NoPanic.normal ?_
          clear a0 a6 a7 a9 ca9 ca10
          have N10 := Lib.hid (ref_close (b := b) (R := R ++ [(⟨freshT L, .slice A6 L.length c6, .slice none 0 0⟩ : RTk)]) (O := []) (A := A9) (c := c9) (A' := A2) (c' := c2) (Q := none_) (by
            unfold rBlk rRow
            rw [List.length_append, rtV_app, rinP_push]
            exact N9.out.perm (by
              show star (blkP b 155 #[.slice A9 (R.length + 1) c9, .slice A2 0 c2]) (star (rowP 157 4 (.slice A9 (R.length + 1) c9) (R.length + 1) (rtV R ++ [.slice A6 L.length c6, .int .i64 0, .bool false, .slice none 0 0])) (star (rowP 97 3 (.slice A6 L.length c6) L.length (opsV L)) (star (rowP 3 1 (.slice none 0 0) 0 []) (star (rinP R) (star (oRow [] A2 c2) (star (robP []) none_)))))) = star (blkP b 155 #[.slice A9 (R.length + 1) c9, .slice A2 0 c2]) (star (rowP 157 4 (.slice A9 (R.length + 1) c9) (R.length + 1) (rtV R ++ [.slice A6 L.length c6, .int .i64 0, .bool false, .slice none 0 0])) (star (oRow [] A2 c2) (star (star (star (rowP 97 3 (.slice A6 L.length c6) L.length (opsV L)) (rowP 3 1 (.slice none 0 0) 0 [])) (rinP R)) (star (robP []) none_))))
              ac_rfl)))
          go_wp2_with fail
          go_roundw
          case rel => exact ⟨k + 1, R ++ [(⟨freshT L, .slice A6 L.length c6, .slice none 0 0⟩ : RTk)], A9, c9, by have := HLT.out; omega, by go_num, by rw [List.map_append, HX.out, List.take_add_one, HT.out]; simp, N10.out⟩
          case measure => have := HLT.out; simp [intOf]; omega
        · go_simp
          refine hK.out _ _ (SCA.out _ (by repeat (first | with_reducible (exact K6.out) | with_reducible (apply Keep.drew) | with_reducible (apply Keep.alloc)))) (fun hHeld => ?_)
          clear hK K
          (try simp only [pn])
          refine rd 4 (fun K hK => ?_)
          go_simp
          refine hK.out _ _ (SCA.out _ (by repeat (first | with_reducible (exact K6.out) | with_reducible (apply Keep.drew) | with_reducible (apply Keep.alloc)))) (fun hHeld => ?_)
          clear hK K
          (try simp only [pn])
          refine rd 12 (fun K hK => ?_)
          have SQ0 := Lib.hid ((oRow_st [] A2 c2).star ((robP_stable []).star none_stable))
          have SQ1 := Lib.hid ((blkP_stable b 155 #[.slice A1 R.length c1, .slice A2 0 c2]).star ((rinP_stable R).star SQ0.out))
          have N1 := Holds.newRow (show Holds b w wr (star (rRow R A1 c1) (star (rBlk b R [] A1 c1 A2 c2) (star (rinP R) (star (oRow [] A2 c2) (star (robP []) none_))))) from G1.out.perm (by ac_rfl)) ((rowP_stable _ _ _ _ _).star SQ1.out) R6.out K6.out (fun k hk => F6.out k hk)
          have N2 := N1.newRow ((rowP_stable _ _ _ _ _).star ((rowP_stable _ _ _ _ _).star SQ1.out)) (Row.nil w6 3 1) (Keep.same _ _) (fun k hk => by simp [Value.ownBlock] at hk)
          have SQ2 := Lib.hid ((rowP_stable 97 3 (.slice A6 L.length c6) L.length (opsV L)).star ((rowP_stable 3 1 (.slice none 0 0) 0 []).star SQ1.out))
          have N5 := Holds.alloc (show Holds b w w6 (star (rRow R A1 c1) (star (rowP 97 3 (.slice A6 L.length c6) L.length (opsV L)) (star (rowP 3 1 (.slice none 0 0) 0 []) (star (rBlk b R [] A1 c1 A2 c2) (star (rinP R) (star (oRow [] A2 c2) (star (robP []) none_))))))) from N2.perm (by ac_rfl)) ((rowP_stable _ _ _ _ _).star SQ2.out) (.cells #[.slice A6 L.length c6, .int .i64 0, .bool false, .slice none 0 0] 157)
          have N6 := Lib.hid N5
          have RW := Lib.hid N5.row
          have SRC := Lib.hid (U.Src.fresh w6 #[.slice A6 L.length c6, .int .i64 0, .bool false, .slice none 0 0] 157 4 1 rfl)
          refine step_app _ (by rfl) ER (.tmp 17) (.tmp 24) (by rfl) RW.out SRC.out 1 (by simp [Act.eval, Act.put]) (by simp [Act.eval, Act.put]) (by simp [Value.oneCell']) (by have := HXL.out; have := HLT.out; unfold maxLen; omega) (by have := HXL.out; have := HLT.out; omega) ?_
          intro A9 c9 w9 hr9 hg9 hl9
          have N7 := Holds.grew N6.out SQ2.out hr9 hg9 hl9
          have N8 : Holds b w w9 (star (blkP b 155 #[.slice A1 R.length c1, .slice A2 0 c2]) (star (rowP 157 4 (.slice A9 (R.length + 1) c9) (R.length + 1) (rtV R ++ [.slice A6 L.length c6, .int .i64 0, .bool false, .slice none 0 0])) (star (rowP 97 3 (.slice A6 L.length c6) L.length (opsV L)) (star (rowP 3 1 (.slice none 0 0) 0 []) (star (rinP R) (star (oRow [] A2 c2) (star (robP []) none_))))))) := N7.perm (by
            show _ = star (rBlk b R [] A1 c1 A2 c2) _
            ac_rfl)
          have SQ3 := Lib.hid ((rowP_stable 157 4 (.slice A9 (R.length + 1) c9) (R.length + 1) (rtV R ++ [.slice A6 L.length c6, .int .i64 0, .bool false, .slice none 0 0])).star ((rowP_stable 97 3 (.slice A6 L.length c6) L.length (opsV L)).star ((rowP_stable 3 1 (.slice none 0 0) 0 []).star ((rinP_stable R).star SQ0.out))))
          have ca9 := (hb _ N8.below).cell hca0.out (fun h => h)
          have a9 := (blk_at' N8).cell 0
          have f9 := (blk_at' N8).free 0
          have N9 := N8.setBlk SQ3.out 0 (.slice A9 (R.length + 1) c9)
          have ca10 := (hb _ N9.below).cell hca0.out (fun h => h)
          have N9 := Lib.hid N9
          clear N1 N2 N5 N7 N8 hr9 hg9 hl9
          refine hK.out _ _ (ca9) (fun hHeld => ?_)
          clear hK K
          (try simp only [pn])
          refine tk 13 ?_
          (try simp only [pn])
          refine tk 14 ?_
          (try simp only [pn])
          refine rd 15 (fun K hK => ?_)
          go_simp
          refine hK.out _ _ (ca10) (fun hHeld => ?_)
          clear hK K
          (try simp only [pn])
          refine wpAnyH_done (by kernel_rfl) ?_ _
          refine NoPanic.normal ?_
          clear a0 a6 a7 a9 ca9 ca10
          have N10 := Lib.hid (ref_close (b := b) (R := R ++ [(⟨freshT L, .slice A6 L.length c6, .slice none 0 0⟩ : RTk)]) (O := []) (A := A9) (c := c9) (A' := A2) (c' := c2) (Q := none_) (by
            unfold rBlk rRow
            rw [List.length_append, rtV_app, rinP_push]
            exact N9.out.perm (by
              show star (blkP b 155 #[.slice A9 (R.length + 1) c9, .slice A2 0 c2]) (star (rowP 157 4 (.slice A9 (R.length + 1) c9) (R.length + 1) (rtV R ++ [.slice A6 L.length c6, .int .i64 0, .bool false, .slice none 0 0])) (star (rowP 97 3 (.slice A6 L.length c6) L.length (opsV L)) (star (rowP 3 1 (.slice none 0 0) 0 []) (star (rinP R) (star (oRow [] A2 c2) (star (robP []) none_)))))) = star (blkP b 155 #[.slice A9 (R.length + 1) c9, .slice A2 0 c2]) (star (rowP 157 4 (.slice A9 (R.length + 1) c9) (R.length + 1) (rtV R ++ [.slice A6 L.length c6, .int .i64 0, .bool false, .slice none 0 0])) (star (oRow [] A2 c2) (star (star (star (rowP 97 3 (.slice A6 L.length c6) L.length (opsV L)) (rowP 3 1 (.slice none 0 0) 0 [])) (rinP R)) (star (robP []) none_))))
              ac_rfl)))
          go_wp2_with fail
          go_roundw
          case rel => exact ⟨k + 1, R ++ [(⟨freshT L, .slice A6 L.length c6, .slice none 0 0⟩ : RTk)], A9, c9, by have := HLT.out; omega, by go_num, by rw [List.map_append, HX.out, List.take_add_one, HT.out]; simp, N10.out⟩
          case measure => have := HLT.out; simp [intOf]; omega
    · obtain rfl : k = TS.length := by omega
      have e : TS.take TS.length = TS := List.take_length
      have HX2 := HX.out
      rw [e] at HX2
      have HX3 := Lib.hid HX2
      clear e HX2
      go_wp2_with fail
      go_ret
      exact ⟨b, rfl, by rw [HG.out]; exact refE_close (eqv_new HX3.out) (Nat.le_refl _) (fun o ho => by cases ho) H.out⟩
end Go.Proofs.Ytmohpjkbhpgidaa.A
namespace Go.Proofs.Ytmohpjkbhpgidaa.A
open Go.RowKit Go.Proofs.Ytmohpjkbhpgidaa.U
set_option linter.unusedVariables false
set_option linter.unusedSimpArgs false
set_option maxRecDepth 100000
set_option maxHeartbeats 800000

theorem neq103 (w : World) (a b c : Int) : (binOp .neq 103 (.agg #[.int .i64 a, .int .i64 b, .int .i64 c]) (.agg #[.int .i64 a, .int .i64 b, .int .i64 c])).run Try.prog w = .ok (.bool false) w := by
  have hu := Try.underlying103
  have hu3 := Try.underlying3
  have hu32 := Try.underlying32
  have hf : Try.prog.underlying 103 = some (.struct (Try.prog.fieldsOf 103)) := by kernel_rfl
  have hh : Try.prog.stoodInHeld 103 = false := by kernel_rfl
  rw [run_neq_struct, show (10000 : Nat) = 9998 + 2 from rfl]
  rw [run_equalIn_agg w (9998 + 1) 103 _ _ hf hh]
  have hfl : (Try.prog.fieldsOf 103).toList = (match Try.prog.underlying 103 with | some (.struct fs) => fs.toList | _ => []) := by kernel_rfl
  rw [hfl, hu]
  have p0 : ∀ (a b c : Value) (W : World), (part 3 #[a, b, c] 0).run Try.prog W = .ok a W := fun a b c W => by rfl
  have p1 : ∀ (a b c : Value) (W : World), (part 3 #[a, b, c] 1).run Try.prog W = .ok b W := fun a b c W => by rfl
  have p2 : ∀ (a b c : Value) (W : World), (part 32 #[a, b, c] 2).run Try.prog W = .ok c W := fun a b c W => by rfl
  have q3 := fun x y => run_equalIn_int (P := Try.prog) w 9998 3 .i64 .i64 x y hu3
  have q32 := fun x y => run_equalIn_int (P := Try.prog) w 9998 32 .i64 .i64 x y hu32
  simp [Op.eqFields, p0, p1, p2, q3, q32, Result.andThen]
theorem ev_at {w : World} {A : Option Addr} {l : List Ev} {n k : Nat} (h : U.Src w A 3 n (evsV l)) (hk : k < n) : ∃ (ad : Addr) (x : Ev), A = some ad ∧ l[k]? = some x ∧ w.cell? (ad.add (k * 3)) = some (.int .i64 x.task) ∧ w.cell? ⟨(ad.add (k * 3)).block, (ad.add (k * 3)).off + 1, none⟩ = some (.int .i64 x.at_) ∧ w.cell? ⟨(ad.add (k * 3)).block, (ad.add (k * 3)).off + 2, none⟩ = some (.int .i64 x.er) := by
  have hl : l.length = n := by have := h.1; rw [evsV_len] at this; omega
  obtain ⟨ad, rfl, hc⟩ := h.2 (by omega)
  have hx : l[k]? = some (l[k]'(by omega)) := List.getElem?_eq_getElem (by omega)
  have g : ∀ j u, j < 3 → (Ev.cl (l[k]'(by omega)))[j]? = some u → w.cell? ((ad.add (k * 3)).add j) = some u := fun j u hj hu => by
    rw [U.addAdd]
    exact hc _ _ (by rw [evsV_get hx j hj]; exact hu)
  exact ⟨ad, _, rfl, hx, g 0 _ (by omega) rfl, g 1 _ (by omega) rfl, g 2 _ (by omega) rfl⟩
theorem events_calls (w : World) (A A' : Option Addr) (n c c' : Nat) (l : List Ev) (h : U.Src w A 3 n (evsV l)) (h' : U.Src w A' 3 n (evsV l)) (hn : n ≤ 1000000) :
    Calls Try.prog 57 #[.slice A n c, .slice A' n c'] w (Pure w (.bool true)) := by
  have hu := Try.underlying103
  have H := Lib.hid h
  have H' := Lib.hid h'
  clear h h'
  go_enter Try.func57, Try.ntmps57
  go_wp2_with fail
  go_loopw [5] (fun v wr => Drew w wr ∧ ∃ k : Nat, k ≤ n ∧ v = .int .i64 k) (fun v _ => n - (intOf v).toNat)
  case atStart => exact ⟨Drew.same _, 0, by omega, by simp⟩
  case round =>
    obtain ⟨⟨nd, rfl⟩, k, hk, rfl⟩ := hrel
    by_cases hlt : k < n
    · obtain ⟨ad, y, rfl, hy, c0, c1, c2⟩ := ev_at H.out hlt
      obtain ⟨ad', y', rfl, hy', c0', c1', c2'⟩ := ev_at H'.out hlt
      rw [hy] at hy'
      injection hy' with hy'
      subst hy'
      have hq := fun w => neq103 w y.task y.at_ y.er
      clear hy
      go_wp2_with fail
      go_quiet (fail)
      go_wp2_with fail
      go_roundw
      case rel => exact ⟨(Drew.same _).more _, k + 1, by omega, by go_num⟩
      case measure => simp [intOf]; omega
    · go_wp2_with fail
      go_ret
      exact ⟨rfl, (Drew.same _).more _⟩
/-- Rows of operations, as an argument with a bound of its own. -/
def ArgS (w : World) (A : Option Addr) (TS : List (List Op3)) : Prop := ∀ k L, TS[k]? = some L → ∃ ad Ak ck, A = some ad ∧ w.cell? (ad.add k) = some (.slice Ak L.length ck) ∧ U.Src w Ak 3 L.length (opsV L) ∧ L.length ≤ 5864062014806 ∧ ∀ x ∈ L, -9223372036854775808 ≤ x.n ∧ x.n ≤ 9223372036854775807
def tot (TS : List (List Op3)) : Nat := (TS.map (fun l => l.length + 1)).sum
theorem tot_take {TS : List (List Op3)} {k : Nat} {L : List Op3} (h : TS[k]? = some L) : tot (TS.take (k + 1)) = tot (TS.take k) + (L.length + 1) := by
  unfold tot
  rw [List.take_add_one, h]
  simp
theorem tot_mem : ∀ {TS : List (List Op3)} {L : List Op3}, L ∈ TS → L.length + 1 ≤ tot TS
  | y :: TS, L, h => by
    have e : tot (y :: TS) = y.length + 1 + tot TS := by unfold tot; simp
    rcases List.mem_cons.1 h with rfl | h
    · omega
    · have := tot_mem h; omega
theorem tot_len : ∀ (TS : List (List Op3)), TS.length ≤ tot TS
  | [] => Nat.zero_le _
  | y :: TS => by
    have e : tot (y :: TS) = y.length + 1 + tot TS := by unfold tot; simp
    have := tot_len TS
    rw [e, List.length_cons]; omega
theorem ArgS.keep {w w' : World} {A : Option Addr} {TS : List (List Op3)} (h : ArgS w A TS) (hk : Keep Nothing w w') : ArgS w' A TS := fun k L hL =>
  let ⟨ad, Ak, ck, e, hc, hs, h1, h2⟩ := h k L hL
  ⟨ad, Ak, ck, e, hk.cell hc (fun h => h), src_keep hs hk, h1, h2⟩
theorem ArgS.ops {w : World} {A : Option Addr} {TS : List (List Op3)} (h : ArgS w A TS) (ht : tot TS ≤ 500) : ArgOps w A TS := fun k L hL =>
  let ⟨ad, Ak, ck, e, hc, hs, h1, h2⟩ := h k L hL
  ⟨ad, Ak, ck, e, hc, hs, by have := tot_mem (List.mem_of_getElem? hL); omega⟩
theorem ArgS.good {w : World} {A : Option Addr} {TS : List (List Op3)} (h : ArgS w A TS) (ht : tot TS ≤ 500) : GoodS (newS TS) 0 := new_good TS (fun l hl => by
  obtain ⟨k, hk, rfl⟩ := List.mem_iff_getElem.1 hl
  obtain ⟨ad, Ak, ck, e, hc, hs, h1, h2⟩ := h k _ (List.getElem?_eq_getElem hk)
  exact ⟨by have := tot_mem hl; omega, h2⟩) (by have := tot_len TS; omega)
theorem small_calls (w : World) (A : Option Addr) (c : Nat) (TS : List (List Op3)) (h : ArgS w A TS) (hl : TS.length ≤ 1048576) :
    Calls Try.prog 53 #[.slice A TS.length c] w (Pure w (.bool (decide (tot TS ≤ 500)))) := by
  have HA := Lib.hid h
  clear h
  go_enter Try.func53, Try.ntmps53
  go_wp2_with fail
  go_loopw [3, 4] (fun vn vi wr => Drew w wr ∧ ∃ (k s : Nat), k ≤ TS.length ∧ vi = .int .i64 k ∧ vn = .int .i64 s ∧ s = tot (TS.take k) ∧ s ≤ k * 5864062014807) (fun vn vi _ => TS.length - (intOf vi).toNat)
  case atStart => exact ⟨Drew.same _, 0, 0, by omega, by simp, by simp, rfl, by omega⟩
  case round =>
    obtain ⟨⟨nd, rfl⟩, k, s, hk, rfl, rfl, hs, hsb⟩ := hrel
    have HS := Lib.hid hs
    clear hs
    by_cases hlt : k < TS.length
    · obtain ⟨L, hTL⟩ : ∃ L, TS[k]? = some L := ⟨_, List.getElem?_eq_getElem hlt⟩
      obtain ⟨ad, Ak, ck, rfl, hca, hsa, hlL, _⟩ := HA.out k L hTL
      have HT := Lib.hid (tot_take hTL)
      clear hTL hsa
      have hw1 : wrap64 ((L.length : Int) + 1) = (L.length : Int) + 1 := wrap64_in (by omega) (by omega)
      have hw2 : wrap64 ((s : Int) + ((L.length : Int) + 1)) = (s : Int) + ((L.length : Int) + 1) := wrap64_in (by omega) (by omega)
      have hs2 : s + (L.length + 1) ≤ (k + 1) * 5864062014807 := by omega
      have HS2 := Lib.hid hs2
      clear hs2
      go_wp2_with fail
      go_roundw
      case rel => exact ⟨(Drew.same _).more _, k + 1, s + (L.length + 1), by omega, by go_num, by simp, by rw [HT.out, HS.out], HS2.out⟩
      case measure => simp [intOf]; omega
    · obtain rfl : k = TS.length := by omega
      have hs3 := HS.out
      rw [List.take_length] at hs3
      have HS3 := Lib.hid hs3
      clear hs3
      go_wp2_with fail
      go_ret
      rw [← HS3.out]
      exact ⟨by simp; try omega, (Drew.same _).more _⟩
end Go.Proofs.Ytmohpjkbhpgidaa.A
namespace Go.Proofs.Ytmohpjkbhpgidaa.A
open Go.ChangeShapes Go.WideShapes Go.ChangeAt Go.RowKit Go.Joins Go.Proofs.Ytmohpjkbhpgidaa.U
set_option linter.unusedVariables false
set_option linter.unusedSimpArgs false
set_option maxRecDepth 100000
set_option maxHeartbeats 800000

theorem bulk_pos {H : Type} (d : DataW H) : 1 ≤ Rows.uptoBulk d := by
  cases d with
  | lit l => cases l <;> simp [Rows.uptoBulk]
  | _ => simp [Rows.uptoBulk]
theorem bulk_len {H : Type} : ∀ (l : List (DataW H)), l.length ≤ Rows.uptoBulkAll l
  | [] => Nat.zero_le _
  | d :: r => by
    have := bulk_pos d
    have := bulk_len r
    rw [Rows.uptoBulkAll, List.length_cons]; omega
theorem cells97 : Try.prog.cellsOf 97 = 3 := by kernel_rfl
theorem op_cells {H : Type} {enc : TypeId × Value → H} {W : World} {b0 n : Nat} {cs : List Value} {y : DataW H × List MemPlace} (ht : DataW.trod enc Try.prog W b0 (fun _ => true) true n 97 cs = some y) (hlt : ∀ p ∈ y.2, p.block < W.heap.size) (hw : R.Light 97 y.1) :
    ∃ x : Op3, cs = x.cl ∧ -9223372036854775808 ≤ x.n ∧ x.n ≤ 9223372036854775807 := by
  obtain ⟨hcl, m, hf⟩ := R.parts Try.underlying97 ht hlt hw
  rw [cells97] at hcl
  obtain ⟨y0, k0, _⟩ := hf 0 3 0 rfl
  obtain ⟨y1, k1, _⟩ := hf 1 3 1 rfl
  obtain ⟨y2, k2, _⟩ := hf 2 3 2 rfl
  obtain ⟨v0, g0, k0⟩ := R.part1 cells_3 (by omega) k0
  obtain ⟨v1, g1, k1⟩ := R.part1 cells_3 (by omega) k1
  obtain ⟨v2, g2, k2⟩ := R.part1 cells_3 (by omega) k2
  obtain ⟨n0, rfl, w0⟩ := R.cell_int Try.underlying3 k0
  obtain ⟨n1, rfl, w1⟩ := R.cell_int Try.underlying3 k1
  obtain ⟨n2, rfl, w2⟩ := R.cell_int Try.underlying3 k2
  refine ⟨⟨n0, n1, n2⟩, ?_, w2⟩
  match cs, hcl, g0, g1, g2 with
  | [a, b, c], _, g0, g1, g2 =>
    simp at g0 g1 g2
    subst g0; subst g1; subst g2
    rfl
theorem opsV_get' {L : List Op3} {k : Nat} {x : Op3} (h : L[k]? = some x) (j : Nat) (hj : j < 3) : (opsV L)[k * 3 + j]? = x.cl[j]? := by
  induction L generalizing k with
  | nil => simp at h
  | cons y L ih =>
    show (y.cl ++ opsV L)[k * 3 + j]? = _
    cases k with
    | zero =>
      simp at h; subst h
      rw [List.getElem?_append_left (by simp; omega)]
      simp
    | succ k =>
      rw [List.getElem?_append_right (by simp; omega)]
      simp at h
      rw [← ih h]
      congr 1
      simp; omega
theorem opsV_len' (L : List Op3) : (opsV L).length = L.length * 3 := by
  induction L with
  | nil => rfl
  | cons x L ih => show (x.cl ++ opsV L).length = _; rw [List.length_append, ih]; simp; omega
theorem open_tasks {H : Type} {enc : TypeId × Value → H} {W : World} {base : Nat} {v : Value} {d : DataW H} {p : List MemPlace}
    (hv : Value.okWide Try.prog W .any base 89 v) (h : DataW.Trod enc Try.prog W 0 (fun _ => true) true 89 v d p) (hlt : ∀ x ∈ p, x.block < W.heap.size) (hw : R.Light 89 d) (hb : Rows.uptoBulk d ≤ 1048576) :
    ∃ A TS cap, v = .slice A TS.length cap ∧ ArgS W A TS ∧ TS.length ≤ 1048576 := by
  obtain ⟨A, len, cap, e1, _, _, _, hd⟩ := R.open_cells_bulk Try.underlying89 cells_99 hv h hlt (by omega)
  obtain ⟨A', len', cap', e2, hc1, hc2, hc3, hel⟩ := R.open_arg Try.underlying89 cells_99 hv h hlt hw (by omega)
  rw [e1] at e2
  injection e2 with q1 q2 q3
  subst q1; subst q2; subst q3
  have hlen : len ≤ 1048576 := by
    rcases hd with ⟨_, h0⟩ | ⟨es, sp, rfl, he, _⟩
    · omega
    · have := bulk_len es
      simp only [Rows.uptoBulk] at hb
      omega
  obtain ⟨TS, hl, hp⟩ := R.exists_list (p := fun i (L : List Op3) => ∃ ad Ak ck, A = some ad ∧ W.cell? (ad.add i) = some (.slice Ak L.length ck) ∧ U.Src W Ak 3 L.length (opsV L) ∧ L.length ≤ 5864062014806 ∧ ∀ x ∈ L, -9223372036854775808 ≤ x.n ∧ x.n ≤ 9223372036854775807) len (fun i hi => by
    obtain ⟨ad, cs, n, y, rfl, hB, hcl, hat, ht, hpl, hlg⟩ := hel i hi
    obtain ⟨u, rfl⟩ : ∃ u, cs = [u] := by
      match cs, hcl with
      | [u], _ => exact ⟨u, rfl⟩
    obtain ⟨Ak, ln, ck, rfl, hk1, hk2, hk3, hrow⟩ := R.open_row Try.underlying99 cells97 ht hpl hlg (by omega)
    obtain ⟨L, hL, hq⟩ := R.exists_list (p := fun j (x : Op3) => (∃ ad, Ak = some ad ∧ ∀ q u, x.cl[q]? = some u → W.cell? (ad.add (j * 3 + q)) = some u) ∧ -9223372036854775808 ≤ x.n ∧ x.n ≤ 9223372036854775807) ln (fun j hj => by
      obtain ⟨ad2, cs2, n2, y2, rfl, hB2, hcl2, hat2, ht2, hpl2, hlg2⟩ := hrow j hj
      obtain ⟨x, rfl, hx⟩ := op_cells ht2 hpl2 hlg2
      exact ⟨x, ⟨ad2, rfl, fun q u hu => (hat2 q (by have := (List.getElem?_eq_some_iff.1 hu).1; simpa using this)).trans hu⟩, hx⟩)
    have hb24 : Try.prog.bytesOf 97 = 24 := by kernel_rfl
    rw [hb24] at hk3
    have hreach : reachBytes ≤ 140737488355328 := by decide
    refine ⟨L, ad, Ak, ck, rfl, by rw [hL]; have := hat 0 (by omega); simpa using this, ⟨opsV_len' L, fun h0 => ?_⟩, by omega, fun x hx => ?_⟩
    · obtain ⟨⟨ad2, e, _⟩, _⟩ := hq 0 _ (List.getElem?_eq_getElem h0)
      refine ⟨ad2, e, fun q u hu => ?_⟩
      have hqlt := (List.getElem?_eq_some_iff.1 hu).1
      rw [opsV_len'] at hqlt
      have hdiv : q / 3 < L.length := by omega
      obtain ⟨⟨ad3, e3, hc⟩, _⟩ := hq (q / 3) _ (List.getElem?_eq_getElem hdiv)
      rw [e] at e3
      injection e3 with e3
      subst e3
      have hqq : q / 3 * 3 + q % 3 = q := by omega
      have h3 := opsV_get' (List.getElem?_eq_getElem hdiv) (q % 3) (by omega)
      rw [hqq, hu] at h3
      have := hc (q % 3) u h3.symm
      rw [hqq] at this
      exact this
    · obtain ⟨j, hj, rfl⟩ := List.mem_iff_getElem.1 hx
      exact (hq j _ (List.getElem?_eq_getElem hj)).2)
  subst hl
  exact ⟨A, TS, cap, e1, fun k L hL => hp k L hL, hlen⟩
theorem runX_len (picks : List Int) : ∀ (f n : Nat) (S : PS) (l : List Ev), (runX picks f n S l).1.length ≤ l.length + f
  | 0, n, S, l => Nat.le_refl _
  | f + 1, n, S, l => by
    show (match roundX picks n S with | none => (l, S) | some (e, S') => runX picks f (n + 1) S' (l ++ [e])).1.length ≤ _
    cases roundX picks n S with
    | none => show l.length ≤ _; omega
    | some y =>
      have := runX_len picks f (n + 1) y.2 (l ++ [y.1])
      rw [List.length_append] at this
      show (runX picks f (n + 1) y.2 (l ++ [y.1])).1.length ≤ _
      simp at this
      omega
theorem runs13 (w : World) (A Ap : Option Addr) (c np cp : Nat) (TS : List (List Op3)) (picks : List Int) (h : ArgS w A TS) (hl : TS.length ≤ 1048576) (hp : U.Src w Ap 1 np (ints picks)) :
    Calls Try.prog 13 #[.slice A TS.length c, .slice Ap np cp] w (fun e w' => e = .returned (.bool true) ∧ Keep Nothing w w') := by
  have HS := Lib.hid (fun (w' : World) (hk : Keep Nothing w w') => small_calls w' A c TS (h.keep hk) hl)
  have HAW := Lib.hid awake54
  have HA := Lib.hid h
  have HPK := Lib.hid hp
  clear h hl hp
  by_cases ht : tot TS ≤ 500
  · have hd : decide (tot TS ≤ 500) = true := decide_eq_true ht
    rw [hd] at HS
    clear hd
    have hTL : TS.length ≤ 1000000 := by have := tot_len TS; omega
    have HTL := Lib.hid hTL
    have HT := Lib.hid ht
    clear ht hTL
    by_cases hn : 1000 < np
    · go_enter Try.func13, Try.ntmps13
      go_wp2_with fail
      refine (HS.out _ (by repeat (first | with_reducible (exact Keep.same _ _) | with_reducible (apply Keep.drewN) | with_reducible (apply Keep.drew)))).mono ?_
      rintro e w1 ⟨rfl, nd, rfl⟩
      go_wp2_with fail
      refine (HAW.out _).mono ?_
      rintro e w2 ⟨rfl, hk⟩
      have HK := Lib.hid hk
      clear hk
      go_wp2_with fail
      go_ret
      exact ⟨rfl, Keep.then (by repeat (first | with_reducible (exact Keep.same _ _) | with_reducible (apply Keep.drewN) | with_reducible (apply Keep.drew))) HK.out⟩
    · have HR := Lib.hid (fun (w' : World) (hk : Keep Nothing w w') => run_calls w' A Ap c np cp TS picks ((HA.out.keep hk).ops HT.out) HTL.out (src_keep HPK.out hk) ((HA.out.keep hk).good HT.out))
      have HF := Lib.hid (fun (w' : World) (hk : Keep Nothing w w') => rrun_calls w' A Ap c np cp TS picks ((HA.out.keep hk).ops HT.out) HTL.out (src_keep HPK.out hk) ((HA.out.keep hk).good HT.out) (new64 w' A c TS ((HA.out.keep hk).ops HT.out) HTL.out))
      have HLn := Lib.hid (show (runX picks 10000 0 (newS TS) []).1.length ≤ 1000000 by have := runX_len picks 10000 0 (newS TS) []; simp at this; omega)
      go_enter Try.func13, Try.ntmps13
      go_wp2_with fail
      refine (HS.out _ (by repeat (first | with_reducible (exact Keep.same _ _) | with_reducible (apply Keep.drewN) | with_reducible (apply Keep.drew)))).mono ?_
      rintro e w1 ⟨rfl, nd, rfl⟩
      go_wp2_with fail
      refine (HR.out _ (by repeat (first | with_reducible (exact Keep.same _ _) | with_reducible (apply Keep.drewN) | with_reducible (apply Keep.drew)))).mono ?_
      generalize runX picks 10000 0 (newS TS) [] = R at *
      rintro e w2 ⟨A2, c2, rfl, hr2, hk2⟩
      have R2 := Lib.hid hr2
      have K2 := Lib.hid (Keep.then (by repeat (first | with_reducible (exact Keep.same _ _) | with_reducible (apply Keep.drewN) | with_reducible (apply Keep.drew)) : Keep Nothing w _) hk2)
      clear hr2 hk2
      go_wp2_with fail
      refine (HF.out _ (by repeat (first | with_reducible (exact K2.out) | with_reducible (exact Keep.same _ _) | with_reducible (apply Keep.drewN) | with_reducible (apply Keep.drew)))).mono ?_
      rintro e w3 ⟨A3, c3, rfl, hr3, hk3⟩
      have R3 := Lib.hid hr3
      have R2' := Lib.hid (src_keep (R2.out.src) (Keep.then (by repeat (first | with_reducible (exact Keep.same _ _) | with_reducible (apply Keep.drewN) | with_reducible (apply Keep.drew))) hk3))
      have K3 := Lib.hid (Keep.then (by repeat (first | with_reducible (exact K2.out) | with_reducible (exact Keep.same _ _) | with_reducible (apply Keep.drewN) | with_reducible (apply Keep.drew)) : Keep Nothing w _) hk3)
      have HE := Lib.hid (fun (w' : World) (hk : Keep Nothing w3 w') => events_calls w' A2 A3 R.1.length c2 c3 R.1 (src_keep R2'.out hk) (src_keep R3.out.src hk) HLn.out)
      generalize (pickT Tk.open_ R.2.T R.2.T.length).isEmpty = bb at *
      clear hr3 hk3
      go_wp2_with fail
      refine (HE.out _ (by repeat (first | with_reducible (exact Keep.same _ _) | with_reducible (apply Keep.drewN) | with_reducible (apply Keep.drew)))).mono ?_
      rintro e w4 ⟨rfl, nd4, rfl⟩
      go_wp2_with fail
      refine (HAW.out _).mono ?_
      rintro e w5 ⟨rfl, hk⟩
      have HK := Lib.hid hk
      clear hk
      go_wp2_with fail
      go_ret
      exact ⟨rfl, Keep.then (by repeat (first | with_reducible (exact K3.out) | with_reducible (exact Keep.same _ _) | with_reducible (apply Keep.drewN) | with_reducible (apply Keep.drew))) HK.out⟩
  · have hd : decide (tot TS ≤ 500) = false := decide_eq_false ht
    rw [hd] at HS
    clear hd ht
    go_enter Try.func13, Try.ntmps13
    go_wp2_with fail
    refine (HS.out _ (by repeat (first | with_reducible (exact Keep.same _ _) | with_reducible (apply Keep.drewN) | with_reducible (apply Keep.drew)))).mono ?_
    rintro e w1 ⟨rfl, nd, rfl⟩
    go_wp2_with fail
    refine (HAW.out _).mono ?_
    rintro e w2 ⟨rfl, hk⟩
    have HK := Lib.hid hk
    clear hk
    go_wp2_with fail
    go_ret
    exact ⟨rfl, Keep.then (by repeat (first | with_reducible (exact Keep.same _ _) | with_reducible (apply Keep.drewN) | with_reducible (apply Keep.drew))) HK.out⟩
theorem sruns_law : R.Law 13 Try.f13 (fun H ds => Rows.uptoSmall H ds) := by
  intro H enc W base args ds p hval hA hsz hk hlt
  rw [Try.params13] at hA hval
  obtain ⟨v0, vs0, d0, ds0, p0, q0, hargs, rfl, rfl, h0, r0⟩ := trodAll_cons hA
  obtain ⟨v1, vs1, d1, ds1, p1, q1, rfl, rfl, rfl, h1, r1⟩ := trodAll_cons r0
  obtain ⟨rfl, rfl, rfl⟩ := trodAll_nil r1
  obtain rfl : args = #[v0, v1] := by cases args; simp_all
  have hbulk := R.upto_all hk
  simp only [Rows.uptoBulkAll] at hbulk
  obtain ⟨A, TS, cap, rfl, hS, hl⟩ := open_tasks (hval 0 89 v0 rfl rfl) h0 (fun x hx => hlt x (List.mem_append_left _ hx)) (R.light_of (j := 0) hsz rfl rfl) (by omega)
  obtain ⟨Ap, len, cp, l, rfl, hs⟩ := open_picks (hval 1 26 v1 rfl rfl) h1 (fun x hx => hlt x (List.mem_append_right _ (List.mem_append_left _ hx)))
  exact (runs13 W A Ap cap len cp TS l hS hl hs).mono fun e w' h => ⟨h.1, h.2.below (Nat.le_refl _) (fun _ h => h.elim)⟩
end Go.Proofs.Ytmohpjkbhpgidaa.A
