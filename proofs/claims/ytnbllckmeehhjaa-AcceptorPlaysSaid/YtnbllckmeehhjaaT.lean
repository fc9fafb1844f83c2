/-
  The acceptor's state, in plain Lean: records put to it, what is promised and accepted.
-/
import Derived.Test.YtnbllckmeehhjaaE
import Derived.Test.YtnbllckmeehhjaaS
namespace Go.Proofs.Ytnbllckmeehhjaa.A
open Go.RowKit Go.Proofs.Ytnbllckmeehhjaa.U
set_option linter.unusedVariables false
set_option linter.unusedSimpArgs false

/-- Slots that rise. -/
def Rise (L : List Ent) : Prop := L.Pairwise fun x y => x.a < y.a
def putE : List Ent → Ent → List Ent
  | [], x => [x]
  | y :: l, x => if y.a < x.a then y :: putE l x else if y.a = x.a then x :: l else x :: y :: l
theorem mem_putE {x z : Ent} : ∀ {L : List Ent}, z ∈ putE L x → z = x ∨ z ∈ L
  | [], h => by simp [putE] at h; exact .inl h
  | y :: l, h => by
    unfold putE at h
    split at h
    · rcases List.mem_cons.1 h with h | h
      · exact .inr (h ▸ List.mem_cons_self ..)
      · exact (mem_putE h).imp id (List.mem_cons_of_mem _)
    · split at h
      · rcases List.mem_cons.1 h with h | h
        · exact .inl h
        · exact .inr (List.mem_cons_of_mem _ h)
      · rcases List.mem_cons.1 h with h | h
        · exact .inl h
        · exact .inr h
theorem mem_putE_self (x : Ent) : ∀ L : List Ent, x ∈ putE L x
  | [] => by simp [putE]
  | y :: l => by
    unfold putE
    split
    · exact List.mem_cons_of_mem _ (mem_putE_self x l)
    · split <;> simp
theorem rise_put (x : Ent) : ∀ {L : List Ent}, Rise L → Rise (putE L x)
  | [], _ => by simp [putE, Rise]
  | y :: l, h => by
    have h' := h
    unfold Rise at h
    rw [List.pairwise_cons] at h
    unfold putE
    split
    · rename_i hy
      unfold Rise
      rw [List.pairwise_cons]
      exact ⟨fun z hz => by
        rcases mem_putE hz with rfl | hz
        · exact hy
        · exact h.1 z hz, rise_put x h.2⟩
    · rename_i hy
      split
      · rename_i he
        unfold Rise
        rw [List.pairwise_cons]
        exact ⟨fun z hz => by have := h.1 z hz; omega, h.2⟩
      · rename_i he
        unfold Rise
        rw [List.pairwise_cons]
        exact ⟨fun z hz => by
          rcases List.mem_cons.1 hz with rfl | hz
          · omega
          · have := h.1 z hz; omega, h'⟩
theorem putE_len (x : Ent) : ∀ L : List Ent, (putE L x).length ≤ L.length + 1
  | [] => by simp [putE]
  | y :: l => by
    unfold putE
    split
    · have := putE_len x l; simp only [List.length_cons]; omega
    · split <;> simp
/-- Where a search ends: that is the place. -/
theorem put_new {x : Ent} : ∀ (L : List Ent) (k : Nat), (∀ (j : Nat) (y : Ent), j < k → L[j]? = some y → y.a < x.a) → (k = L.length ∨ ∃ y, L[k]? = some y ∧ x.a < y.a) → L.take k ++ [x] ++ L.drop k = putE L x
  | [], k, _, h => by
    rcases h with h | ⟨y, h, _⟩
    · subst h; simp [putE]
    · simp at h
  | z :: l, 0, _, h => by
    rcases h with h | ⟨y, h, hy⟩
    · simp at h
    · simp at h
      subst h
      have h1 : ¬ z.a < x.a := by omega
      have h2 : ¬ z.a = x.a := by omega
      simp [putE, h1, h2]
  | z :: l, k + 1, hlt, h => by
    have hz : z.a < x.a := hlt 0 z (by omega) rfl
    have := put_new l k (fun j y hj e => hlt (j + 1) y (by omega) (by simpa using e)) (by simpa using h)
    simp only [putE, hz, if_true, List.take_succ_cons, List.drop_succ_cons, List.cons_append]
    rw [← this]
theorem put_old {x : Ent} : ∀ (L : List Ent) (k : Nat), (∀ (j : Nat) (y : Ent), j < k → L[j]? = some y → y.a < x.a) → (∃ y, L[k]? = some y ∧ y.a = x.a) → L.take k ++ [x] ++ L.drop (k + 1) = putE L x
  | [], k, _, h => by
    obtain ⟨y, h, _⟩ := h
    simp at h
  | z :: l, 0, _, h => by
    obtain ⟨y, h, hy⟩ := h
    simp at h
    subst h
    have h1 : ¬ z.a < x.a := by omega
    simp [putE, h1, hy]
  | z :: l, k + 1, hlt, h => by
    have hz : z.a < x.a := hlt 0 z (by omega) rfl
    have := put_old l k (fun j y hj e => hlt (j + 1) y (by omega) (by simpa using e)) (by simpa using h)
    simp only [putE, hz, if_true, List.take_succ_cons, List.drop_succ_cons, List.cons_append]
    rw [← this]
theorem set_put {x : Ent} {L : List Ent} {k : Nat} (hlt : ∀ (j : Nat) (y : Ent), j < k → L[j]? = some y → y.a < x.a) (h : ∃ y, L[k]? = some y ∧ y.a = x.a) : L.set k x = putE L x := by
  have hk : k < L.length := by obtain ⟨y, h, _⟩ := h; exact (List.getElem?_eq_some_iff.1 h).1
  rw [← put_old L k hlt h, List.set_eq_take_append_cons_drop, if_pos hk]
  simp
/-! ### The state -/
structure DS where
  pr : Int
  ba : Int
  sn : ByteArray
  es : List Ent
structure Rc where
  k : Int
  n : Int
  e : Ent
def mx (a b : Int) : Int := if a < b then b else a
theorem mx_le (a b : Int) : a ≤ mx a b ∧ b ≤ mx a b := by unfold mx; split <;> omega
def foldR (D : DS) (r : Rc) : DS :=
  if r.k = 1 then ⟨mx D.pr r.n, D.ba, D.sn, D.es⟩ else if r.k = 2 then ⟨mx D.pr r.e.b, D.ba, D.sn, if r.e.a ≤ D.ba then D.es else putE D.es r.e⟩ else D
def foldL (D : DS) (l : List Rc) : DS := l.foldl foldR D
theorem foldL_app (D : DS) (l m : List Rc) : foldL D (l ++ m) = foldL (foldL D l) m := List.foldl_append
theorem foldR_rise {D : DS} (h : Rise D.es) (r : Rc) : Rise (foldR D r).es := by
  unfold foldR
  split
  · exact h
  · split
    · show Rise (if r.e.a ≤ D.ba then D.es else putE D.es r.e)
      split
      · exact h
      · exact rise_put _ h
    · exact h
theorem foldR_len (D : DS) (r : Rc) : (foldR D r).es.length ≤ D.es.length + 1 := by
  unfold foldR
  split
  · exact Nat.le_succ _
  · split
    · show (if r.e.a ≤ D.ba then D.es else putE D.es r.e).length ≤ _
      split
      · exact Nat.le_succ _
      · exact putE_len _ _
    · exact Nat.le_succ _
def isSlot (s : Int) (x : Ent) : Bool := x.a == s
def findV (L : List Ent) (s : Int) : Option Ent := L.find? (isSlot s)
def entOr (o : Option Ent) : Ent := o.getD zeroE
def from_ (L : List Ent) (s : Int) : List Ent := L.filter fun x => decide (s ≤ x.a)
def above (L : List Ent) (s : Int) : List Ent := L.filter fun x => decide (s < x.a)
def recP (D : DS) (b : Int) : List Rc := if D.pr < b then [⟨1, b, zeroE⟩] else []
/-- Is a ballot refused? -/
def low (D : DS) (b : Int) : Bool := decide (b < 1) || decide (b < D.pr)
def prep (D : DS) (b : Int) : DS × Bool × List Rc := if low D b then (D, false, []) else (⟨b, D.ba, D.sn, D.es⟩, true, recP D b)
def setB (x : Ent) (b : Int) : Ent := ⟨x.a, b, x.c⟩
/-- Is an entry new to it? -/
def fresh (D : DS) (x : Ent) : Bool := decide (D.ba < x.a) && !((findV D.es x.a).isSome && eqE (entOr (findV D.es x.a)) x)
def accp (D : DS) (b : Int) (e : Ent) : DS × Bool × List Rc :=
  if low D b || decide (e.a < 1) then (D, false, []) else if fresh ⟨b, D.ba, D.sn, D.es⟩ (setB e b) then (⟨b, D.ba, D.sn, putE D.es (setB e b)⟩, true, recP D b ++ [⟨2, 0, setB e b⟩]) else (⟨b, D.ba, D.sn, D.es⟩, true, recP D b)
def cut (D : DS) (b : Int) (s : ByteArray) : DS := if b ≤ D.ba then D else ⟨D.pr, b, s, above D.es b⟩
/-- In a row that rises, those from a slot on lie at the end. -/
theorem from_at {L : List Ent} (h : Rise L) {s : Int} {k : Nat} (h1 : ∀ (j : Nat) (y : Ent), j < k → L[j]? = some y → y.a < s) (h2 : k = L.length ∨ ∃ y, L[k]? = some y ∧ s ≤ y.a) : L.drop k = from_ L s := by
  induction L generalizing k with
  | nil => simp [from_]
  | cons z l ih =>
    unfold Rise at h
    rw [List.pairwise_cons] at h
    cases k with
    | zero =>
      rcases h2 with h2 | ⟨y, hy, hs⟩
      · simp at h2
      · simp at hy
        subst hy
        rw [List.drop_zero]
        unfold from_
        symm
        rw [List.filter_eq_self]
        intro x hx
        rcases List.mem_cons.1 hx with rfl | hx
        · simpa using hs
        · have := h.1 x hx; simp; omega
    | succ k =>
      have hz := h1 0 z (by omega) rfl
      have := ih h.2 (k := k) (fun j y hj e => h1 (j + 1) y (by omega) (by simpa using e)) (by simpa using h2)
      rw [List.drop_succ_cons, this]
      unfold from_
      rw [List.filter_cons, if_neg (by simp; omega)]
theorem from_none {L : List Ent} {s : Int} (h : ∀ (j : Nat) (y : Ent), L[j]? = some y → y.a < s) : from_ L s = [] := by
  unfold from_
  rw [List.filter_eq_nil_iff]
  intro x hx
  obtain ⟨i, hi, e⟩ := List.mem_iff_getElem.1 hx
  have := h i x (by rw [List.getElem?_eq_getElem hi, e])
  simp; omega
theorem rise_filter {L : List Ent} (h : Rise L) (p : Ent → Bool) : Rise (L.filter p) := List.Pairwise.filter p h
theorem findV_none {L : List Ent} {s : Int} (h : ∀ (j : Nat) (x : Ent), L[j]? = some x → isSlot s x = false) : findV L s = none := by
  unfold findV
  rw [List.find?_eq_none]
  intro x hx
  obtain ⟨i, hi, e⟩ := List.mem_iff_getElem.1 hx
  rw [h i x (by rw [List.getElem?_eq_getElem hi, e])]
  simp
theorem findV_some {L : List Ent} {s : Int} {k : Nat} {x : Ent} (hk : L[k]? = some x) (hx : isSlot s x = true) (h : ∀ (j : Nat) (y : Ent), j < k → L[j]? = some y → isSlot s y = false) : findV L s = some x := by
  unfold findV
  rw [List.find?_eq_some_iff_getElem]
  obtain ⟨hl, e⟩ := List.getElem?_eq_some_iff.1 hk
  exact ⟨hx, k, hl, e, fun j hj => by rw [h j _ hj (List.getElem?_eq_getElem (by omega))]; rfl⟩
/-! ### The records that it gave -/
theorem prep_fold {D : DS} {b : Int} : foldL D (prep D b).2.2 = (prep D b).1 := by
  unfold prep low
  split
  · rfl
  · rename_i h
    simp only [Bool.or_eq_true, decide_eq_true_eq, not_or] at h
    unfold recP
    split
    · rename_i h2
      simp [foldL, foldR, mx, h2]
    · have : D.pr = b := by omega
      subst this
      rfl
theorem accp_fold {D : DS} {b : Int} {e : Ent} : foldL D (accp D b e).2.2 = (accp D b e).1 := by
  unfold accp
  split
  · rfl
  · rename_i h
    simp only [low, Bool.or_eq_true, decide_eq_true_eq, not_or] at h
    have hp : foldL D (recP D b) = ⟨b, D.ba, D.sn, D.es⟩ := by
      unfold recP
      split
      · rename_i h2
        simp [foldL, foldR, mx, h2]
      · have : D.pr = b := by omega
        subst this
        rfl
    split
    · rename_i h2
      rw [foldL_app, hp]
      unfold fresh at h2
      simp only [Bool.and_eq_true, decide_eq_true_eq] at h2
      have h3 : ¬ (setB e b).a ≤ D.ba := by have := h2.1; omega
      simp [foldL, foldR, mx, setB, h3] at h3 ⊢
      intro h4
      omega
    · exact hp
/-! ### What rises -/
theorem find_put (x : Ent) (s : Int) : ∀ L : List Ent, findV (putE L x) s = if s = x.a then some x else findV L s
  | [] => by
    unfold putE findV isSlot
    by_cases h : s = x.a
    · subst h; simp
    · rw [if_neg h]
      simp
      omega
  | y :: l => by
    have ih := find_put x s l
    unfold putE
    by_cases h1 : y.a < x.a
    · rw [if_pos h1]
      unfold findV isSlot at ih ⊢
      rw [List.find?_cons, List.find?_cons, ih]
      by_cases h2 : y.a = s
      · have : ¬ s = x.a := by omega
        simp [h2, this]
      · have : (y.a == s) = false := by rw [beq_eq_false_iff_ne]; exact h2
        simp [this]
    · rw [if_neg h1]
      by_cases h3 : y.a = x.a
      · rw [if_pos h3]
        unfold findV isSlot
        rw [List.find?_cons, List.find?_cons]
        by_cases h2 : s = x.a
        · subst h2; simp
        · have a1 : (x.a == s) = false := by rw [beq_eq_false_iff_ne]; omega
          have a2 : (y.a == s) = false := by rw [beq_eq_false_iff_ne]; omega
          simp [a1, a2, h2]
      · rw [if_neg h3]
        unfold findV isSlot
        rw [List.find?_cons]
        by_cases h2 : s = x.a
        · subst h2; simp
        · have a1 : (x.a == s) = false := by rw [beq_eq_false_iff_ne]; omega
          simp [a1, h2]
theorem find_self {L : List Ent} (h : Rise L) {y : Ent} (hy : y ∈ L) : findV L y.a = some y := by
  induction L with
  | nil => cases hy
  | cons z l ih =>
    unfold Rise at h
    rw [List.pairwise_cons] at h
    unfold findV isSlot
    rw [List.find?_cons]
    rcases List.mem_cons.1 hy with rfl | hy
    · simp
    · have : (z.a == y.a) = false := by rw [beq_eq_false_iff_ne]; have := h.1 y hy; omega
      rw [this]
      exact ih h.2 hy
/-- What holds of an acceptor that began with nothing. -/
def Sound (D : DS) : Prop := Rise D.es ∧ D.ba = 0 ∧ 0 ≤ D.pr ∧ ∀ x ∈ D.es, 1 ≤ x.a ∧ x.b ≤ D.pr
theorem sound_zero : Sound ⟨0, 0, ByteArray.empty, []⟩ := ⟨List.Pairwise.nil, rfl, Int.le_refl _, fun x hx => by cases hx⟩
theorem sound_from {D : DS} (h : Sound D) : from_ D.es 0 = D.es := by
  unfold from_
  rw [List.filter_eq_self]
  intro x hx
  have := (h.2.2.2 x hx).1
  simp; omega
/-- What the law asks of a slot's entry, before and behind. -/
def Rose (D D' : DS) (b : Int) (y : Ent) : Prop := ∃ x, findV D'.es y.a = some x ∧ y.b ≤ x.b ∧ (x.b = y.b → x ≠ y → b = x.b) ∧ x.b ≤ D'.pr
theorem prep_sound {D : DS} (h : Sound D) (b : Int) : Sound (prep D b).1 ∧ D.pr ≤ (prep D b).1.pr ∧ ∀ y ∈ D.es, Rose D (prep D b).1 b y := by
  obtain ⟨h1, h2, h3, h4⟩ := h
  unfold prep
  split
  · exact ⟨⟨h1, h2, h3, h4⟩, Int.le_refl _, fun y hy => ⟨y, find_self h1 hy, Int.le_refl _, fun _ e => absurd rfl e, (h4 y hy).2⟩⟩
  · rename_i hl
    simp only [low, Bool.or_eq_true, decide_eq_true_eq, not_or] at hl
    refine ⟨⟨h1, h2, by show 0 ≤ b; omega, fun x hx => ⟨(h4 x hx).1, by have := (h4 x hx).2; show x.b ≤ b; omega⟩⟩, by show D.pr ≤ b; omega, fun y hy => ⟨y, find_self h1 hy, Int.le_refl _, fun _ e => absurd rfl e, ?_⟩⟩
    have := (h4 y hy).2
    show y.b ≤ b
    omega
theorem accp_sound {D : DS} (h : Sound D) (b : Int) (e : Ent) : Sound (accp D b e).1 ∧ D.pr ≤ (accp D b e).1.pr ∧ ∀ y ∈ D.es, Rose D (accp D b e).1 b y := by
  obtain ⟨h1, h2, h3, h4⟩ := h
  unfold accp
  split
  · exact ⟨⟨h1, h2, h3, h4⟩, Int.le_refl _, fun y hy => ⟨y, find_self h1 hy, Int.le_refl _, fun _ e => absurd rfl e, (h4 y hy).2⟩⟩
  · rename_i hl
    simp only [low, Bool.or_eq_true, decide_eq_true_eq, not_or] at hl
    split
    · refine ⟨⟨rise_put _ h1, h2, by show 0 ≤ b; omega, fun x hx => ?_⟩, by show D.pr ≤ b; omega, fun y hy => ?_⟩
      · rcases mem_putE hx with rfl | hx
        · exact ⟨by show 1 ≤ e.a; omega, Int.le_refl _⟩
        · exact ⟨(h4 x hx).1, by have := (h4 x hx).2; show x.b ≤ b; omega⟩
      · have hyb := (h4 y hy).2
        unfold Rose
        show ∃ x, findV (putE D.es (setB e b)) y.a = some x ∧ y.b ≤ x.b ∧ (x.b = y.b → x ≠ y → b = x.b) ∧ x.b ≤ b
        rw [find_put]
        by_cases hs : y.a = (setB e b).a
        · rw [if_pos hs]
          exact ⟨_, rfl, by show y.b ≤ b; omega, fun _ _ => rfl, Int.le_refl _⟩
        · rw [if_neg hs]
          exact ⟨y, find_self h1 hy, Int.le_refl _, fun _ e => absurd rfl e, by omega⟩
    · refine ⟨⟨h1, h2, by show 0 ≤ b; omega, fun x hx => ⟨(h4 x hx).1, by have := (h4 x hx).2; show x.b ≤ b; omega⟩⟩, by show D.pr ≤ b; omega, fun y hy => ⟨y, find_self h1 hy, Int.le_refl _, fun _ e => absurd rfl e, ?_⟩⟩
      have := (h4 y hy).2
      show y.b ≤ b
      omega
end Go.Proofs.Ytnbllckmeehhjaa.A
