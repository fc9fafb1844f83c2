/-
  The scheduler: what a run makes, in plain Lean; Ready, Ended and Step by it; what stays good.
-/
import Derived.Test.YtmohpjkbhpgidaaYJ
namespace Go.Proofs.Ytmohpjkbhpgidaa.A
open Go.RowKit Go.Proofs.Ytmohpjkbhpgidaa.U
set_option linter.unusedVariables false
set_option linter.unusedSimpArgs false

/-- An event: the task, where it was, the error. -/
structure Ev where
  task : Int
  at_ : Nat
  er : Int
abbrev Ev.cl (e : Ev) : List Value := [.int .i64 e.task, .int .i64 e.at_, .int .i64 e.er]
def evsV (L : List Ev) : List Value := L.flatMap Ev.cl
theorem EV : Elem Try.prog 91 103 3 24 (.agg #[.int .i64 0, .int .i64 0, .int .i64 0]) := ⟨Try.underlying91, by kernel_rfl, by rfl, by decide⟩
theorem evsV_app (L : List Ev) (e : Ev) : evsV (L ++ [e]) = evsV L ++ e.cl := by unfold evsV; rw [List.flatMap_append]; rfl
theorem evsV_len (L : List Ev) : (evsV L).length = L.length * 3 := by
  induction L with
  | nil => rfl
  | cons x L ih => show (x.cl ++ evsV L).length = _; rw [List.length_append, ih]; simp; omega
theorem evsV_get {L : List Ev} {k : Nat} {x : Ev} (h : L[k]? = some x) (j : Nat) (hj : j < 3) : (evsV L)[k * 3 + j]? = x.cl[j]? := by
  induction L generalizing k with
  | nil => simp at h
  | cons y L ih =>
    show (y.cl ++ evsV L)[k * 3 + j]? = _
    cases k with
    | zero =>
      simp at h; subst h
      rw [List.getElem?_append_left (by simp; omega)]
      simp
    | succ k =>
      rw [List.getElem?_append_right (by simp; omega)]
      simp at h
      rw [← ih h]
      congr 1
      simp; omega
/-- Which of the tasks that may go on is taken. -/
def pickI (picks : List Int) (n len : Nat) : Int := match picks[n]? with | some p => (p.tmod len + len).tmod len | none => 0
theorem pickI_lt (picks : List Int) (n len : Nat) (h : 0 < len) : 0 ≤ pickI picks n len ∧ pickI picks n len < len := by
  unfold pickI
  cases picks[n]? with
  | none => exact ⟨by simp, by simpa using h⟩
  | some p =>
    have h1 : -(len : Int) < p.tmod len := by have := Int.lt_tmod_of_pos p (show (0 : Int) < len by omega); omega
    have h2 := Int.tmod_nonneg (len : Int) (show 0 ≤ p.tmod len + len by omega)
    have h3 := Int.tmod_lt_of_pos (p.tmod len + len) (show (0 : Int) < len by omega)
    exact ⟨h2, h3⟩
/-- One round: none when no task may go on. -/
def roundX (picks : List Int) (n : Nat) (S : PS) : Option (Ev × PS) :=
  let L := pickT Tk.ready S.T S.T.length
  if L.isEmpty then none
  else
    let i := (L.getD (pickI picks n L.length).toNat 0).toNat
    match S.T[i]? with
    | none => none
    | some t => match t.ops[t.at_]? with
      | none => none
      | some x => some (⟨i, t.at_, (stepX S i t x).1⟩, (stepX S i t x).2)
def runX (picks : List Int) : Nat → Nat → PS → List Ev → List Ev × PS
  | 0, _, S, l => (l, S)
  | f + 1, n, S, l => match roundX picks n S with
    | none => (l, S)
    | some (e, S') => runX picks f (n + 1) S' (l ++ [e])
theorem pickT_mem (p : Tk → Bool) (T : List Tk) : ∀ (k : Nat) (y : Int), y ∈ pickT p T k → ∃ (i : Nat) (t : Tk), y = i ∧ i < k ∧ T[i]? = some t ∧ p t = true
  | 0, y, h => by cases h
  | k + 1, y, h => by
    unfold pickT at h
    rcases List.mem_append.1 h with h | h
    · obtain ⟨i, t, e, hi, r⟩ := pickT_mem p T k y h
      exact ⟨i, t, e, by omega, r⟩
    · cases hk : T[k]? with
      | none => rw [hk] at h; cases h
      | some t =>
        rw [hk] at h
        dsimp only at h
        by_cases hp : p t = true
        · rw [if_pos hp] at h
          exact ⟨k, t, List.mem_singleton.1 h, by omega, hk, hp⟩
        · rw [if_neg hp] at h; cases h
theorem pickT_len (p : Tk → Bool) (T : List Tk) : ∀ k, (pickT p T k).length ≤ k
  | 0 => by simp [pickT]
  | k + 1 => by
    have := pickT_len p T k
    unfold pickT
    rw [List.length_append]
    cases T[k]? with
    | none => show _ + 0 ≤ _; omega
    | some t =>
      show _ + (if p t then [(k : Int)] else []).length ≤ _
      cases p t <;> simp <;> omega
/-- What a round takes. -/
theorem round_some {picks : List Int} {n : Nat} {S : PS} {p : Int} (hp : p = pickI picks n (pickT Tk.ready S.T S.T.length).length) (hne : 0 < (pickT Tk.ready S.T S.T.length).length) :
    ∃ (i : Nat) (t : Tk) (x : Op3), 0 ≤ p ∧ p.toNat < (pickT Tk.ready S.T S.T.length).length ∧ (pickT Tk.ready S.T S.T.length)[p.toNat]? = some (i : Int) ∧ S.T[i]? = some t ∧ t.ready = true ∧ t.ops[t.at_]? = some x ∧
      roundX picks n S = some (⟨i, t.at_, (stepX S i t x).1⟩, (stepX S i t x).2) := by
  obtain ⟨p0, p1⟩ := pickI_lt picks n _ hne
  rw [← hp] at p0 p1
  have hlt : p.toNat < (pickT Tk.ready S.T S.T.length).length := by omega
  have hg := List.getElem?_eq_getElem hlt
  obtain ⟨i, t, e, hi, ht, hr⟩ := pickT_mem _ _ _ _ (List.mem_of_getElem? hg)
  have hr' := hr
  unfold Tk.ready at hr'
  simp only [Bool.and_eq_true, decide_eq_true_eq] at hr'
  have hx := List.getElem?_eq_getElem hr'.2
  refine ⟨i, t, _, p0, hlt, by rw [hg, e], ht, hr, hx, ?_⟩
  unfold roundX
  dsimp only
  rw [if_neg (by cases h : pickT Tk.ready S.T S.T.length with | nil => rw [h] at hne; simp at hne | cons a l => simp), ← hp, List.getD_eq_getElem?_getD, hg, e]
  simp only [Option.getD_some, Int.toNat_natCast]
  rw [ht]
  dsimp only
  rw [hx]
theorem round_none {picks : List Int} {n : Nat} {S : PS} (h : (pickT Tk.ready S.T S.T.length).length = 0) : roundX picks n S = none := by
  unfold roundX
  dsimp only
  rw [if_pos (by rw [List.eq_nil_of_length_eq_zero h]; rfl)]
/-- The scheduler in memory, by what it is in plain Lean. -/
def schE (b bm : Nat) (S : PS) : SP := fun w F => ∃ X O, Rel X O S ∧ schP b X bm O w F
theorem schE_stable {b bm : Nat} {S : PS} : Stable (schE b bm S) where
  keep := fun ⟨X, O, hr, h⟩ hk hn => ⟨X, O, hr, schP_stable.keep h hk hn⟩
  lt := fun ⟨X, O, hr, h⟩ hk => schP_stable.lt h hk
section
variable {B : Nat} {w0 w : World} {Q : SP} {b bm : Nat} {S : PS}
theorem schE_open (h : Holds B w0 w (star (schE b bm S) Q)) : ∃ X O, Rel X O S ∧ Holds B w0 w (star (schP b X bm O) Q) := by
  obtain ⟨F, ⟨F1, F2, ⟨X, O, hr, h1⟩, h2, h3, h4⟩, hq⟩ := h
  exact ⟨X, O, hr, F, ⟨F1, F2, h1, h2, h3, h4⟩, hq⟩
theorem schE_close {X : List (Nat × Tk)} {O : List Ob} (hr : Rel X O S) (h : Holds B w0 w (star (schP b X bm O) Q)) : Holds B w0 w (star (schE b bm S) Q) := by
  obtain ⟨F, ⟨F1, F2, h1, h2, h3, h4⟩, hq⟩ := h
  exact ⟨F, ⟨F1, F2, ⟨X, O, hr, h1⟩, h2, h3, h4⟩, hq⟩
theorem e_step (h : Holds B w0 w (star (schE b bm S) Q)) (hQ : Stable Q) {k : Nat} (hg : GoodS S k) (hk : k ≤ 500000) (i : Nat) (t : Tk) (ht : S.T[i]? = some t) (hrd : t.ready = true) (x : Op3) (hx : t.ops[t.at_]? = some x) :
    Calls Try.prog 62 #[.pointer (some ⟨b, 0, none⟩), .int .i64 i] w (StepOk B w0 i t.at_ (stepX S i t x).1 (star (schE b bm (stepX S i t x).2) Q)) := by
  obtain ⟨X, O, hr, h1⟩ := schE_open h
  refine (x_step h1 hQ hr hg hk i t ht hrd x hx).mono ?_
  rintro e w' ⟨X', O', he, hr', hh⟩
  exact ⟨he, schE_close hr' hh⟩
theorem e_tasks (h : Holds B w0 w (star (schE b bm S) Q)) (hg : S.T.length ≤ 1000000) : ∃ X A c, X.map (·.2) = S.T ∧ Tasks w b X A c (.map (some bm)) := by
  obtain ⟨X, O, hr, h1⟩ := schE_open h
  have hl : X.length = S.T.length := by rw [← hr.1, List.length_map]
  have h2 : Holds B w0 w (star (coreP b X bm) (star (star (mapP bm (obM O)) (obsP O)) Q)) := h1.perm (by unfold schP; ac_rfl)
  obtain ⟨A, c, hT⟩ := core_tasks h2 (by omega)
  exact ⟨X, A, c, hr.1, hT⟩
theorem e_ready (h : Holds B w0 w (star (schE b bm S) Q)) (hg : S.T.length ≤ 1000000) : Calls Try.prog 61 #[.pointer (some ⟨b, 0, none⟩)] w (PickPost (pickT Tk.ready S.T S.T.length) w) := by
  obtain ⟨X, A, c, hX, hT⟩ := e_tasks h hg
  have := ready61 w b X A c _ hT
  unfold readyL at this
  rw [pickL_T, hX, show X.length = S.T.length by rw [← hX, List.length_map]] at this
  exact this
theorem e_blocked (h : Holds B w0 w (star (schE b bm S) Q)) (hg : S.T.length ≤ 1000000) : Calls Try.prog 67 #[.pointer (some ⟨b, 0, none⟩)] w (PickPost (pickT Tk.blk S.T S.T.length) w) := by
  obtain ⟨X, A, c, hX, hT⟩ := e_tasks h hg
  have := blocked67 w b X A c _ hT
  unfold blkL at this
  rw [pickL_T, hX, show X.length = S.T.length by rw [← hX, List.length_map]] at this
  exact this
theorem e_ended (h : Holds B w0 w (star (schE b bm S) Q)) (hg : S.T.length ≤ 1000000) : Calls Try.prog 63 #[.pointer (some ⟨b, 0, none⟩)] w (fun e w' => e = .returned (.bool (pickT Tk.open_ S.T S.T.length).isEmpty) ∧ Keep Nothing w w') := by
  obtain ⟨X, A, c, hX, hT⟩ := e_tasks h hg
  have := ended63 w b X A c _ hT
  unfold openL at this
  rw [pickL_T, hX, show X.length = S.T.length by rw [← hX, List.length_map]] at this
  exact this
end
/-- What New makes. -/
def newS (TS : List (List Op3)) : PS := ⟨TS.map freshT, []⟩
theorem e_new (w : World) (A : Option Addr) (c : Nat) (TS : List (List Op3)) (h : ArgOps w A TS) (hl : TS.length ≤ 1000000) :
    Calls Try.prog 60 #[.slice A TS.length c] w (fun e w' => ∃ b bm, e = .returned (.pointer (some ⟨b, 0, none⟩)) ∧ Holds w.heap.size w w' (star (schE b bm (newS TS)) none_)) := by
  refine (new60 w A c TS h hl).mono ?_
  rintro e w' ⟨b, bm, X, rfl, hX, hh⟩
  refine ⟨b, bm, rfl, schE_close (X := X) (O := []) ⟨hX, rfl⟩ ?_⟩
  exact hh.perm (by
    show _ = star (star (coreP b X bm) (star (mapP bm []) none_)) none_
    have e1 : star none_ none_ = none_ := by
      funext w F
      apply propext
      constructor
      · rintro ⟨F1, F2, h1, h2, h3, h4⟩ k hk
        rcases (h4 k).1 hk with h | h
        · exact h1 k h
        · exact h2 k h
      · intro h
        exact ⟨F, F, h, h, fun k hk => absurd hk (h k), fun k => by simp⟩
    rw [star_assoc', star_assoc', e1])
end Go.Proofs.Ytmohpjkbhpgidaa.A
