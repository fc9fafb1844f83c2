/-
  SchedExclusive in plain Lean: no two are within at once.
-/
import Derived.Test.YtmohpjkbhpgidaaYO
namespace Go.Proofs.Ytmohpjkbhpgidaa.A
open Go.RowKit Go.Proofs.Ytmohpjkbhpgidaa.U
set_option linter.unusedVariables false
set_option linter.unusedSimpArgs false

/-- A task's operations: lock, k yields, unlock. -/
def exO (k : Nat) : List Op3 := ⟨1, 1, 0⟩ :: (List.replicate k ⟨9, 0, 0⟩ ++ [⟨2, 1, 0⟩])
theorem exO_len (k : Nat) : (exO k).length = k + 2 := by unfold exO; simp
theorem exO_0 (k : Nat) : (exO k)[0]? = some ⟨1, 1, 0⟩ := rfl
theorem exO_mid (k a : Nat) (h : 0 < a) (h' : a < k + 1) : (exO k)[a]? = some ⟨9, 0, 0⟩ := by
  obtain ⟨b, rfl⟩ : ∃ b, a = b + 1 := ⟨a - 1, by omega⟩
  unfold exO
  rw [List.getElem?_cons_succ, List.getElem?_append_left (by simp; omega), List.getElem?_replicate, if_pos (by omega)]
theorem exO_end (k : Nat) : (exO k)[k + 1]? = some ⟨2, 1, 0⟩ := by
  unfold exO
  rw [List.getElem?_cons_succ, List.getElem?_append_right (by simp), List.length_replicate, Nat.sub_self]
  rfl
/-- A task beside the one that holds it: ahead of the lock, in the queue, or behind all. -/
def ExT (t : Tk) (q : Prop) : Prop := (t.at_ = 0 ∧ t.blk = false ∧ ¬ q) ∨ (t.at_ = 1 ∧ t.blk = true ∧ q) ∨ (t.at_ = t.ops.length ∧ t.blk = false ∧ ¬ q)
def inQ (L : List Wt) (i : Nat) : Prop := ∃ y ∈ L, y.t = (i : Int)
/-- Nobody holds it. -/
def ExA (S : PS) : Prop := (S.M = [] ∨ ∃ who, S.M = [⟨1, .m false who []⟩]) ∧ ∀ (i : Nat) (t : Tk), S.T[i]? = some t → ExT t False
/-- Task r holds it. -/
def ExB (S : PS) (r : Nat) : Prop := ∃ (L : List Wt) (t : Tk), S.M = [⟨1, .m true r L⟩] ∧ S.T[r]? = some t ∧ t.blk = false ∧ 0 < t.at_ ∧ t.at_ < t.ops.length ∧ ¬ inQ L r ∧
  (∀ y ∈ L, 0 ≤ y.t ∧ y.t < S.T.length) ∧ (L.map Wt.t).Nodup ∧ ∀ (i : Nat) (t : Tk), i ≠ r → S.T[i]? = some t → ExT t (inQ L i)
/-- inn is who was seen within last, or -1. -/
def ExI (K : List Nat) (S : PS) (inn : Int) : Prop := S.T.map (·.ops) = K.map exO ∧ ((ExA S ∧ inn = -1) ∨ ∃ r, ExB S r ∧ (inn = -1 ∨ (inn = r ∧ ∀ t, S.T[r]? = some t → 1 < t.at_)))
theorem stepX_ops_of {K : List Nat} {S : PS} {i : Nat} {t : Tk} {x : Op3} (h : S.T.map (·.ops) = K.map exO) (ht : S.T[i]? = some t) : (stepX S i t x).2.T.map (·.ops) = K.map exO := by rw [stepX_ops ht, h]
theorem ex_ops {K : List Nat} {S : PS} {i : Nat} {t : Tk} (h : S.T.map (·.ops) = K.map exO) (ht : S.T[i]? = some t) : ∃ k, K[i]? = some k ∧ t.ops = exO k := by
  have h1 : (S.T.map (·.ops))[i]? = some t.ops := by rw [List.getElem?_map, ht]; rfl
  rw [h, List.getElem?_map] at h1
  cases hk : K[i]? with
  | none => rw [hk] at h1; cases h1
  | some k => rw [hk] at h1; injection h1 with h1; exact ⟨k, rfl, h1.symm⟩
theorem hasW_iff (L : List Wt) (i : Nat) : hasW L i = true ↔ inQ L i := by
  unfold hasW inQ
  rw [List.any_eq_true]
  constructor
  · rintro ⟨y, hy, h⟩; exact ⟨y, hy, by simpa using h⟩
  · rintro ⟨y, hy, h⟩; exact ⟨y, hy, by simpa using h⟩
theorem step_lock {S : PS} {i : Nat} {t : Tk} {h : Bool} {who : Int} {L : List Wt} (hM : findM S.M (109, 1) = [⟨1, .m h who L⟩]) :
    stepX S i t ⟨1, 1, 0⟩ = ((mLock h who L i).2.1, ⟨S.T.set i { t.next with blk := !(mLock h who L i).1 && (mLock h who L i).2.1 == 0 }, [⟨1, .m (mLock h who L i).2.2.1 (mLock h who L i).2.2.2.1 (mLock h who L i).2.2.2.2⟩]⟩) := by
  have h1 : stepX S i t ⟨1, 1, 0⟩ = (let M1 := findM S.M (109, 1); let m := M1.getD (idxM M1 (109, 1)) zPM; let d := doS m.st ⟨1, 1, 0⟩ i t.next; (d.er, ⟨wakeT (S.T.set i { d.tk with blk := d.wait && d.er == 0 }) d.wk, M1.set (idxM M1 (109, 1)) ⟨m.num, d.st⟩⟩)) := rfl
  rw [h1, hM]
  rfl
theorem step_unlock {S : PS} {i : Nat} {t : Tk} {h : Bool} {who : Int} {L : List Wt} (hM : findM S.M (109, 1) = [⟨1, .m h who L⟩]) :
    stepX S i t ⟨2, 1, 0⟩ = ((mUnlock h who L i).2.1, ⟨wakeT (S.T.set i { t.next with blk := false && (mUnlock h who L i).2.1 == 0 }) (wakeL (mUnlock h who L i).1 (mUnlock h who L i).2.1), [⟨1, .m (mUnlock h who L i).2.2.1 (mUnlock h who L i).2.2.2.1 (mUnlock h who L i).2.2.2.2⟩]⟩) := by
  have h1 : stepX S i t ⟨2, 1, 0⟩ = (let M1 := findM S.M (109, 1); let m := M1.getD (idxM M1 (109, 1)) zPM; let d := doS m.st ⟨2, 1, 0⟩ i t.next; (d.er, ⟨wakeT (S.T.set i { d.tk with blk := d.wait && d.er == 0 }) d.wk, M1.set (idxM M1 (109, 1)) ⟨m.num, d.st⟩⟩)) := rfl
  rw [h1, hM]
  rfl
/-- What inn is behind an event. -/
def innX (inn : Int) (i a len : Nat) : Int := if 0 < a ∧ a < len - 1 then i else if 0 < a ∧ inn = i then -1 else inn
theorem ex_step (K : List Nat) (S : PS) (inn : Int) (h : ExI K S inn) (i : Nat) (t : Tk) (x : Op3) (ht : S.T[i]? = some t) (hr : t.ready = true) (hx : t.ops[t.at_]? = some x) :
    (stepX S i t x).1 = 0 ∧ (0 < t.at_ → t.at_ < t.ops.length - 1 → inn < 0 ∨ inn = i) ∧ ExI K (stepX S i t x).2 (innX inn i t.at_ t.ops.length) := by
  obtain ⟨hops, hc⟩ := h
  obtain ⟨hb, hat⟩ := ready_lt hr
  obtain ⟨k, hk, hto⟩ := ex_ops hops ht
  have hil := (List.getElem?_eq_some_iff.1 ht).1
  have hlen : t.ops.length = k + 2 := by rw [hto, exO_len]
  have hops' := stepX_ops_of (x := x) hops ht
  rcases hc with ⟨⟨hM, hA⟩, hinn⟩ | ⟨r, ⟨L, tr, hM, htr, hbr, ha0, ha1, hnr, hL, hnd, hoth⟩, hinn⟩
  · -- nobody holds it: this one locks
    have a0 : t.at_ = 0 := by
      rcases hA i t ht with ⟨a, _⟩ | ⟨_, b, _⟩ | ⟨a, _⟩
      · exact a
      · rw [b] at hb; cases hb
      · omega
    rw [a0, hto, exO_0] at hx
    obtain rfl : x = ⟨1, 1, 0⟩ := by injection hx with e; exact e.symm
    obtain ⟨who, hF⟩ : ∃ who, findM S.M (109, 1) = [⟨1, .m false who []⟩] := by
      rcases hM with hM | ⟨who, hM⟩
      · exact ⟨0, by rw [hM]; rfl⟩
      · exact ⟨who, by rw [hM]; rfl⟩
    have hst := step_lock (i := i) (t := t) hF
    have e1 : mLock false who [] (i : Int) = (true, 0, true, (i : Int), []) := by
      unfold mLock
      rw [if_neg (by omega)]
      simp [hasW]
    rw [e1] at hst
    refine ⟨by rw [hst], fun h => by omega, hops', ?_⟩
    rw [hst]
    refine .inr ⟨i, ⟨[], { t.next with blk := false }, rfl, ?_, rfl, ?_, ?_, ?_, fun y hy => (by cases hy), by simp, ?_⟩, ?_⟩
    · show (S.T.set i _)[i]? = _
      rw [List.getElem?_set, if_pos rfl, if_pos hil]; rfl
    · show 0 < t.at_ + 1; omega
    · show t.at_ + 1 < t.ops.length; omega
    · rintro ⟨y, hy, _⟩; cases hy
    · intro j u hj hu
      rcases set_cases hu with ⟨e, _⟩ | ⟨_, hu'⟩
      · exact absurd e hj
      · rcases hA j u hu' with ⟨q1, q2, _⟩ | ⟨_, _, q⟩ | ⟨q1, q2, _⟩
        · exact .inl ⟨q1, q2, by rintro ⟨y, hy, _⟩; cases hy⟩
        · cases q
        · exact .inr (.inr ⟨q1, q2, by rintro ⟨y, hy, _⟩; cases hy⟩)
    · left
      unfold innX
      rw [if_neg (by omega), if_neg (by omega)]
      exact hinn
  · have hF : findM S.M (109, 1) = [⟨1, .m true r L⟩] := by rw [hM]; rfl
    by_cases hir : i = r
    · subst hir
      rw [ht] at htr
      injection htr with htr
      subst htr
      rcases (show t.at_ < k + 1 ∨ t.at_ = k + 1 by omega) with hm | hm
      · -- within
        rw [hto, exO_mid k _ ha0 hm] at hx
        obtain rfl : x = ⟨9, 0, 0⟩ := by injection hx with e; exact e.symm
        have hst : stepX S i t ⟨9, 0, 0⟩ = (0, ⟨S.T.set i t.next, S.M⟩) := rfl
        refine ⟨by rw [hst], fun _ _ => by rcases hinn with h | ⟨h, _⟩ <;> omega, hops', ?_⟩
        rw [hst]
        refine .inr ⟨i, ⟨L, t.next, hM, ?_, hb, ?_, ?_, hnr, ?_, hnd, ?_⟩, .inr ⟨?_, ?_⟩⟩
        · show (S.T.set i _)[i]? = _
          rw [List.getElem?_set, if_pos rfl, if_pos hil]
        · show 0 < t.at_ + 1; omega
        · show t.at_ + 1 < t.ops.length; omega
        · show ∀ y ∈ L, 0 ≤ y.t ∧ y.t < (S.T.set i t.next).length
          rw [List.length_set]; exact hL
        · intro j u hj hu
          rcases set_cases hu with ⟨e, _⟩ | ⟨_, hu'⟩
          · exact absurd e hj
          · exact hoth j u hj hu'
        · unfold innX
          rw [if_pos ⟨ha0, by omega⟩]
        · intro u hu
          rcases set_cases hu with ⟨_, e⟩ | ⟨e, _⟩
          · subst e; show 1 < t.at_ + 1; omega
          · exact absurd rfl e
      · -- it unlocks
        rw [hm, hto, exO_end] at hx
        obtain rfl : x = ⟨2, 1, 0⟩ := by injection hx with e; exact e.symm
        have hst := step_unlock (i := i) (t := t) hF
        have hin : innX inn i t.at_ t.ops.length = -1 := by
          unfold innX
          rw [if_neg (by omega)]
          rcases hinn with h | ⟨h, _⟩
          · rw [if_neg (by omega)]; exact h
          · rw [if_pos ⟨by omega, h⟩]
        rw [hin]
        have hself : ∀ j u, (S.T.set i { t.next with blk := false })[j]? = some u → (j = i ∧ u.at_ = u.ops.length ∧ u.blk = false) ∨ (j ≠ i ∧ S.T[j]? = some u) := fun j u hu => by
          rcases set_cases hu with ⟨e, e2⟩ | ⟨e, hu'⟩
          · subst e2
            exact .inl ⟨e, by show t.at_ + 1 = t.ops.length; omega, rfl⟩
          · exact .inr ⟨e, hu'⟩
        cases L with
        | nil =>
          have e1 : mUnlock true (i : Int) [] (i : Int) = (-1, 0, false, (i : Int), []) ∨ ∃ who, mUnlock true (i : Int) [] (i : Int) = (-1, 0, false, who, []) := by
            right
            unfold mUnlock
            rw [if_neg (by simp)]
            exact ⟨_, rfl⟩
          obtain ⟨who, e1⟩ : ∃ who, mUnlock true (i : Int) [] (i : Int) = (-1, 0, false, who, []) := by
            rcases e1 with h | h
            · exact ⟨_, h⟩
            · exact h
          rw [e1] at hst
          have e2 : wakeL (-1) 0 = [] := rfl
          dsimp only at hst
          rw [e2] at hst
          refine ⟨by rw [hst], fun _ h => by omega, hops', ?_⟩
          rw [hst]
          refine .inl ⟨⟨.inr ⟨who, rfl⟩, ?_⟩, rfl⟩
          intro j u hu
          rcases hself j u hu with ⟨e, q1, q2⟩ | ⟨e, hu'⟩
          · exact .inr (.inr ⟨q1, q2, fun h => h⟩)
          · rcases hoth j u e hu' with ⟨q1, q2, _⟩ | ⟨_, _, y, hy, _⟩ | ⟨q1, q2, _⟩
            · exact .inl ⟨q1, q2, fun h => h⟩
            · cases hy
            · exact .inr (.inr ⟨q1, q2, fun h => h⟩)
        | cons y l =>
          have hy := hL y List.mem_cons_self
          obtain ⟨m, hm2⟩ : ∃ m : Nat, y.t = m := ⟨y.t.toNat, by omega⟩
          have e1 : mUnlock true (i : Int) (y :: l) (i : Int) = (y.t, 0, true, y.t, l) := by
            unfold mUnlock
            rw [if_neg (by simp)]
          rw [e1] at hst
          dsimp only at hst
          have e2 : wakeL y.t 0 = [y.t] := by unfold wakeL; rw [if_pos ⟨rfl, hy.1⟩]
          rw [e2] at hst
          have hmi : m ≠ i := fun e => hnr ⟨y, List.mem_cons_self, by rw [hm2, e]⟩
          have hml : m < S.T.length := by omega
          have hnd' : y.t ∉ l.map Wt.t ∧ (l.map Wt.t).Nodup := by simpa using hnd
          obtain ⟨tm, htm⟩ : ∃ tm, S.T[m]? = some tm := ⟨_, List.getElem?_eq_getElem hml⟩
          have hqm : tm.at_ = 1 ∧ tm.blk = true := by
            rcases hoth m tm hmi htm with ⟨_, _, q⟩ | ⟨q1, q2, _⟩ | ⟨_, _, q⟩
            · exact absurd ⟨y, List.mem_cons_self, hm2⟩ q
            · exact ⟨q1, q2⟩
            · exact absurd ⟨y, List.mem_cons_self, hm2⟩ q
          obtain ⟨km, _, htmo⟩ := ex_ops hops htm
          have hw : ∀ j : Nat, (wakeT (S.T.set i { t.next with blk := false }) [y.t])[j]? = ((S.T.set i { t.next with blk := false })[j]?).map fun t => if (j : Int) ∈ [y.t] then { t with blk := false } else t := fun j => wake_get _ _ (fun u hu => by rw [List.mem_singleton.1 hu]; exact hy.1) j
          refine ⟨by rw [hst], fun _ h => by omega, hops', ?_⟩
          rw [hst]
          refine .inr ⟨m, ⟨l, { tm with blk := false }, ?_, ?_, rfl, ?_, ?_, ?_, ?_, hnd'.2, ?_⟩, .inl rfl⟩
          · show [PM.mk 1 (.m true y.t l)] = _
            rw [hm2]
          · show (wakeT (S.T.set i { t.next with blk := false }) [y.t])[m]? = _
            rw [hw, List.getElem?_set, if_neg (fun e => hmi e.symm), htm]
            simp [hm2]
          · show 0 < tm.at_; omega
          · show tm.at_ < tm.ops.length
            rw [htmo, exO_len]; omega
          · rintro ⟨z, hz, e⟩
            exact hnd'.1 (List.mem_map.2 ⟨z, hz, by rw [e, hm2]⟩)
          · intro z hz
            have := hL z (List.mem_cons_of_mem _ hz)
            show 0 ≤ z.t ∧ z.t < (wakeT (S.T.set i { t.next with blk := false }) [y.t]).length
            rw [wakeT_len, List.length_set]
            exact this
          · intro j u hj hu
            have hu2 : (wakeT (S.T.set i { t.next with blk := false }) [y.t])[j]? = some u := hu
            rw [hw] at hu2
            have hjm : ¬ (j : Int) ∈ [y.t] := by simp; omega
            cases hv : (S.T.set i { t.next with blk := false })[j]? with
            | none => rw [hv] at hu2; cases hu2
            | some v =>
              rw [hv] at hu2
              simp only [Option.map_some, Option.some.injEq, if_neg hjm] at hu2
              subst hu2
              have hqiff : inQ (y :: l) j ↔ inQ l j := by
                constructor
                · rintro ⟨z, hz, e⟩
                  rcases List.mem_cons.1 hz with rfl | hz
                  · omega
                  · exact ⟨z, hz, e⟩
                · rintro ⟨z, hz, e⟩
                  exact ⟨z, List.mem_cons_of_mem _ hz, e⟩
              rcases hself j v hv with ⟨e, q1, q2⟩ | ⟨e, hv'⟩
              · subst e
                refine .inr (.inr ⟨q1, q2, fun h => hnr (hqiff.2 h)⟩)
              · rcases hoth j v e hv' with ⟨q1, q2, q⟩ | ⟨q1, q2, q⟩ | ⟨q1, q2, q⟩
                · exact .inl ⟨q1, q2, fun h => q (hqiff.2 h)⟩
                · exact .inr (.inl ⟨q1, q2, hqiff.1 q⟩)
                · exact .inr (.inr ⟨q1, q2, fun h => q (hqiff.2 h)⟩)
    · -- another one locks: it waits
      have hq0 : t.at_ = 0 ∧ ¬ inQ L i := by
        rcases hoth i t hir ht with ⟨q1, q2, q⟩ | ⟨q1, q2, q⟩ | ⟨q1, q2, q⟩
        · exact ⟨q1, q⟩
        · rw [hb] at q2; cases q2
        · omega
      rw [hq0.1, hto, exO_0] at hx
      obtain rfl : x = ⟨1, 1, 0⟩ := by injection hx with e; exact e.symm
      have hst := step_lock (i := i) (t := t) hF
      have hwf : hasW L (i : Int) = false := by
        cases hh : hasW L (i : Int) with
        | false => rfl
        | true => exact absurd ((hasW_iff L i).1 hh) hq0.2
      have e1 : ∃ y : Wt, y.t = i ∧ mLock true (r : Int) L (i : Int) = (false, 0, true, (r : Int), L ++ [y]) := by
        unfold mLock
        rw [if_neg (by omega), if_neg (by simp [hwf]; omega)]
        simp
      obtain ⟨y, hyi, e1⟩ := e1
      rw [e1] at hst
      refine ⟨by rw [hst], fun h => by omega, hops', ?_⟩
      rw [hst]
      have hqy : ∀ j : Nat, inQ (L ++ [y]) j ↔ inQ L j ∨ j = i := fun j => by
        constructor
        · rintro ⟨z, hz, e⟩
          rcases List.mem_append.1 hz with hz | hz
          · exact .inl ⟨z, hz, e⟩
          · rw [List.mem_singleton.1 hz] at e; exact .inr (by omega)
        · rintro (⟨z, hz, e⟩ | rfl)
          · exact ⟨z, List.mem_append_left _ hz, e⟩
          · exact ⟨y, by simp, hyi⟩
      refine .inr ⟨r, ⟨L ++ [y], tr, rfl, ?_, hbr, ha0, ha1, ?_, ?_, ?_, ?_⟩, ?_⟩
      · show (S.T.set i _)[r]? = _
        rw [List.getElem?_set, if_neg hir]
        exact htr
      · rw [hqy]
        rintro (h | h)
        · exact hnr h
        · exact hir h.symm
      · intro z hz
        show 0 ≤ z.t ∧ z.t < (S.T.set i _).length
        rw [List.length_set]
        rcases List.mem_append.1 hz with hz | hz
        · exact hL z hz
        · rw [List.mem_singleton.1 hz, hyi]; omega
      · rw [List.map_append, List.nodup_append]
        refine ⟨hnd, by simp, fun a ha b hb2 => ?_⟩
        simp at hb2
        subst hb2
        intro e
        subst e
        obtain ⟨z, hz, e⟩ := List.mem_map.1 ha
        exact hq0.2 ⟨z, hz, by rw [e, hyi]⟩
      · intro j u hj hu
        rcases set_cases hu with ⟨rfl, e⟩ | ⟨hji, hu'⟩
        · subst e
          exact .inr (.inl ⟨by show t.at_ + 1 = 1; omega, rfl, (hqy _).2 (.inr rfl)⟩)
        · rcases hoth j u hj hu' with ⟨q1, q2, q⟩ | ⟨q1, q2, q⟩ | ⟨q1, q2, q⟩
          · exact .inl ⟨q1, q2, by rw [hqy]; rintro (h | h); exact q h; exact hji h⟩
          · exact .inr (.inl ⟨q1, q2, (hqy _).2 (.inl q)⟩)
          · exact .inr (.inr ⟨q1, q2, by rw [hqy]; rintro (h | h); exact q h; exact hji h⟩)
      · have hin : innX inn i t.at_ t.ops.length = inn := by
          unfold innX
          rw [if_neg (by omega), if_neg (by omega)]
        rw [hin]
        rcases hinn with h | ⟨h, h2⟩
        · exact .inl h
        · refine .inr ⟨h, fun u hu => ?_⟩
          rcases set_cases hu with ⟨e, _⟩ | ⟨_, hu'⟩
          · exact absurd e.symm hir
          · exact h2 u hu'
theorem ex_end (K : List Nat) (S : PS) (inn : Int) (h : ExI K S inn) (hnr : ∀ t ∈ S.T, t.ready = false) : (pickT Tk.open_ S.T S.T.length).isEmpty = true := by
  obtain ⟨hops, hc⟩ := h
  rcases hc with ⟨⟨hM, hA⟩, _⟩ | ⟨r, ⟨L, tr, hM, htr, hbr, ha0, ha1, _⟩, _⟩
  · rw [pickT_nil (fun t ht => ?_)]
    · rfl
    · obtain ⟨i, hi, he⟩ := List.getElem_of_mem ht
      have hg := List.getElem?_eq_getElem hi
      rw [he] at hg
      have hq := hnr t ht
      rcases hA i t hg with ⟨q1, q2, _⟩ | ⟨_, _, q⟩ | ⟨q1, q2, _⟩
      · exact not_open q2 (not_ready hq q2)
      · cases q
      · exact not_open q2 (not_ready hq q2)
  · have := not_ready (hnr tr (List.mem_of_getElem? htr)) hbr
    omega
theorem ex_first (K : List Nat) : ExI K (newS (K.map exO)) (-1) := by
  refine ⟨by unfold newS; simp [freshT, Function.comp_def], .inl ⟨⟨.inl rfl, fun i t ht => ?_⟩, rfl⟩⟩
  unfold newS at ht
  dsimp only at ht
  rw [List.getElem?_map] at ht
  cases hk : (K.map exO)[i]? with
  | none => rw [hk] at ht; cases ht
  | some l =>
    rw [hk] at ht
    injection ht with ht
    subst ht
    exact .inl ⟨rfl, rfl, fun h => h⟩
theorem ex_mu : ∀ (K : List Nat), (∀ k ∈ K, k ≤ 5) → mu (newS (K.map exO)).T ≤ 7 * K.length
  | [], h => Nat.le_refl _
  | k :: K, h => by
    have := ex_mu K (fun j hj => h j (List.mem_cons_of_mem _ hj))
    have hk := h k List.mem_cons_self
    unfold mu newS at this ⊢
    simp only [List.map_cons, List.sum_cons, List.length_cons] at this ⊢
    have e : muT (freshT (exO k)) = k + 2 := by unfold muT freshT; dsimp only; rw [exO_len]; omega
    rw [e]
    omega
end Go.Proofs.Ytmohpjkbhpgidaa.A
