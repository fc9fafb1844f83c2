/-
  SchedOnce in plain Lean: the once is run by one task, whatever picks.
-/
import Derived.Test.YtmohpjkbhpgidaaYN
namespace Go.Proofs.Ytmohpjkbhpgidaa.A
open Go.RowKit Go.Proofs.Ytmohpjkbhpgidaa.U
set_option linter.unusedVariables false
set_option linter.unusedSimpArgs false

def ocOps : List Op3 := [⟨7, 1, 0⟩, ⟨5, 5, 1⟩, ⟨8, 1, 0⟩]
def adds (l : List Ev) : Nat := l.countP fun e => e.at_ == 1
def okEv (l : List Ev) : Prop := ∀ e ∈ l, e.er = 0
theorem adds_app (l : List Ev) (e : Ev) : adds (l ++ [e]) = adds l + if e.at_ == 1 then 1 else 0 := by
  unfold adds
  rw [List.countP_append]
  simp [List.countP_cons]
theorem okEv_app {l : List Ev} {e : Ev} (h : okEv l) (he : e.er = 0) : okEv (l ++ [e]) := fun x hx => by
  rcases List.mem_append.1 hx with hx | hx
  · exact h x hx
  · rw [List.mem_singleton.1 hx]; exact he
/-- Nobody has begun. -/
def OcA (S : PS) (l : List Ev) : Prop := S.M = [] ∧ adds l = 0 ∧ ∀ t ∈ S.T, t.at_ = 0 ∧ t.blk = false ∧ t.runs = []
/-- Task r runs it. -/
def OcB (S : PS) (l : List Ev) : Prop := ∃ (r : Nat) (L : List Int) (a : Nat), S.T[r]? = some ⟨ocOps, a, false, [1]⟩ ∧
  ((a = 1 ∧ adds l = 0 ∧ S.M = [⟨1, .o r false L⟩]) ∨ (a = 2 ∧ adds l = 1 ∧ S.M = [⟨1, .o r false L⟩, ⟨5, .g 1 []⟩])) ∧
  (∀ u ∈ L, 0 ≤ u) ∧ ∀ (i : Nat) (t : Tk), i ≠ r → S.T[i]? = some t → t.runs = [] ∧ ((t.at_ = 0 ∧ t.blk = false ∧ (i : Int) ∉ L) ∨ (t.at_ = 3 ∧ t.blk = true ∧ (i : Int) ∈ L))
/-- It is done. -/
def OcC (S : PS) (l : List Ev) : Prop := S.M = [⟨1, .o (-1) true []⟩, ⟨5, .g 1 []⟩] ∧ adds l = 1 ∧ ∀ t ∈ S.T, t.blk = false ∧ (t.at_ = 0 ∨ t.at_ = 3)
def OcI (N : Nat) (S : PS) (l : List Ev) : Prop := S.T.length = N ∧ (∀ t ∈ S.T, t.ops = ocOps) ∧ okEv l ∧ (OcA S l ∨ OcB S l ∨ OcC S l)
theorem oc_past : pastL 1 (ocOps.drop 1) = 2 := by decide
theorem step_do {S : PS} {i : Nat} {t : Tk} {W : Int} {ov : Bool} {L : List Int} {rest : List PM} (hM : findM S.M (111, 1) = ⟨1, .o W ov L⟩ :: rest) :
    stepX S i t ⟨7, 1, 0⟩ = (dE W L i, ⟨S.T.set i { (if dE W L i ≠ 0 then t.next else if dRun W ov L i then t.next.push 1 else t.next.past) with blk := dWait W ov L i && dE W L i == 0 }, ⟨1, .o (dW W ov L i) ov (dL W ov L i)⟩ :: rest⟩) := by
  have h1 : stepX S i t ⟨7, 1, 0⟩ = (let M1 := findM S.M (111, 1); let m := M1.getD (idxM M1 (111, 1)) zPM; let d := doS m.st ⟨7, 1, 0⟩ i t.next; (d.er, ⟨wakeT (S.T.set i { d.tk with blk := d.wait && d.er == 0 }) d.wk, M1.set (idxM M1 (111, 1)) ⟨m.num, d.st⟩⟩)) := rfl
  rw [h1, hM]
  rfl
theorem tk_eta {t : Tk} {o : List Op3} {a : Nat} {b : Bool} {r : List Int} (h1 : t.ops = o) (h2 : t.at_ = a) (h3 : t.blk = b) (h4 : t.runs = r) : t = ⟨o, a, b, r⟩ := by
  cases t
  simp only at h1 h2 h3 h4
  subst h1 h2 h3 h4
  rfl
theorem set_cases {T : List Tk} {i j : Nat} {t' u : Tk} (h : (T.set i t')[j]? = some u) : (j = i ∧ u = t') ∨ (j ≠ i ∧ T[j]? = some u) := by
  rw [List.getElem?_set] at h
  by_cases hij : i = j
  · rw [if_pos hij] at h
    split at h
    · injection h with h; exact .inl ⟨hij.symm, h.symm⟩
    · cases h
  · rw [if_neg hij] at h
    exact .inr ⟨fun e => hij e.symm, h⟩
theorem mem_set_of {T : List Tk} {i : Nat} {t' : Tk} {P : Tk → Prop} (h : ∀ t ∈ T, P t) (h' : P t') : ∀ t ∈ T.set i t', P t := fun t ht => by
  rcases List.mem_or_eq_of_mem_set ht with ht | rfl
  · exact h t ht
  · exact h'
theorem oc_step (N : Nat) (S : PS) (l : List Ev) (i : Nat) (t : Tk) (x : Op3) (h : OcI N S l) (ht : S.T[i]? = some t) (hr : t.ready = true) (hx : t.ops[t.at_]? = some x) :
    OcI N (stepX S i t x).2 (l ++ [⟨i, t.at_, (stepX S i t x).1⟩]) := by
  obtain ⟨hN, hops, hok, hph⟩ := h
  have hto := hops t (List.mem_of_getElem? ht)
  obtain ⟨hb, hat⟩ := ready_lt hr
  have hil := (List.getElem?_eq_some_iff.1 ht).1
  have hN' : (stepX S i t x).2.T.length = N := by have := congrArg List.length (stepX_ops (x := x) ht); simpa [hN] using this
  have hops' : ∀ u ∈ (stepX S i t x).2.T, u.ops = ocOps := by
    have e := stepX_ops (x := x) ht
    intro u hu
    have : u.ops ∈ (stepX S i t x).2.T.map (·.ops) := List.mem_map_of_mem hu
    rw [e] at this
    obtain ⟨v, hv, he⟩ := List.mem_map.1 this
    rw [← he]; exact hops v hv
  refine ⟨hN', hops', ?_⟩
  rw [hto] at hx hat
  rcases hph with ⟨hM, ha, hA⟩ | ⟨r, L, a, hr0, hcase, hL0, hoth⟩ | ⟨hM, ha, hC⟩
  · -- the first one comes
    obtain ⟨a0, b0, r0⟩ := hA t (List.mem_of_getElem? ht)
    rw [a0] at hx
    obtain rfl : x = ⟨7, 1, 0⟩ := by injection hx with e; exact e.symm
    have hst := step_do (S := S) (i := i) (t := t) (W := -1) (ov := false) (L := []) (rest := []) (by rw [hM]; rfl)
    have e1 : dE (-1) [] (i : Int) = 0 := by unfold dE; rw [if_neg (by omega), if_neg (by intro h; rcases h with h | h; omega; cases h)]
    have e2 : dRun (-1) false [] (i : Int) = true := by unfold dRun; rw [e1]; decide
    have e3 : dWait (-1) false [] (i : Int) = false := by unfold dWait; rw [e1]; decide
    have e4 : dW (-1) false [] (i : Int) = i := by unfold dW; rw [e2]; rfl
    have e5 : dL (-1) false [] (i : Int) = [] := by unfold dL; rw [e3]; rfl
    rw [e1, e2, e3, e4, e5] at hst
    rw [hst]
    have hadd : adds (l ++ [⟨(i : Int), t.at_, 0⟩]) = 0 := by rw [adds_app, ha, a0]; rfl
    refine ⟨okEv_app hok rfl, .inr (.inl ⟨i, [], 1, ?_, .inl ⟨rfl, hadd, rfl⟩, fun u hu => (by cases hu), ?_⟩)⟩
    · show (S.T.set i _)[i]? = _
      rw [List.getElem?_set, if_pos rfl, if_pos hil]
      congr 1
      refine tk_eta hto ?_ rfl ?_
      · show t.at_ + 1 = 1
        omega
      · show t.runs ++ [1] = [1]
        rw [r0]; rfl
    · intro j u hj hu
      rcases set_cases hu with ⟨e, _⟩ | ⟨_, hu'⟩
      · exact absurd e hj
      · obtain ⟨q1, q2, q3⟩ := hA u (List.mem_of_getElem? hu')
        exact ⟨q3, .inl ⟨q1, q2, by simp⟩⟩
  · by_cases hir : i = r
    · -- the one that runs it
      subst hir
      rw [ht] at hr0
      injection hr0 with hr0
      subst hr0
      have hcomm : ∀ (j : Nat) (u t' : Tk), j ≠ i → (S.T.set i t')[j]? = some u → u.runs = [] ∧ ((u.at_ = 0 ∧ u.blk = false ∧ (j : Int) ∉ L) ∨ (u.at_ = 3 ∧ u.blk = true ∧ (j : Int) ∈ L)) := fun j u t' hj hu => by
        rcases set_cases hu with ⟨e, _⟩ | ⟨_, hu'⟩
        · exact absurd e hj
        · exact hoth j u hj hu'
      rcases hcase with ⟨rfl, ha, hM⟩ | ⟨rfl, ha, hM⟩
      · obtain rfl : x = ⟨5, 5, 1⟩ := by injection hx with e; exact e.symm
        have hst : stepX S i ⟨ocOps, 1, false, [1]⟩ ⟨5, 5, 1⟩ = (0, ⟨S.T.set i ⟨ocOps, 2, false, [1]⟩, [⟨1, .o i false L⟩, ⟨5, .g 1 []⟩]⟩) := by
          obtain ⟨T, M⟩ := S
          dsimp only at hM
          subst hM
          rfl
        rw [hst]
        refine ⟨okEv_app hok rfl, .inr (.inl ⟨i, L, 2, ?_, .inr ⟨rfl, ?_, rfl⟩, hL0, fun j u hj hu => hcomm j u _ hj hu⟩)⟩
        · show (S.T.set i _)[i]? = _
          rw [List.getElem?_set, if_pos rfl, if_pos hil]
        · show adds (l ++ [⟨(i : Int), 1, 0⟩]) = 1
          rw [adds_app, ha]; rfl
      · obtain rfl : x = ⟨8, 1, 0⟩ := by injection hx with e; exact e.symm
        have e1 : fE (i : Int) i = 0 := by unfold fE; rw [if_neg (by omega)]
        have hst : stepX S i ⟨ocOps, 2, false, [1]⟩ ⟨8, 1, 0⟩ = (fE i i, ⟨wakeT (S.T.set i ⟨ocOps, 3, false && fE i i == 0, []⟩) (fR i i L), [⟨1, .o (fW i i) (fO i i false) (fL i i L)⟩, ⟨5, .g 1 []⟩]⟩) := by
          obtain ⟨T, M⟩ := S
          dsimp only at hM
          subst hM
          rfl
        have e2 : fR (i : Int) i L = L := by unfold fR; rw [if_pos e1]
        have e3 : fW (i : Int) i = -1 := by unfold fW; rw [if_pos e1]
        have e4 : fO (i : Int) i false = true := by unfold fO; rw [if_pos e1]
        have e5 : fL (i : Int) i L = [] := by unfold fL; rw [if_pos e1]
        rw [e1, e2, e3, e4, e5] at hst
        rw [hst]
        refine ⟨okEv_app hok rfl, .inr (.inr ⟨rfl, ?_, ?_⟩)⟩
        · show adds (l ++ [⟨(i : Int), 2, 0⟩]) = 1
          rw [adds_app, ha]; rfl
        · intro u hu
          have hu' : u ∈ wakeT (S.T.set i ⟨ocOps, 3, false, []⟩) L := hu
          obtain ⟨j, hj, he⟩ := List.getElem_of_mem hu'
          have hg := List.getElem?_eq_getElem hj
          rw [he, wake_get _ _ hL0] at hg
          cases hv : (S.T.set i ⟨ocOps, 3, false, []⟩)[j]? with
          | none => rw [hv] at hg; cases hg
          | some v =>
            rw [hv] at hg
            simp only [Option.map_some, Option.some.injEq] at hg
            by_cases hji : j = i
            · rcases set_cases hv with ⟨_, e⟩ | ⟨e, _⟩
              · subst e
                subst hg
                split <;> exact ⟨rfl, .inr rfl⟩
              · exact absurd hji e
            · obtain ⟨_, q⟩ := hcomm j v _ hji hv
              subst hg
              rcases q with ⟨q1, q2, q3⟩ | ⟨q1, q2, q3⟩
              · rw [if_neg q3]; exact ⟨q2, .inl q1⟩
              · rw [if_pos q3]; exact ⟨rfl, .inr q1⟩
    · -- another one comes
      obtain ⟨hru, hq⟩ := hoth i t hir ht
      have hat0 : t.at_ = 0 ∧ (i : Int) ∉ L := by
        rcases hq with ⟨q1, q2, q3⟩ | ⟨q1, q2, q3⟩
        · exact ⟨q1, q3⟩
        · rw [hb] at q2; cases q2
      rw [hat0.1] at hx
      obtain rfl : x = ⟨7, 1, 0⟩ := by injection hx with e; exact e.symm
      obtain ⟨rest, hMr⟩ : ∃ rest, S.M = ⟨1, .o r false L⟩ :: rest := by
        rcases hcase with ⟨_, _, hM⟩ | ⟨_, _, hM⟩
        · exact ⟨_, hM⟩
        · exact ⟨_, hM⟩
      have hst := step_do (S := S) (i := i) (t := t) (W := r) (ov := false) (L := L) (rest := rest) (by rw [hMr]; rfl)
      have e1 : dE (r : Int) L (i : Int) = 0 := by
        unfold dE
        rw [if_neg (by omega), if_neg (by rintro (h | h); omega; exact hat0.2 h)]
      have e2 : dRun (r : Int) false L (i : Int) = false := by
        unfold dRun
        exact decide_eq_false (fun h => by have := h.2.2; omega)
      have e3 : dWait (r : Int) false L (i : Int) = true := by
        unfold dWait
        exact decide_eq_true ⟨e1, rfl, by omega⟩
      have e4 : dW (r : Int) false L (i : Int) = r := by unfold dW; rw [e2]; rfl
      have e5 : dL (r : Int) false L (i : Int) = L ++ [(i : Int)] := by unfold dL; rw [e3]; rfl
      rw [e1, e2, e3, e4, e5] at hst
      rw [hst]
      have hadd : adds (l ++ [⟨(i : Int), t.at_, 0⟩]) = adds l := by rw [adds_app, hat0.1]; rfl
      refine ⟨okEv_app hok rfl, .inr (.inl ⟨r, L ++ [(i : Int)], a, ?_, ?_, ?_, ?_⟩)⟩
      · show (S.T.set i _)[r]? = _
        rw [List.getElem?_set, if_neg hir]
        exact hr0
      · rw [hadd]
        rcases hcase with ⟨q1, q2, hM⟩ | ⟨q1, q2, hM⟩
        · refine .inl ⟨q1, q2, ?_⟩
          rw [hM] at hMr
          injection hMr with _ e
          rw [← e]
        · refine .inr ⟨q1, q2, ?_⟩
          rw [hM] at hMr
          injection hMr with _ e
          rw [← e]
      · intro u hu
        rcases List.mem_append.1 hu with hu | hu
        · exact hL0 u hu
        · rw [List.mem_singleton.1 hu]; omega
      · intro j u hj hu
        rcases set_cases hu with ⟨rfl, e⟩ | ⟨hji, hu'⟩
        · subst e
          refine ⟨hru, .inr ⟨?_, rfl, by simp⟩⟩
          show t.next.at_ + pastL 1 (t.next.ops.drop t.next.at_) = 3
          have h1 : t.next.at_ = 1 := by show t.at_ + 1 = 1; omega
          have h2 : t.next.ops = ocOps := hto
          rw [h1, h2, oc_past]
        · obtain ⟨q1, q2⟩ := hoth j u hj hu'
          refine ⟨q1, ?_⟩
          rcases q2 with ⟨q2, q3, q4⟩ | ⟨q2, q3, q4⟩
          · exact .inl ⟨q2, q3, by simp [q4]; omega⟩
          · exact .inr ⟨q2, q3, by simp [q4]⟩
  · -- one comes behind it
    obtain ⟨b0, hc⟩ := hC t (List.mem_of_getElem? ht)
    have a0 : t.at_ = 0 := by
      rcases hc with h | h
      · exact h
      · exfalso
        have : t.at_ < 3 := hat
        omega
    rw [a0] at hx
    obtain rfl : x = ⟨7, 1, 0⟩ := by injection hx with e; exact e.symm
    have hst := step_do (S := S) (i := i) (t := t) (W := -1) (ov := true) (L := []) (rest := [⟨5, .g 1 []⟩]) (by rw [hM]; rfl)
    have e1 : dE (-1) [] (i : Int) = 0 := by unfold dE; rw [if_neg (by omega), if_neg (by intro h; rcases h with h | h; omega; cases h)]
    have e2 : dRun (-1) true [] (i : Int) = false := by unfold dRun; rw [e1]; decide
    have e3 : dWait (-1) true [] (i : Int) = false := by unfold dWait; rw [e1]; decide
    have e4 : dW (-1) true [] (i : Int) = -1 := by unfold dW; rw [e2]; rfl
    have e5 : dL (-1) true [] (i : Int) = [] := by unfold dL; rw [e3]; rfl
    rw [e1, e2, e3, e4, e5] at hst
    rw [hst]
    refine ⟨okEv_app hok rfl, .inr (.inr ⟨rfl, ?_, ?_⟩)⟩
    · show adds (l ++ [⟨(i : Int), t.at_, 0⟩]) = 1
      rw [adds_app, ha, a0]; rfl
    · refine mem_set_of hC ⟨rfl, .inr ?_⟩
      show t.next.at_ + pastL 1 (t.next.ops.drop t.next.at_) = 3
      have h1 : t.next.at_ = 1 := by show t.at_ + 1 = 1; omega
      have h2 : t.next.ops = ocOps := hto
      rw [h1, h2, oc_past]
/-- What comes of the run. -/
theorem oc_run (N : Nat) (h1 : 1 ≤ N) (hN : N ≤ 8) (picks : List Int) :
    okEv (runX picks 10000 0 (newS (List.replicate N ocOps)) []).1 ∧ adds (runX picks 10000 0 (newS (List.replicate N ocOps)) []).1 = 1 ∧
    (pickT Tk.open_ (runX picks 10000 0 (newS (List.replicate N ocOps)) []).2.T (runX picks 10000 0 (newS (List.replicate N ocOps)) []).2.T.length).isEmpty = true := by
  have hT : (newS (List.replicate N ocOps)).T = List.replicate N (freshT ocOps) := by unfold newS; rw [List.map_replicate]
  have h0 : OcI N (newS (List.replicate N ocOps)) [] := by
    refine ⟨by rw [hT, List.length_replicate], ?_, fun e he => (by cases he), .inl ⟨rfl, rfl, ?_⟩⟩
    · rw [hT]; intro t ht; rw [List.eq_of_mem_replicate ht]; rfl
    · rw [hT]; intro t ht; rw [List.eq_of_mem_replicate ht]; exact ⟨rfl, rfl, rfl⟩
  have hmu : mu (newS (List.replicate N ocOps)).T < 10000 := by
    rw [hT]
    unfold mu
    rw [List.map_replicate, List.sum_replicate_nat]
    have : muT (freshT ocOps) = 3 := rfl
    rw [this]; omega
  obtain ⟨⟨q1, q2, q3, q4⟩, hnr⟩ := runX_inv (P := OcI N) picks (oc_step N) 10000 0 _ [] h0 hmu
  generalize runX picks 10000 0 (newS (List.replicate N ocOps)) [] = R at *
  have hne : ∃ t, t ∈ R.2.T := by
    cases hl : R.2.T with
    | nil => rw [hl] at q1; simp at q1; omega
    | cons t T => exact ⟨t, List.mem_cons_self⟩
  rcases q4 with ⟨_, _, hA⟩ | ⟨r, L, a, hr0, hcase, _, _⟩ | ⟨_, ha, hC⟩
  · obtain ⟨t, ht⟩ := hne
    obtain ⟨a0, b0, _⟩ := hA t ht
    have := not_ready (hnr t ht) b0
    rw [q2 t ht, a0] at this
    exact absurd this (by decide)
  · have := not_ready (hnr _ (List.mem_of_getElem? hr0)) rfl
    have h3 : ocOps.length = 3 := rfl
    dsimp only at this
    rcases hcase with ⟨e, _⟩ | ⟨e, _⟩ <;> omega
  · refine ⟨q3, ha, ?_⟩
    rw [pickT_nil (fun t ht => not_open (hC t ht).1 (not_ready (hnr t ht) (hC t ht).1))]
    rfl
end Go.Proofs.Ytmohpjkbhpgidaa.A
