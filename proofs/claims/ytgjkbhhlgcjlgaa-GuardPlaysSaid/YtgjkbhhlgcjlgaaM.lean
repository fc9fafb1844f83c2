/-
  A map from texts to uint64 numbers, in memory: what it answers, as a function.
-/
import Derived.Test.YtgjkbhhlgcjlgaaS
import Derived.Laws.StructEq
import Derived.MapKept
namespace Go.Proofs.Ytgjkbhhlgcjlgaa.U
open Go.RowKit
set_option linter.unusedVariables false
set_option linter.unusedSimpArgs false

def plainEntry (e : MapEntry) : Prop := ∃ s n, e.key = .string s ∧ e.val = .int .u64 n
def look : List MapEntry → ByteArray → Option Value
  | [], _ => none
  | e :: es, s => match e.key with
    | .string t => if s = t then some e.val else look es s
    | _ => look es s
theorem look_cons {e : MapEntry} {es : List MapEntry} {t s : ByteArray} (h : e.key = .string t) : look (e :: es) s = if s = t then some e.val else look es s := by simp [look, h]

theorem beqB (s t : ByteArray) : (s == t) = decide (s = t) := by
  rw [beq_toListBytes]
  by_cases h : s = t
  · subst h; simp
  · rw [decide_eq_false h, beq_eq_false_iff_ne]
    intro e
    exact h (ByteArray.ext (Array.ext' (by simpa [ByteArray.toList_eq] using e)))
theorem findNow_at (s : ByteArray) : ∀ (es : List MapEntry) (i : Nat), (∀ e ∈ es, plainEntry e) →
    (Instr.findNow .string (.string s) es i = some none ∧ look es s = none) ∨
    ∃ j v, Instr.findNow .string (.string s) es i = some (some (i + j, v)) ∧ look es s = some v ∧ j < es.length ∧ (es[j]?).map (·.key) = some (.string s) ∧ ∀ j', j' < j → ∀ e, es[j']? = some e → e.key ≠ .string s
  | [], i, _ => .inl ⟨rfl, rfl⟩
  | e :: es, i, h => by
    obtain ⟨t, n, hk, hv⟩ := h e (List.mem_cons_self ..)
    by_cases hst : s = t
    · subst hst
      right
      refine ⟨0, e.val, ?_, by rw [look_cons hk, if_pos rfl], by simp, by simp [hk], fun j' hj' => absurd hj' (by omega)⟩
      simp [Instr.findNow, Instr.sameNow, hk, beqB]
    · have hne : (s == t) = false := by rw [beqB]; exact decide_eq_false hst
      have e1 : Instr.findNow .string (.string s) (e :: es) i = Instr.findNow .string (.string s) es (i + 1) := by
        simp [Instr.findNow, Instr.sameNow, hk, hne]
      rw [e1, look_cons hk, if_neg hst]
      rcases findNow_at s es (i + 1) (fun x hx => h x (List.mem_cons_of_mem _ hx)) with h1 | ⟨j, v, h1, h2, h3, h4, h5⟩
      · exact .inl h1
      · right
        refine ⟨j + 1, v, by rw [h1]; congr 3; omega, h2, by simp; omega, by simpa using h4, fun j' hj' x hx => ?_⟩
        cases j' with
        | zero =>
          simp at hx
          subst hx
          rw [hk]
          intro hc
          injection hc with hc
          exact hst hc.symm
        | succ j' => exact h5 j' (by omega) x (by simpa using hx)

theorem look_val {es : List MapEntry} {s : ByteArray} {v : Value} (h : ∀ e ∈ es, plainEntry e) (hl : look es s = some v) : ∃ n, v = .int .u64 n := by
  induction es with
  | nil => simp [look] at hl
  | cons e es ih =>
    obtain ⟨t, n, hk, hv⟩ := h e (List.mem_cons_self ..)
    rw [look_cons hk] at hl
    split at hl
    · injection hl with hl; exact ⟨n, by rw [← hl, hv]⟩
    · exact ih (fun x hx => h x (List.mem_cons_of_mem _ hx)) hl
theorem look_push {es : List MapEntry} {e : MapEntry} {t s : ByteArray} (h : ∀ e ∈ es, plainEntry e) (hk : e.key = .string t) : look (es ++ [e]) s = match look es s with | some v => some v | none => if s = t then some e.val else none := by
  induction es with
  | nil => rw [List.nil_append, look_cons hk]; simp [look]
  | cons x es ih =>
    obtain ⟨u, n, hku, _⟩ := h x (List.mem_cons_self ..)
    rw [List.cons_append, look_cons hku, look_cons hku]
    split
    · rfl
    · exact ih (fun y hy => h y (List.mem_cons_of_mem _ hy))
theorem look_set {es : List MapEntry} {j : Nat} {t : ByteArray} {v : Value} (h : ∀ e ∈ es, plainEntry e) (hj : (es[j]?).map (·.key) = some (.string t)) (hb : ∀ j', j' < j → ∀ e, es[j']? = some e → e.key ≠ .string t) (s : ByteArray) :
    look (es.modify j fun e => { e with key := .string t, val := v }) s = if s = t then some v else look es s := by
  induction es generalizing j with
  | nil => simp at hj
  | cons x es ih =>
    obtain ⟨u, n, hku, _⟩ := h x (List.mem_cons_self ..)
    cases j with
    | zero =>
      simp at hj
      rw [hku] at hj
      injection hj with hj
      subst hj
      rw [List.modify_zero_cons, look_cons (t := u) rfl, look_cons hku]
      split <;> rfl
    | succ j =>
      have hne : u ≠ t := by
        intro hc
        subst hc
        exact hb 0 (by omega) x rfl hku
      rw [List.modify_succ_cons, look_cons hku, look_cons hku, ih (fun y hy => h y (List.mem_cons_of_mem _ hy)) (by simpa using hj) (fun j' hj' e he => hb (j' + 1) (by omega) e (by simpa using he))]
      by_cases h1 : s = u
      · rw [if_pos h1, if_pos h1, if_neg (by rw [h1]; exact hne)]
      · rw [if_neg h1, if_neg h1]

/-- Block b is a map that answers f. -/
def MapU (w : World) (b : Nat) (f : ByteArray → Int) : Prop :=
  ∃ es clock, w.heap[b]? = some (.map es clock) ∧ (∀ e ∈ es.toList, plainEntry e) ∧ ∀ s, (look es.toList s).getD (.int .u64 0) = .int .u64 (f s)
theorem MapU.keep {S : Nat → Prop} {w w' : World} {b : Nat} {f : ByteArray → Int} (h : MapU w b f) (k : Keep S w w') (hn : ¬ S b) : MapU w' b f := by
  obtain ⟨es, c, hb, hr⟩ := h
  exact ⟨es, c, k.obj hb hn, hr⟩
theorem MapU.lt {w : World} {b : Nat} {f : ByteArray → Int} (h : MapU w b f) : b < w.heap.size := by
  obtain ⟨es, c, hb, _⟩ := h
  exact (Array.getElem?_eq_some_iff.1 hb).1
theorem MapU.fresh (w : World) (c : Nat) : MapU (w.alloc (.map #[] c)) w.heap.size (fun _ => 0) :=
  ⟨#[], c, heap_alloc_new w _, fun e he => by simp at he, fun s => by simp [look]⟩

theorem checkKey_str (e : Bool) (s : ByteArray) (n : Nat) (w : World) (ht : Try.prog.underlying 9 = some .string) : (Instr.checkKey e (n + 1) 9 (.string s)).run Try.prog w = .ok () w := by
  simp [Instr.checkKey, run_underlying ht]
theorem run_look {w : World} {b : Nat} {f : ByteArray → Int} (h : MapU w b f) (s : ByteArray) : (Instr.lookup 43 (.map (some b)) (.string s) false).run Try.prog w = .ok (.int .u64 (f s)) w := by
  obtain ⟨es, c, hb, hg, hf⟩ := h
  have hz : (zeroValue 30).run Try.prog w = .ok (.int .u64 0) w := by kernel_rfl
  have hfs := hf s
  have hck := checkKey_str es.isEmpty s 9999 w Try.underlying9
  have hgo := MapKept.run_getObj_map (P := Try.prog) hb
  rw [show (9999 + 1 : Nat) = 10000 from rfl] at hck
  rcases findNow_at s es.toList 0 hg with ⟨h1, h2⟩ | ⟨j, v, h1, h2, _⟩
  · rw [h2] at hfs
    simp at hfs
    simp [Instr.lookup, run_underlying Try.underlying43, run_underlying Try.underlying9, hgo, hck, Instr.findKey, h1, hz, hfs]
  · rw [h2] at hfs
    simp at hfs
    simp [Instr.lookup, run_underlying Try.underlying43, run_underlying Try.underlying9, hgo, hck, Instr.findKey, h1, hfs]
theorem run_put {w : World} {b : Nat} {f : ByteArray → Int} (h : MapU w b f) (s : ByteArray) (n : Int) :
    ∃ w', (Instr.mapUpdate 43 (.map (some b)) (.string s) (.int .u64 n)).run Try.prog w = .ok () w' ∧ MapU w' b (fun t => if t = s then n else f t) ∧ Keep (fun k => k = b) w w' := by
  obtain ⟨es, c, hb, hg, hf⟩ := h
  have hck := checkKey_str false s 9999 w Try.underlying9
  have hgo := MapKept.run_getObj_map (P := Try.prog) hb
  have hso := fun o => MapKept.run_setObj_map (P := Try.prog) o hb
  rw [show (9999 + 1 : Nat) = 10000 from rfl] at hck
  have hlt := (Array.getElem?_eq_some_iff.1 hb).1
  rcases findNow_at s es.toList 0 hg with ⟨h1, h2⟩ | ⟨j, v, h1, h2, hj, h3, h4⟩
  · refine ⟨{ w with heap := w.heap.setIfInBounds b (.map (es.push { key := .string s, val := .int .u64 n, born := c }) (c + 1)) }, ?_, ⟨es.push { key := .string s, val := .int .u64 n, born := c }, c + 1, by simp [hlt], ?_, ?_⟩, ?_⟩
    · simp [Instr.mapUpdate, run_underlying Try.underlying43, run_underlying Try.underlying9, hgo, hso, hck, Instr.findKey, h1]
    · intro e he
      simp at he
      rcases he with he | rfl
      · exact hg e (by simpa using he)
      · exact ⟨s, n, rfl, rfl⟩
    · intro t
      show _ = Value.int IntKind.u64 (if t = s then n else f t)
      rw [Array.toList_push, look_push hg (t := s) rfl]
      have hft := hf t
      by_cases hts : t = s
      · subst hts; rw [h2]; simp
      · rw [if_neg hts, if_neg hts]
        cases hl : look es.toList t with
        | none => rw [hl] at hft; simpa using hft
        | some v => rw [hl] at hft; simpa using hft
    · exact ⟨rfl, rfl, rfl, by simp, fun k hk hn => by simp only [Array.getElem?_setIfInBounds]; rw [if_neg (fun e => hn e.symm)]⟩
  · rw [Nat.zero_add] at h1
    have hjs : j < es.size := by simpa using hj
    have hkey : (es[j]?).map (·.key) = some (.string s) := by simpa using h3
    refine ⟨{ w with heap := w.heap.setIfInBounds b (.map (es.modify j fun e => { e with key := .string s, val := .int .u64 n }) c) }, ?_, ⟨es.modify j fun e => { e with key := .string s, val := .int .u64 n }, c, by simp [hlt], ?_, ?_⟩, ?_⟩
    · have hkk : (Option.map (·.key) es[j]?).getD (.string s) = .string s := by rw [hkey]; rfl
      simp [Instr.mapUpdate, run_underlying Try.underlying43, run_underlying Try.underlying9, hgo, hso, hck, Instr.findKey, h1, hkk, Instr.keyThatStays, Instr.sameBits, beqB]
    · intro e he
      rw [Array.toList_modify] at he
      obtain ⟨i, hi⟩ := List.mem_iff_getElem?.1 he
      rw [List.getElem?_modify] at hi
      cases hx : es.toList[i]? with
      | none => rw [hx] at hi; simp at hi
      | some x =>
        rw [hx] at hi
        simp at hi
        split at hi
        · subst hi; exact ⟨s, n, rfl, rfl⟩
        · subst hi; exact hg x (List.mem_of_getElem? hx)
    · intro t
      show _ = Value.int IntKind.u64 (if t = s then n else f t)
      rw [Array.toList_modify, look_set hg h3 h4]
      by_cases hts : t = s
      · rw [if_pos hts, if_pos hts]; rfl
      · rw [if_neg hts, if_neg hts]; exact hf t
    · exact ⟨rfl, rfl, rfl, by simp, fun k hk hn => by simp only [Array.getElem?_setIfInBounds]; rw [if_neg (fun e => hn e.symm)]⟩
end Go.Proofs.Ytgjkbhhlgcjlgaa.U
