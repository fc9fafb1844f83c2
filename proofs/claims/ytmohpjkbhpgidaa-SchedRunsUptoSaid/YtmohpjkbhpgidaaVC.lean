/-
  The scheduler's map: from an object's kind and number to the object.
-/
import Derived.Test.YtmohpjkbhpgidaaVB
import Derived.Laws.StructEq
import Derived.MapKept
namespace Go.Proofs.Ytmohpjkbhpgidaa.A
open Go.RowKit Go.Proofs.Ytmohpjkbhpgidaa.U
set_option linter.unusedVariables false
set_option linter.unusedSimpArgs false
set_option maxRecDepth 100000
set_option maxHeartbeats 1600000

/-- An object's kind and number, as a key. -/
abbrev nkV (x : Int × Int) : Value := .agg #[.int .u8 x.1, .int .i64 x.2]
theorem equalN (w : World) (d : Nat) (x y : Int × Int) : (Op.equalIn (d + 2) 180 (nkV x) (nkV y)).run Try.prog w = .ok (decide (x = y)) w := by
  have hu := Try.underlying180
  have hu5 := Try.underlying5
  have hu3 := Try.underlying3
  have hf : Try.prog.underlying 180 = some (.struct (Try.prog.fieldsOf 180)) := by kernel_rfl
  have hh : Try.prog.stoodInHeld 180 = false := by kernel_rfl
  rw [run_equalIn_agg w (d + 1) 180 _ _ hf hh]
  have hfl : (Try.prog.fieldsOf 180).toList = (match Try.prog.underlying 180 with | some (.struct fs) => fs.toList | _ => []) := by kernel_rfl
  rw [hfl, hu]
  have p0 : ∀ (a b : Value) (W : World), (part 5 #[a, b] 0).run Try.prog W = .ok a W := fun a b W => by rfl
  have p1 : ∀ (a b : Value) (W : World), (part 3 #[a, b] 1).run Try.prog W = .ok b W := fun a b W => by rfl
  have q5 := fun x y => run_equalIn_int (P := Try.prog) w d 5 .u8 .u8 x y hu5
  have q3 := fun x y => run_equalIn_int (P := Try.prog) w d 3 .i64 .i64 x y hu3
  obtain ⟨a, b⟩ := x
  obtain ⟨a', b'⟩ := y
  simp [Op.eqFields, p0, p1, q5, q3, Result.andThen]
  by_cases h0 : a = a' <;> by_cases h1 : b = b' <;> simp [h0, h1, p0, p1, q5, q3, Result.andThen]
theorem equal_n (w : World) (x y : Int × Int) : (Op.equal 180 (nkV x) (nkV y)).run Try.prog w = .ok (decide (x = y)) w := by
  unfold Op.equal
  exact equalN w 9998 x y
/-- The entries hold the pairs of M. -/
def Pairs (es : List MapEntry) (M : List ((Int × Int) × Value)) : Prop := es.map (fun e => (e.key, e.val)) = M.map (fun p => (nkV p.1, p.2))
def lookM : List ((Int × Int) × Value) → (Int × Int) → Option Value
  | [], _ => none
  | p :: M, x => if x = p.1 then some p.2 else lookM M x
theorem lookM_app (M : List ((Int × Int) × Value)) (x y : Int × Int) (v : Value) : lookM (M ++ [(x, v)]) y = match lookM M y with | some u => some u | none => if y = x then some v else none := by
  induction M with
  | nil => rfl
  | cons p M ih =>
    rw [List.cons_append]
    unfold lookM
    split
    · rfl
    · exact ih
theorem asking (w : World) (x : Int × Int) : ∀ (es : List MapEntry) (M : List ((Int × Int) × Value)) (i : Nat), Pairs es M →
    (lookM M x = none ∧ (Instr.findAsking 180 (nkV x) es i).run Try.prog w = .ok none w) ∨ ∃ j v, lookM M x = some v ∧ (Instr.findAsking 180 (nkV x) es i).run Try.prog w = .ok (some (j, v)) w
  | [], M, i, h => by
    cases M with
    | nil => exact .inl ⟨rfl, rfl⟩
    | cons p M => simp [Pairs] at h
  | e :: es, M, i, h => by
    cases M with
    | nil => simp [Pairs] at h
    | cons p M =>
      simp only [Pairs, List.map_cons, List.cons.injEq, Prod.mk.injEq] at h
      obtain ⟨⟨hk, hv⟩, ht⟩ := h
      have he := equal_n w x p.1
      unfold Instr.findAsking lookM
      rw [hk]
      by_cases hx : x = p.1
      · right
        refine ⟨i, p.2, by rw [if_pos hx], ?_⟩
        rw [Sem.run_bind, he, Result.andThen_ok, decide_eq_true hx]
        simp [hv]
      · have := asking w x es M (i + 1) ht
        rw [if_neg hx, Sem.run_bind, he, Result.andThen_ok, decide_eq_false hx]
        simpa using this
theorem find_now (x : Int × Int) : ∀ (es : List MapEntry) (i : Nat) (d : TypeDesc), (∃ fs, d = .struct fs) → es ≠ [] → Instr.findNow d (nkV x) es i = none
  | [], i, d, _, h => absurd rfl h
  | e :: es, i, d, ⟨fs, hd⟩, _ => by
    subst hd
    unfold Instr.findNow
    simp [Instr.sameNow]
theorem find_key (w : World) (x : Int × Int) (es : List MapEntry) (M : List ((Int × Int) × Value)) (h : Pairs es M) :
    (lookM M x = none ∧ (Instr.findKey 180 (nkV x) es).run Try.prog w = .ok none w) ∨ ∃ j v, lookM M x = some v ∧ (Instr.findKey 180 (nkV x) es).run Try.prog w = .ok (some (j, v)) w := by
  unfold Instr.findKey
  rw [Sem.run_bind, run_underlying Try.underlying180 w, Result.andThen_ok]
  cases es with
  | nil =>
    cases M with
    | nil => exact .inl ⟨rfl, rfl⟩
    | cons p M => simp [Pairs] at h
  | cons e es =>
    rw [find_now x (e :: es) 0 _ ⟨_, rfl⟩ (by simp)]
    exact asking w x (e :: es) M 0 h
theorem check_n' (w : World) (x : Int × Int) (b : Bool) (n : Nat) : (Instr.checkKey b (n + 1 + 1) 180 (nkV x)).run Try.prog w = .ok () w := by
  have hu := Try.underlying180
  have hu5 := Try.underlying5
  have hu3 := Try.underlying3
  have p0 : ∀ (a b : Value) (W : World), (part 5 #[a, b] 0).run Try.prog W = .ok a W := fun a b W => by rfl
  have p1 : ∀ (a b : Value) (W : World), (part 3 #[a, b] 1).run Try.prog W = .ok b W := fun a b W => by rfl
  simp [Instr.checkKey, run_underlying hu, run_underlying hu5, run_underlying hu3, p0, p1, Result.andThen]
theorem check_n (w : World) (x : Int × Int) (b : Bool) : (Instr.checkKey b 10000 180 (nkV x)).run Try.prog w = .ok () w := check_n' w x b 9998
/-- Block b is a map of the pairs M. -/
def MapN (w : World) (b : Nat) (M : List ((Int × Int) × Value)) : Prop := ∃ es clock, w.heap[b]? = some (.map es clock) ∧ Pairs es.toList M
def mapP (b : Nat) (M : List ((Int × Int) × Value)) : SP := fun w F => MapN w b M ∧ ∀ k, F k ↔ k = b
theorem mapP_stable (b : Nat) (M : List ((Int × Int) × Value)) : Stable (mapP b M) where
  keep := fun ⟨⟨es, c, hb, hp⟩, hF⟩ hk hn => ⟨⟨es, c, hk.obj hb (hn b ((hF b).2 rfl)), hp⟩, hF⟩
  lt := fun ⟨⟨es, c, hb, _⟩, hF⟩ hk => by rw [(hF _).1 hk]; exact (Array.getElem?_eq_some_iff.1 hb).1
theorem run_lookN {w : World} {b : Nat} {M : List ((Int × Int) × Value)} (h : MapN w b M) (x : Int × Int) : (Instr.lookup 136 (.map (some b)) (nkV x) false).run Try.prog w = .ok ((lookM M x).getD .nilIface) w := by
  obtain ⟨es, c, hb, hp⟩ := h
  have hgo := MapKept.run_getObj_map (P := Try.prog) hb
  have hck := check_n w x es.isEmpty
  have hz : (zeroValue 147).run Try.prog w = .ok .nilIface w := by kernel_rfl
  rcases find_key w x es.toList M hp with ⟨h1, h2⟩ | ⟨j, v, h1, h2⟩
  · simp [Instr.lookup, run_underlying Try.underlying136, hgo, hck, h2, hz, h1]
  · simp [Instr.lookup, run_underlying Try.underlying136, hgo, hck, h2, h1]
theorem run_putN {w : World} {b : Nat} {M : List ((Int × Int) × Value)} (h : MapN w b M) (x : Int × Int) (hx : lookM M x = none) (v : Value) :
    ∃ w', (Instr.mapUpdate 136 (.map (some b)) (nkV x) v).run Try.prog w = .ok () w' ∧ MapN w' b (M ++ [(x, v)]) ∧ Keep (fun k => k = b) w w' := by
  obtain ⟨es, c, hb, hp⟩ := h
  have hgo := MapKept.run_getObj_map (P := Try.prog) hb
  have hso := fun o => MapKept.run_setObj_map (P := Try.prog) o hb
  have hck := check_n w x false
  have hlt := (Array.getElem?_eq_some_iff.1 hb).1
  rcases find_key w x es.toList M hp with ⟨h1, h2⟩ | ⟨j, u, h1, h2⟩
  · refine ⟨{ w with heap := w.heap.setIfInBounds b (.map (es.push { key := nkV x, val := v, born := c }) (c + 1)) }, ?_, ⟨es.push { key := nkV x, val := v, born := c }, c + 1, by simp [hlt], ?_⟩, ?_⟩
    · simp [Instr.mapUpdate, run_underlying Try.underlying136, hgo, hso, hck, h2]
    · unfold Pairs at hp ⊢
      rw [Array.toList_push, List.map_append, List.map_append, hp]
      rfl
    · exact ⟨rfl, rfl, rfl, by simp, fun k hk hn => by simp only [Array.getElem?_setIfInBounds]; rw [if_neg (fun e => hn e.symm)]⟩
  · rw [hx] at h1; cases h1
end Go.Proofs.Ytmohpjkbhpgidaa.A
