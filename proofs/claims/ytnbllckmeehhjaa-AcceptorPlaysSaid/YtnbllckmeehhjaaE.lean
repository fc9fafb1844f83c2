/-
  Commands and entries: equality, as arguments, rows of entries (printed by gen_e.py).
-/
import Derived.Test.YtnbllckmeehhjaaW
import Derived.Test.YtnbllckmeehhjaaS
import Derived.Laws.StructEq
namespace Go.Proofs.Ytnbllckmeehhjaa.U
open Go.RowKit
set_option linter.unusedVariables false
set_option linter.unusedSimpArgs false
set_option maxRecDepth 100000

abbrev I64 (n : Int) : Prop := -9223372036854775808 ≤ n ∧ n ≤ 9223372036854775807
structure Cmd where
  k : Int
  s : Int
  q : Int
  nm : ByteArray
  n : Int
abbrev Cmd.cs (c : Cmd) : Array Value := #[.int .i64 c.k, .int .i64 c.s, .int .i64 c.q, .string c.nm, .int .i64 c.n]
abbrev Cmd.val (c : Cmd) : Value := .agg c.cs
structure Ent where
  a : Int
  b : Int
  c : Cmd
abbrev Ent.cl (x : Ent) : List Value := [.int .i64 x.a, .int .i64 x.b, .int .i64 x.c.k, .int .i64 x.c.s, .int .i64 x.c.q, .string x.c.nm, .int .i64 x.c.n]
abbrev Ent.cs (x : Ent) : Array Value := #[.int .i64 x.a, .int .i64 x.b, .int .i64 x.c.k, .int .i64 x.c.s, .int .i64 x.c.q, .string x.c.nm, .int .i64 x.c.n]
abbrev Ent.val (x : Ent) : Value := .agg x.cs
def zeroC : Cmd := ⟨0, 0, 0, ByteArray.empty, 0⟩
def zeroE : Ent := ⟨0, 0, zeroC⟩
abbrev zcs : Array Value := #[.int .i64 0, .int .i64 0, .int .i64 0, .string ⟨#[]⟩, .int .i64 0]
abbrev zes : Array Value := #[.int .i64 0, .int .i64 0, .int .i64 0, .int .i64 0, .int .i64 0, .string ⟨#[]⟩, .int .i64 0]
theorem zcs_eq : zeroC.cs = zcs := rfl
theorem zes_eq : zeroE.cs = zes := rfl
structure In64 (c : Cmd) : Prop where
  k : I64 c.k
  s : I64 c.s
  q : I64 c.q
  n : I64 c.n
structure EIn64 (x : Ent) : Prop where
  a : I64 x.a
  b : I64 x.b
  c : In64 x.c
theorem toList_iff (s t : ByteArray) : (s.toList == t.toList) = decide (s = t) := by
  rw [ByteArray.toList_eq, ByteArray.toList_eq]
  by_cases h : s = t
  · subst h; simp
  · rw [decide_eq_false h, beq_eq_false_iff_ne]
    intro e
    exact h (ByteArray.ext (Array.ext' e))
def eqC (c d : Cmd) : Bool := decide (c.k = d.k ∧ c.s = d.s ∧ c.q = d.q ∧ c.nm = d.nm ∧ c.n = d.n)
theorem eqC_iff {c d : Cmd} : eqC c d = true ↔ c = d := by
  unfold eqC
  rw [decide_eq_true_iff]
  constructor
  · rintro ⟨a, b, e, f, g⟩
    cases c; cases d
    simp only at a b e f g
    subst a b e f g
    rfl
  · rintro rfl
    exact ⟨rfl, rfl, rfl, rfl, rfl⟩
theorem eqC_same (c : Cmd) : eqC c c = true := eqC_iff.2 rfl
def eqE (x y : Ent) : Bool := decide (x.a = y.a ∧ x.b = y.b) && eqC x.c y.c
theorem eqE_iff {x y : Ent} : eqE x y = true ↔ x = y := by
  unfold eqE
  rw [Bool.and_eq_true, decide_eq_true_iff, eqC_iff]
  constructor
  · rintro ⟨⟨a, b⟩, e⟩
    cases x; cases y
    simp only at a b e
    subst a b e
    rfl
  · rintro rfl
    exact ⟨⟨rfl, rfl⟩, rfl⟩
theorem eqE_same (x : Ent) : eqE x x = true := eqE_iff.2 rfl
theorem eqE_ne {x y : Ent} (h : x ≠ y) : eqE x y = false := by
  cases e : eqE x y
  · rfl
  · exact absurd (eqE_iff.1 e) h
theorem eqC_ne {x y : Cmd} (h : x ≠ y) : eqC x y = false := by
  cases e : eqC x y
  · rfl
  · exact absurd (eqC_iff.1 e) h
theorem equalC (w : World) (d : Nat) (c e : Cmd) : (Op.equalIn (d + 2) 35 (.agg c.cs) (.agg e.cs)).run Try.prog w = .ok (eqC c e) w := by
  have hu52 := Try.underlying35
  have hu3 := Try.underlying3
  have hu9 := Try.underlying9
  have hf : Try.prog.underlying 35 = some (.struct (Try.prog.fieldsOf 35)) := by kernel_rfl
  have hh : Try.prog.stoodInHeld 35 = false := by kernel_rfl
  unfold Cmd.cs
  rw [run_equalIn_agg w (d + 1) 35 _ _ hf hh]
  have hfl : (Try.prog.fieldsOf 35).toList = (match Try.prog.underlying 35 with | some (.struct fs) => fs.toList | _ => []) := by kernel_rfl
  rw [hfl, hu52]
  have p0 : ∀ (a b c d e : Value) (W : World), (part 3 #[a, b, c, d, e] 0).run Try.prog W = .ok a W := fun a b c d e W => by rfl
  have p1 : ∀ (a b c d e : Value) (W : World), (part 3 #[a, b, c, d, e] 1).run Try.prog W = .ok b W := fun a b c d e W => by rfl
  have p2 : ∀ (a b c d e : Value) (W : World), (part 3 #[a, b, c, d, e] 2).run Try.prog W = .ok c W := fun a b c d e W => by rfl
  have p3 : ∀ (a b c d e : Value) (W : World), (part 9 #[a, b, c, d, e] 3).run Try.prog W = .ok d W := fun a b c d e W => by rfl
  have p4 : ∀ (a b c d e : Value) (W : World), (part 3 #[a, b, c, d, e] 4).run Try.prog W = .ok e W := fun a b c d e W => by rfl
  have q3 := fun x y => run_equalIn_int (P := Try.prog) w d 3 .i64 .i64 x y hu3
  have q9 : ∀ s s' : ByteArray, (Op.equalIn (d + 1) 9 (.string s) (.string s')).run Try.prog w = .ok (decide (s = s')) w := fun s s' => by
    rw [← toList_iff]
    exact run_equalIn_string (P := Try.prog) w d 9 s s' hu9
  simp [Op.eqFields, p0, p1, p2, p3, p4, q3, q9, Result.andThen]
  unfold eqC
  by_cases h0 : c.k = e.k <;> by_cases h1 : c.s = e.s <;> by_cases h2 : c.q = e.q <;> by_cases h3 : c.nm = e.nm <;> by_cases h4 : c.n = e.n <;> simp [h0, h1, h2, h3, h4, p0, p1, p2, p3, p4, q3, q9, Result.andThen]
theorem eqlC (w : World) (c e : Cmd) : (binOp .eql 35 (.agg c.cs) (.agg e.cs)).run Try.prog w = .ok (.bool (eqC c e)) w := by
  rw [run_eql_struct, show (10000 : Nat) = 9998 + 2 from rfl, equalC]; rfl
theorem neqC (w : World) (c e : Cmd) : (binOp .neq 35 (.agg c.cs) (.agg e.cs)).run Try.prog w = .ok (.bool (!eqC c e)) w := by
  rw [run_neq_struct, show (10000 : Nat) = 9998 + 2 from rfl, equalC]; rfl
theorem equalE (w : World) (d : Nat) (x y : Ent) : (Op.equalIn (d + 3) 37 (.agg x.cs) (.agg y.cs)).run Try.prog w = .ok (eqE x y) w := by
  have hu54 := Try.underlying37
  have hu3 := Try.underlying3
  have hf : Try.prog.underlying 37 = some (.struct (Try.prog.fieldsOf 37)) := by kernel_rfl
  have hh : Try.prog.stoodInHeld 37 = false := by kernel_rfl
  unfold Ent.cs
  rw [run_equalIn_agg w (d + 2) 37 _ _ hf hh]
  have hfl : (Try.prog.fieldsOf 37).toList = (match Try.prog.underlying 37 with | some (.struct fs) => fs.toList | _ => []) := by kernel_rfl
  rw [hfl, hu54]
  have p0 : ∀ (a b c d e f g : Value) (W : World), (part 3 #[a, b, c, d, e, f, g] 0).run Try.prog W = .ok a W := fun a b c d e f g W => by rfl
  have p1 : ∀ (a b c d e f g : Value) (W : World), (part 3 #[a, b, c, d, e, f, g] 1).run Try.prog W = .ok b W := fun a b c d e f g W => by rfl
  have p2 : ∀ (a b c d e f g : Value) (W : World), (part 35 #[a, b, c, d, e, f, g] 2).run Try.prog W = .ok (.agg #[c, d, e, f, g]) W := fun a b c d e f g W => by rfl
  have q3 := fun x y => run_equalIn_int (P := Try.prog) w (d + 1) 3 .i64 .i64 x y hu3
  have q52 := equalC w d x.c y.c
  unfold Cmd.cs at q52
  simp [Op.eqFields, p0, p1, p2, q3, q52, Result.andThen]
  unfold eqE
  generalize eqC x.c y.c = r at *
  by_cases h0 : x.a = y.a <;> by_cases h1 : x.b = y.b <;> simp [h0, h1, p0, p1, p2, q3, q52, Result.andThen]
  cases r <;> rfl
theorem eqlE (w : World) (x y : Ent) : (binOp .eql 37 (.agg x.cs) (.agg y.cs)).run Try.prog w = .ok (.bool (eqE x y)) w := by
  rw [run_eql_struct, show (10000 : Nat) = 9997 + 3 from rfl, equalE]; rfl
theorem neqE (w : World) (x y : Ent) : (binOp .neq 37 (.agg x.cs) (.agg y.cs)).run Try.prog w = .ok (.bool (!eqE x y)) w := by
  rw [run_neq_struct, show (10000 : Nat) = 9997 + 3 from rfl, equalE]; rfl
/-! ### As arguments -/
theorem cellsC : Try.prog.cellsOf 35 = 5 := by kernel_rfl
theorem cellsE : Try.prog.cellsOf 37 = 7 := by kernel_rfl
theorem cellsI : Try.prog.cellsOf 3 = 1 := by kernel_rfl
theorem cellsS : Try.prog.cellsOf 9 = 1 := by kernel_rfl
theorem bytesE : Try.prog.bytesOf 37 = 64 := by kernel_rfl
theorem cmd_cells {H : Type} {enc : TypeId × Value → H} {W : World} {b0 n : Nat} {cs : List Value} {y : DataW H × List MemPlace} (ht : DataW.trod enc Try.prog W b0 (fun _ => true) true n 35 cs = some y) (hlt : ∀ p ∈ y.2, p.block < W.heap.size) (hw : R.Light 35 y.1) :
    ∃ c : Cmd, cs = c.cs.toList ∧ In64 c ∧ c.nm.size ≤ 140737488351232 := by
  obtain ⟨hcl, m, hf⟩ := R.parts Try.underlying35 ht hlt hw
  rw [cellsC] at hcl
  obtain ⟨y0, k0, _⟩ := hf 0 3 0 rfl
  obtain ⟨y1, k1, _⟩ := hf 1 3 1 rfl
  obtain ⟨y2, k2, _⟩ := hf 2 3 2 rfl
  obtain ⟨y3, k3, _, l3⟩ := hf 3 9 3 rfl
  obtain ⟨y4, k4, _⟩ := hf 4 3 4 rfl
  obtain ⟨v0, g0, k0⟩ := R.part1 cellsI (by omega) k0
  obtain ⟨v1, g1, k1⟩ := R.part1 cellsI (by omega) k1
  obtain ⟨v2, g2, k2⟩ := R.part1 cellsI (by omega) k2
  obtain ⟨v3, g3, k3⟩ := R.part1 cellsS (by omega) k3
  obtain ⟨v4, g4, k4⟩ := R.part1 cellsI (by omega) k4
  obtain ⟨n0, rfl, w0⟩ := R.cell_int Try.underlying3 k0
  obtain ⟨n1, rfl, w1⟩ := R.cell_int Try.underlying3 k1
  obtain ⟨n2, rfl, w2⟩ := R.cell_int Try.underlying3 k2
  obtain ⟨s, rfl, hs⟩ := R.cell_string Try.underlying9 k3 l3
  obtain ⟨n4, rfl, w4⟩ := R.cell_int Try.underlying3 k4
  exact ⟨⟨n0, n1, n2, s, n4⟩, R.list5 hcl g0 g1 g2 g3 g4, ⟨w0, w1, w2, w4⟩, hs⟩
theorem ent_cells {H : Type} {enc : TypeId × Value → H} {W : World} {b0 n : Nat} {cs : List Value} {y : DataW H × List MemPlace} (ht : DataW.trod enc Try.prog W b0 (fun _ => true) true n 37 cs = some y) (hlt : ∀ p ∈ y.2, p.block < W.heap.size) (hw : R.Light 37 y.1) :
    ∃ x : Ent, cs = x.cl ∧ EIn64 x ∧ x.c.nm.size ≤ 140737488351232 := by
  obtain ⟨hcl, m, hf⟩ := R.parts Try.underlying37 ht hlt hw
  rw [cellsE] at hcl
  obtain ⟨y0, k0, _⟩ := hf 0 3 0 rfl
  obtain ⟨y1, k1, _⟩ := hf 1 3 1 rfl
  obtain ⟨y2, k2, p2, l2⟩ := hf 2 35 2 rfl
  obtain ⟨v0, g0, k0⟩ := R.part1 cellsI (by omega) k0
  obtain ⟨v1, g1, k1⟩ := R.part1 cellsI (by omega) k1
  rw [cellsC] at k2
  obtain ⟨n0, rfl, w0⟩ := R.cell_int Try.underlying3 k0
  obtain ⟨n1, rfl, w1⟩ := R.cell_int Try.underlying3 k1
  obtain ⟨c, hc, c64, hn⟩ := cmd_cells k2 p2 l2
  refine ⟨⟨n0, n1, c⟩, ?_, ⟨w0, w1, c64⟩, hn⟩
  have e : cs = cs.take 2 ++ (cs.drop 2).take 5 := by
    rw [List.take_of_length_le (l := cs.drop 2) (by rw [List.length_drop]; omega), List.take_append_drop]
  rw [hc] at e
  rw [e]
  have e2 : cs.take 2 = [.int .i64 n0, .int .i64 n1] := by
    match cs, hcl, g0, g1 with
    | a :: b :: r, _, g0, g1 =>
      simp at g0 g1
      subst g0 g1
      rfl
  rw [e2]
  rfl
/-! ### Rows of entries -/
theorem EE : Elem Try.prog 22 37 7 64 zeroE.val := ⟨Try.underlying22, by kernel_rfl, by rfl, by decide⟩
def ents (L : List Ent) : List Value := L.flatMap Ent.cl
theorem ents_app (L M : List Ent) : ents (L ++ M) = ents L ++ ents M := by simp [ents]
theorem ents_nil : ents [] = [] := rfl
theorem ents_cons (x : Ent) (L : List Ent) : ents (x :: L) = x.cl ++ ents L := rfl
theorem ents_one1 (x : Ent) : ents [x] = x.cl := by simp [ents]
theorem ents_len (L : List Ent) : (ents L).length = L.length * 7 := by
  induction L with
  | nil => rfl
  | cons x L ih => rw [ents_cons, List.length_append, ih, List.length_cons]; simp only [List.length_cons, List.length_nil]; omega
theorem ents_one (L : List Ent) : ∀ u ∈ ents L, u.oneCell' = true := by
  intro u hu
  obtain ⟨x, _, h⟩ := List.mem_flatMap.1 hu
  simp only [Ent.cl, List.mem_cons, List.not_mem_nil, or_false] at h
  rcases h with rfl | rfl | rfl | rfl | rfl | rfl | rfl <;> rfl
theorem ents_drop (L : List Ent) : ∀ k, (ents L).drop (k * 7) = ents (L.drop k) := by
  induction L with
  | nil => intro k; simp [ents]
  | cons x L ih =>
    intro k
    cases k with
    | zero => simp
    | succ k => rw [ents_cons, List.drop_succ_cons, ← ih k, List.drop_append, List.drop_eq_nil_of_le (by simp; omega), List.nil_append]; congr 1; simp only [List.length_cons, List.length_nil]; omega
theorem ents_take (L : List Ent) : ∀ k, (ents L).take (k * 7) = ents (L.take k) := by
  induction L with
  | nil => intro k; simp [ents]
  | cons x L ih =>
    intro k
    cases k with
    | zero => simp [ents]
    | succ k => rw [ents_cons, List.take_succ_cons, ents_cons, ← ih k, List.take_append, List.take_of_length_le (by simp; omega)]; congr 2; simp only [List.length_cons, List.length_nil]; omega
theorem ents_get {L : List Ent} {k : Nat} {x : Ent} (h : L[k]? = some x) (j : Nat) (hj : j < 7) : (ents L)[k * 7 + j]? = x.cl[j]? := by
  obtain ⟨hk, he⟩ := List.getElem?_eq_some_iff.1 h
  rw [← List.getElem?_drop, ents_drop, List.drop_eq_getElem_cons hk, he, ents_cons, List.getElem?_append_left (by simp; omega)]
theorem src_len {w : World} {A : Option Addr} {L : List Ent} {n : Nat} (h : Src w A 7 n (ents L)) : L.length = n := by
  have := h.1
  rw [ents_len] at this
  omega
theorem row_len {w : World} {v : Value} {L : List Ent} {n : Nat} (h : Row w 37 7 v n (ents L)) : L.length = n := by
  have := h.1
  rw [ents_len] at this
  omega
/-- The cells of an entry, from an address on. -/
def EntAt (w : World) (p : Addr) (x : Ent) : Prop :=
  w.cell? p = some (.int .i64 x.a) ∧ w.cell? ⟨p.block, p.off + 1, none⟩ = some (.int .i64 x.b) ∧ w.cell? ⟨p.block, p.off + 2, none⟩ = some (.int .i64 x.c.k) ∧ w.cell? ⟨p.block, p.off + 3, none⟩ = some (.int .i64 x.c.s) ∧
  w.cell? ⟨p.block, p.off + 4, none⟩ = some (.int .i64 x.c.q) ∧ w.cell? ⟨p.block, p.off + 5, none⟩ = some (.string x.c.nm) ∧ w.cell? ⟨p.block, p.off + 6, none⟩ = some (.int .i64 x.c.n)
theorem entAt_of {w : World} {ad : Addr} {m : Nat} {x : Ent} (h : ∀ j u, x.cl[j]? = some u → w.cell? (ad.add (m + j)) = some u) : EntAt w (ad.add m) x := by
  have g : ∀ j u, 0 < j → x.cl[j]? = some u → w.cell? ⟨(ad.add m).block, (ad.add m).off + j, none⟩ = some u := fun j u hj hu => by
    rw [← addLater ad m j hj]; exact h j u hu
  exact ⟨h 0 _ rfl, g 1 _ (by omega) rfl, g 2 _ (by omega) rfl, g 3 _ (by omega) rfl, g 4 _ (by omega) rfl, g 5 _ (by omega) rfl, g 6 _ (by omega) rfl⟩
theorem ent_at {w : World} {A : Option Addr} {L : List Ent} {n k : Nat} (h : Src w A 7 n (ents L)) (hk : k < n) : ∃ (ad : Addr) (x : Ent), A = some ad ∧ L[k]? = some x ∧ EntAt w (ad.add (k * 7)) x := by
  have hl := src_len h
  obtain ⟨ad, rfl, hc⟩ := h.2 (by omega)
  have hx : L[k]? = some (L[k]'(by omega)) := List.getElem?_eq_getElem (by omega)
  refine ⟨ad, _, rfl, hx, entAt_of fun j u hu => hc _ _ ?_⟩
  have hj : j < 7 := (List.getElem?_eq_some_iff.1 hu).1
  rw [ents_get hx j hj]
  exact hu
theorem EntAt.keep {w w' : World} {p : Addr} {x : Ent} {S : Nat → Prop} (h : EntAt w p x) (hk : Keep S w w') (hn : ¬ S p.block) : EntAt w' p x := by
  obtain ⟨h0, h1, h2, h3, h4, h5, h6⟩ := h
  exact ⟨hk.cell h0 hn, hk.cell h1 hn, hk.cell h2 hn, hk.cell h3 hn, hk.cell h4 hn, hk.cell h5 hn, hk.cell h6 hn⟩
theorem entAt_new (w : World) (x : Ent) : EntAt (w.alloc (.cells x.cs 37)) ⟨w.heap.size, 0, none⟩ x := by
  have B := Blk.fresh w 37 x.cs
  have e : ∀ j, (⟨w.heap.size, 0 + j, none⟩ : Addr) = ⟨w.heap.size, j, none⟩ := fun j => by rw [Nat.zero_add]
  unfold EntAt
  simp only [Nat.zero_add]
  exact ⟨B.cell 0, B.cell 1, B.cell 2, B.cell 3, B.cell 4, B.cell 5, B.cell 6⟩
theorem entAt_blk {w : World} {g : Nat} {x : Ent} (B : Blk w g 37 x.cs) : EntAt w ⟨g, 0, none⟩ x := by
  unfold EntAt
  simp only [Nat.zero_add]
  exact ⟨B.cell 0, B.cell 1, B.cell 2, B.cell 3, B.cell 4, B.cell 5, B.cell 6⟩
/-- The seven stores of an entry. -/
def putE (w : World) (p : Addr) (x : Ent) : World := (((((((w.setCell p (.int .i64 x.a)).setCell ⟨p.block, p.off + 1, none⟩ (.int .i64 x.b)).setCell ⟨p.block, p.off + 2, none⟩ (.int .i64 x.c.k)).setCell ⟨p.block, p.off + 3, none⟩ (.int .i64 x.c.s)).setCell ⟨p.block, p.off + 4, none⟩ (.int .i64 x.c.q)).setCell ⟨p.block, p.off + 5, none⟩ (.string x.c.nm)).setCell ⟨p.block, p.off + 6, none⟩ (.int .i64 x.c.n))
/-- What the walk asks for at each of the seven stores. -/
def PutOk (w : World) (p : Addr) (x : Ent) : Prop :=
  (∃ u, w.cell? p = some u) ∧ w.frozen? p = false ∧ (∃ u, (w.setCell p (.int .i64 x.a)).cell? ⟨p.block, p.off + 1, none⟩ = some u) ∧ (w.setCell p (.int .i64 x.a)).frozen? ⟨p.block, p.off + 1, none⟩ = false ∧ (∃ u, ((w.setCell p (.int .i64 x.a)).setCell ⟨p.block, p.off + 1, none⟩ (.int .i64 x.b)).cell? ⟨p.block, p.off + 2, none⟩ = some u) ∧ ((w.setCell p (.int .i64 x.a)).setCell ⟨p.block, p.off + 1, none⟩ (.int .i64 x.b)).frozen? ⟨p.block, p.off + 2, none⟩ = false ∧ (∃ u, (((w.setCell p (.int .i64 x.a)).setCell ⟨p.block, p.off + 1, none⟩ (.int .i64 x.b)).setCell ⟨p.block, p.off + 2, none⟩ (.int .i64 x.c.k)).cell? ⟨p.block, p.off + 3, none⟩ = some u) ∧ (((w.setCell p (.int .i64 x.a)).setCell ⟨p.block, p.off + 1, none⟩ (.int .i64 x.b)).setCell ⟨p.block, p.off + 2, none⟩ (.int .i64 x.c.k)).frozen? ⟨p.block, p.off + 3, none⟩ = false ∧ (∃ u, ((((w.setCell p (.int .i64 x.a)).setCell ⟨p.block, p.off + 1, none⟩ (.int .i64 x.b)).setCell ⟨p.block, p.off + 2, none⟩ (.int .i64 x.c.k)).setCell ⟨p.block, p.off + 3, none⟩ (.int .i64 x.c.s)).cell? ⟨p.block, p.off + 4, none⟩ = some u) ∧ ((((w.setCell p (.int .i64 x.a)).setCell ⟨p.block, p.off + 1, none⟩ (.int .i64 x.b)).setCell ⟨p.block, p.off + 2, none⟩ (.int .i64 x.c.k)).setCell ⟨p.block, p.off + 3, none⟩ (.int .i64 x.c.s)).frozen? ⟨p.block, p.off + 4, none⟩ = false ∧ (∃ u, (((((w.setCell p (.int .i64 x.a)).setCell ⟨p.block, p.off + 1, none⟩ (.int .i64 x.b)).setCell ⟨p.block, p.off + 2, none⟩ (.int .i64 x.c.k)).setCell ⟨p.block, p.off + 3, none⟩ (.int .i64 x.c.s)).setCell ⟨p.block, p.off + 4, none⟩ (.int .i64 x.c.q)).cell? ⟨p.block, p.off + 5, none⟩ = some u) ∧ (((((w.setCell p (.int .i64 x.a)).setCell ⟨p.block, p.off + 1, none⟩ (.int .i64 x.b)).setCell ⟨p.block, p.off + 2, none⟩ (.int .i64 x.c.k)).setCell ⟨p.block, p.off + 3, none⟩ (.int .i64 x.c.s)).setCell ⟨p.block, p.off + 4, none⟩ (.int .i64 x.c.q)).frozen? ⟨p.block, p.off + 5, none⟩ = false ∧ (∃ u, ((((((w.setCell p (.int .i64 x.a)).setCell ⟨p.block, p.off + 1, none⟩ (.int .i64 x.b)).setCell ⟨p.block, p.off + 2, none⟩ (.int .i64 x.c.k)).setCell ⟨p.block, p.off + 3, none⟩ (.int .i64 x.c.s)).setCell ⟨p.block, p.off + 4, none⟩ (.int .i64 x.c.q)).setCell ⟨p.block, p.off + 5, none⟩ (.string x.c.nm)).cell? ⟨p.block, p.off + 6, none⟩ = some u) ∧ ((((((w.setCell p (.int .i64 x.a)).setCell ⟨p.block, p.off + 1, none⟩ (.int .i64 x.b)).setCell ⟨p.block, p.off + 2, none⟩ (.int .i64 x.c.k)).setCell ⟨p.block, p.off + 3, none⟩ (.int .i64 x.c.s)).setCell ⟨p.block, p.off + 4, none⟩ (.int .i64 x.c.q)).setCell ⟨p.block, p.off + 5, none⟩ (.string x.c.nm)).frozen? ⟨p.block, p.off + 6, none⟩ = false
def setL : List Value → Nat → List Value → List Value
  | l, _, [] => l
  | l, o, x :: xs => setL (l.set o x) (o + 1) xs
theorem setL_eq : ∀ (xs l : List Value) (o : Nat), o + xs.length ≤ l.length → setL l o xs = l.take o ++ xs ++ l.drop (o + xs.length)
  | [], l, o, h => by simp [setL]
  | x :: xs, l, o, h => by
    have hl : o < l.length := by simp at h; omega
    have hs : l.set o x = l.take o ++ (x :: l.drop (o + 1)) := List.set_eq_take_append_cons_drop .. |>.trans (if_pos hl)
    have ht : (l.take o).length = o := by rw [List.length_take]; omega
    rw [setL, setL_eq xs (l.set o x) (o + 1) (by rw [List.length_set]; simp at h; omega), hs]
    rw [List.take_append, ht, show o + 1 - o = 1 by omega, List.take_of_length_le (l := l.take o) (by rw [ht]; omega), List.take_succ_cons, List.take_zero]
    rw [List.drop_append, ht, show List.drop (o + 1 + xs.length) (l.take o) = [] from List.drop_eq_nil_of_le (by rw [ht]; omega), List.nil_append, show o + 1 + xs.length - o = xs.length + 1 by omega, List.drop_succ_cons, List.drop_drop]
    rw [List.length_cons, show o + 1 + xs.length = o + (xs.length + 1) by omega]
    simp
theorem blk_putE {w : World} {g o : Nat} {t : TypeId} {cur : Array Value} (B : Blk w g t cur) (ho : o + 7 ≤ cur.size) (x : Ent) :
    PutOk w ⟨g, o, none⟩ x ∧ ∃ cur', Blk (putE w ⟨g, o, none⟩ x) g t cur' ∧ cur'.size = cur.size ∧ cur'.toList = cur.toList.take o ++ x.cl ++ cur.toList.drop (o + 7) ∧ Keep (fun i => i = g) w (putE w ⟨g, o, none⟩ x) := by
  have B0 := B.put (o) (.int .i64 x.a)
  have B1 := B0.put (o + 1) (.int .i64 x.b)
  have B2 := B1.put (o + 2) (.int .i64 x.c.k)
  have B3 := B2.put (o + 3) (.int .i64 x.c.s)
  have B4 := B3.put (o + 4) (.int .i64 x.c.q)
  have B5 := B4.put (o + 5) (.string x.c.nm)
  have B6 := B5.put (o + 6) (.int .i64 x.c.n)
  unfold PutOk putE
  refine ⟨⟨by rw [B.cell]; exact ⟨_, Array.getElem?_eq_getElem (by omega)⟩, B.free _, by rw [B0.cell]; exact ⟨_, Array.getElem?_eq_getElem (by simp only [Array.size_setIfInBounds]; omega)⟩, B0.free _, by rw [B1.cell]; exact ⟨_, Array.getElem?_eq_getElem (by simp only [Array.size_setIfInBounds]; omega)⟩, B1.free _, by rw [B2.cell]; exact ⟨_, Array.getElem?_eq_getElem (by simp only [Array.size_setIfInBounds]; omega)⟩, B2.free _, by rw [B3.cell]; exact ⟨_, Array.getElem?_eq_getElem (by simp only [Array.size_setIfInBounds]; omega)⟩, B3.free _, by rw [B4.cell]; exact ⟨_, Array.getElem?_eq_getElem (by simp only [Array.size_setIfInBounds]; omega)⟩, B4.free _, by rw [B5.cell]; exact ⟨_, Array.getElem?_eq_getElem (by simp only [Array.size_setIfInBounds]; omega)⟩, B5.free _⟩, _, B6, by simp only [Array.size_setIfInBounds], ?_, ?_⟩
  · simp only [Array.toList_setIfInBounds]
    exact setL_eq x.cl cur.toList o (by simp; omega)
  · exact ((((((((Keep.same (fun i => i = g) w).set (p := ⟨g, o, none⟩) (.inl rfl) (.int .i64 x.a)).set (p := ⟨g, o + 1, none⟩) (.inl rfl) (.int .i64 x.b)).set (p := ⟨g, o + 2, none⟩) (.inl rfl) (.int .i64 x.c.k)).set (p := ⟨g, o + 3, none⟩) (.inl rfl) (.int .i64 x.c.s)).set (p := ⟨g, o + 4, none⟩) (.inl rfl) (.int .i64 x.c.q)).set (p := ⟨g, o + 5, none⟩) (.inl rfl) (.string x.c.nm)).set (p := ⟨g, o + 6, none⟩) (.inl rfl) (.int .i64 x.c.n))
theorem cut_put (C xs : List Value) (o a m : Nat) (h : a + xs.length ≤ m) (hC : o + m ≤ C.length) : ((C.take (o + a) ++ xs ++ C.drop (o + a + xs.length)).drop o).take m = ((C.drop o).take m).take a ++ xs ++ ((C.drop o).take m).drop (a + xs.length) := by
  have e1 : C.take (o + a) = C.take o ++ (C.drop o).take a := List.take_add ..
  have e2 : C.drop (o + a + xs.length) = (C.drop o).drop (a + xs.length) := by rw [List.drop_drop, Nat.add_assoc]
  have l0 : (C.take o).length = o := by rw [List.length_take]; omega
  rw [e1, e2, List.append_assoc, List.append_assoc]
  have d0 : ∀ Y : List Value, (C.take o ++ Y).drop o = Y := fun Y => by
    have := List.drop_left (l₁ := C.take o) (l₂ := Y)
    rwa [l0] at this
  rw [d0]
  generalize hD : C.drop o = D
  have lD : m ≤ D.length := by rw [← hD, List.length_drop]; omega
  have l1 : (D.take a).length = a := by rw [List.length_take]; omega
  rw [← List.append_assoc, List.take_append, List.length_append, l1, List.take_of_length_le (l := D.take a ++ xs) (by rw [List.length_append, l1]; omega)]
  rw [List.take_take, Nat.min_eq_left (by omega), List.drop_take]
/-- An entry is put into a row. -/
theorem row_putE {w : World} {ad : Addr} {n c k : Nat} {L : List Ent} (h : Row w 37 7 (.slice (some ad) n c) n (ents L)) (hk : k < n) (x : Ent) :
    PutOk w (ad.add (k * 7)) x ∧ (Value.slice (some ad) n c).ownBlock = some (ad.add (k * 7)).block ∧ Row (putE w (ad.add (k * 7)) x) 37 7 (.slice (some ad) n c) n (ents (L.set k x)) ∧ Keep (fun i => i = (ad.add (k * 7)).block) w (putE w (ad.add (k * 7)) x) := by
  have hl := row_len h
  rcases h.2 with ⟨h0, _⟩ | ⟨g, o, cap, cur, hv, hb, h1, h2, h3, h4⟩
  · cases h0
  · injection hv with e1 _ e3
    injection e1 with e1
    subst e1 e3
    rw [addAt]
    have hkc : k * 7 + 7 ≤ c * 7 := by omega
    obtain ⟨hp, cur', hb', hs', hl', hk'⟩ := blk_putE hb (o := o + k * 7) (by omega) x
    refine ⟨hp, rfl, ⟨by rw [ents_len, List.length_set, hl], .inr ⟨g, o, c, cur', rfl, hb', h1, h2, by rw [hs']; exact h3, ?_⟩⟩, hk'⟩
    have hcl : cur.toList.length = cur.size := by simp
    have hl7 : x.cl.length = 7 := rfl
    have hkn : L[k]? = some (L[k]'(by omega)) := List.getElem?_eq_getElem (by omega)
    have e5 : L.set k x = L.take k ++ (x :: L.drop (k + 1)) := List.set_eq_take_append_cons_drop .. |>.trans (if_pos (by omega))
    rw [e5, ents_app, ents_cons, ← ents_take, ← ents_drop, ← h4, hl']
    have this := cut_put cur.toList x.cl o (k * 7) (n * 7) (by rw [hl7]; omega) (by rw [hcl]; omega)
    rw [hl7] at this
    rw [this, List.append_assoc, show (k + 1) * 7 = k * 7 + 7 by omega]
/-! ### Stores of a whole struct -/
theorem store5 {w : World} {g t : Nat} {c0 c1 c2 c3 c4 : Value} (B : Blk w g t #[c0, c1, c2, c3, c4]) (v0 v1 v2 v3 v4 : Value) :
    w.cell? ⟨g, 0, none⟩ = some c0 ∧
    w.frozen? ⟨g, 0, none⟩ = false ∧
    (w.setCell ⟨g, 0, none⟩ v0).cell? ⟨g, 1, none⟩ = some c1 ∧
    (w.setCell ⟨g, 0, none⟩ v0).frozen? ⟨g, 1, none⟩ = false ∧
    ((w.setCell ⟨g, 0, none⟩ v0).setCell ⟨g, 1, none⟩ v1).cell? ⟨g, 2, none⟩ = some c2 ∧
    ((w.setCell ⟨g, 0, none⟩ v0).setCell ⟨g, 1, none⟩ v1).frozen? ⟨g, 2, none⟩ = false ∧
    (((w.setCell ⟨g, 0, none⟩ v0).setCell ⟨g, 1, none⟩ v1).setCell ⟨g, 2, none⟩ v2).cell? ⟨g, 3, none⟩ = some c3 ∧
    (((w.setCell ⟨g, 0, none⟩ v0).setCell ⟨g, 1, none⟩ v1).setCell ⟨g, 2, none⟩ v2).frozen? ⟨g, 3, none⟩ = false ∧
    ((((w.setCell ⟨g, 0, none⟩ v0).setCell ⟨g, 1, none⟩ v1).setCell ⟨g, 2, none⟩ v2).setCell ⟨g, 3, none⟩ v3).cell? ⟨g, 4, none⟩ = some c4 ∧
    ((((w.setCell ⟨g, 0, none⟩ v0).setCell ⟨g, 1, none⟩ v1).setCell ⟨g, 2, none⟩ v2).setCell ⟨g, 3, none⟩ v3).frozen? ⟨g, 4, none⟩ = false ∧
    (((((w.setCell ⟨g, 0, none⟩ v0).setCell ⟨g, 1, none⟩ v1).setCell ⟨g, 2, none⟩ v2).setCell ⟨g, 3, none⟩ v3).setCell ⟨g, 4, none⟩ v4).cell? ⟨g, 0, none⟩ = some v0 ∧
    (((((w.setCell ⟨g, 0, none⟩ v0).setCell ⟨g, 1, none⟩ v1).setCell ⟨g, 2, none⟩ v2).setCell ⟨g, 3, none⟩ v3).setCell ⟨g, 4, none⟩ v4).cell? ⟨g, 1, none⟩ = some v1 ∧
    (((((w.setCell ⟨g, 0, none⟩ v0).setCell ⟨g, 1, none⟩ v1).setCell ⟨g, 2, none⟩ v2).setCell ⟨g, 3, none⟩ v3).setCell ⟨g, 4, none⟩ v4).cell? ⟨g, 2, none⟩ = some v2 ∧
    (((((w.setCell ⟨g, 0, none⟩ v0).setCell ⟨g, 1, none⟩ v1).setCell ⟨g, 2, none⟩ v2).setCell ⟨g, 3, none⟩ v3).setCell ⟨g, 4, none⟩ v4).cell? ⟨g, 3, none⟩ = some v3 ∧
    (((((w.setCell ⟨g, 0, none⟩ v0).setCell ⟨g, 1, none⟩ v1).setCell ⟨g, 2, none⟩ v2).setCell ⟨g, 3, none⟩ v3).setCell ⟨g, 4, none⟩ v4).cell? ⟨g, 4, none⟩ = some v4 ∧
    (w.setCell ⟨g, 0, none⟩ v0).cell? ⟨g, 0, none⟩ = some v0 ∧
    ((w.setCell ⟨g, 0, none⟩ v0).setCell ⟨g, 1, none⟩ v1).cell? ⟨g, 1, none⟩ = some v1 ∧
    (((w.setCell ⟨g, 0, none⟩ v0).setCell ⟨g, 1, none⟩ v1).setCell ⟨g, 2, none⟩ v2).cell? ⟨g, 2, none⟩ = some v2 ∧
    ((((w.setCell ⟨g, 0, none⟩ v0).setCell ⟨g, 1, none⟩ v1).setCell ⟨g, 2, none⟩ v2).setCell ⟨g, 3, none⟩ v3).cell? ⟨g, 3, none⟩ = some v3 := by
  have B0 := B
  have B1 : Blk (w.setCell ⟨g, 0, none⟩ v0) g t #[v0, c1, c2, c3, c4] := B0.put 0 v0
  have B2 : Blk ((w.setCell ⟨g, 0, none⟩ v0).setCell ⟨g, 1, none⟩ v1) g t #[v0, v1, c2, c3, c4] := B1.put 1 v1
  have B3 : Blk (((w.setCell ⟨g, 0, none⟩ v0).setCell ⟨g, 1, none⟩ v1).setCell ⟨g, 2, none⟩ v2) g t #[v0, v1, v2, c3, c4] := B2.put 2 v2
  have B4 : Blk ((((w.setCell ⟨g, 0, none⟩ v0).setCell ⟨g, 1, none⟩ v1).setCell ⟨g, 2, none⟩ v2).setCell ⟨g, 3, none⟩ v3) g t #[v0, v1, v2, v3, c4] := B3.put 3 v3
  have B5 : Blk (((((w.setCell ⟨g, 0, none⟩ v0).setCell ⟨g, 1, none⟩ v1).setCell ⟨g, 2, none⟩ v2).setCell ⟨g, 3, none⟩ v3).setCell ⟨g, 4, none⟩ v4) g t #[v0, v1, v2, v3, v4] := B4.put 4 v4
  exact ⟨B0.cell 0, B0.free 0, B1.cell 1, B1.free 1, B2.cell 2, B2.free 2, B3.cell 3, B3.free 3, B4.cell 4, B4.free 4, B5.cell 0, B5.cell 1, B5.cell 2, B5.cell 3, B5.cell 4, B1.cell 0, B2.cell 1, B3.cell 2, B4.cell 3⟩
theorem held5 {B : Nat} {w0 w : World} {Q : SP} {g t : Nat} {c0 c1 c2 c3 c4 : Value} (h : Holds B w0 w (star (blkP g t #[c0, c1, c2, c3, c4]) Q)) (hQ : Stable Q) (v0 v1 v2 v3 v4 : Value) : Holds B w0 (((((w.setCell ⟨g, 0, none⟩ v0).setCell ⟨g, 1, none⟩ v1).setCell ⟨g, 2, none⟩ v2).setCell ⟨g, 3, none⟩ v3).setCell ⟨g, 4, none⟩ v4) (star (blkP g t #[v0, v1, v2, v3, v4]) Q) := by
  have h0 := h
  have h1 : Holds B w0 (w.setCell ⟨g, 0, none⟩ v0) (star (blkP g t #[v0, c1, c2, c3, c4]) Q) := h0.setBlk hQ 0 v0
  have h2 : Holds B w0 ((w.setCell ⟨g, 0, none⟩ v0).setCell ⟨g, 1, none⟩ v1) (star (blkP g t #[v0, v1, c2, c3, c4]) Q) := h1.setBlk hQ 1 v1
  have h3 : Holds B w0 (((w.setCell ⟨g, 0, none⟩ v0).setCell ⟨g, 1, none⟩ v1).setCell ⟨g, 2, none⟩ v2) (star (blkP g t #[v0, v1, v2, c3, c4]) Q) := h2.setBlk hQ 2 v2
  have h4 : Holds B w0 ((((w.setCell ⟨g, 0, none⟩ v0).setCell ⟨g, 1, none⟩ v1).setCell ⟨g, 2, none⟩ v2).setCell ⟨g, 3, none⟩ v3) (star (blkP g t #[v0, v1, v2, v3, c4]) Q) := h3.setBlk hQ 3 v3
  have h5 : Holds B w0 (((((w.setCell ⟨g, 0, none⟩ v0).setCell ⟨g, 1, none⟩ v1).setCell ⟨g, 2, none⟩ v2).setCell ⟨g, 3, none⟩ v3).setCell ⟨g, 4, none⟩ v4) (star (blkP g t #[v0, v1, v2, v3, v4]) Q) := h4.setBlk hQ 4 v4
  exact h5
theorem blks5 {w : World} {g t : Nat} {c0 c1 c2 c3 c4 : Value} (B : Blk w g t #[c0, c1, c2, c3, c4]) (v0 v1 v2 v3 v4 : Value) : Blk (((((w.setCell ⟨g, 0, none⟩ v0).setCell ⟨g, 1, none⟩ v1).setCell ⟨g, 2, none⟩ v2).setCell ⟨g, 3, none⟩ v3).setCell ⟨g, 4, none⟩ v4) g t #[v0, v1, v2, v3, v4] ∧ Keep (fun i => i = g) w (((((w.setCell ⟨g, 0, none⟩ v0).setCell ⟨g, 1, none⟩ v1).setCell ⟨g, 2, none⟩ v2).setCell ⟨g, 3, none⟩ v3).setCell ⟨g, 4, none⟩ v4) := by
  have B0 := B
  have k0 := Keep.same (fun i => i = g) w
  have B1 : Blk (w.setCell ⟨g, 0, none⟩ v0) g t #[v0, c1, c2, c3, c4] := B0.put 0 v0
  have k1 : Keep (fun i => i = g) w (w.setCell ⟨g, 0, none⟩ v0) := k0.set (p := ⟨g, 0, none⟩) (.inl rfl) v0
  have B2 : Blk ((w.setCell ⟨g, 0, none⟩ v0).setCell ⟨g, 1, none⟩ v1) g t #[v0, v1, c2, c3, c4] := B1.put 1 v1
  have k2 : Keep (fun i => i = g) w ((w.setCell ⟨g, 0, none⟩ v0).setCell ⟨g, 1, none⟩ v1) := k1.set (p := ⟨g, 1, none⟩) (.inl rfl) v1
  have B3 : Blk (((w.setCell ⟨g, 0, none⟩ v0).setCell ⟨g, 1, none⟩ v1).setCell ⟨g, 2, none⟩ v2) g t #[v0, v1, v2, c3, c4] := B2.put 2 v2
  have k3 : Keep (fun i => i = g) w (((w.setCell ⟨g, 0, none⟩ v0).setCell ⟨g, 1, none⟩ v1).setCell ⟨g, 2, none⟩ v2) := k2.set (p := ⟨g, 2, none⟩) (.inl rfl) v2
  have B4 : Blk ((((w.setCell ⟨g, 0, none⟩ v0).setCell ⟨g, 1, none⟩ v1).setCell ⟨g, 2, none⟩ v2).setCell ⟨g, 3, none⟩ v3) g t #[v0, v1, v2, v3, c4] := B3.put 3 v3
  have k4 : Keep (fun i => i = g) w ((((w.setCell ⟨g, 0, none⟩ v0).setCell ⟨g, 1, none⟩ v1).setCell ⟨g, 2, none⟩ v2).setCell ⟨g, 3, none⟩ v3) := k3.set (p := ⟨g, 3, none⟩) (.inl rfl) v3
  have B5 : Blk (((((w.setCell ⟨g, 0, none⟩ v0).setCell ⟨g, 1, none⟩ v1).setCell ⟨g, 2, none⟩ v2).setCell ⟨g, 3, none⟩ v3).setCell ⟨g, 4, none⟩ v4) g t #[v0, v1, v2, v3, v4] := B4.put 4 v4
  have k5 : Keep (fun i => i = g) w (((((w.setCell ⟨g, 0, none⟩ v0).setCell ⟨g, 1, none⟩ v1).setCell ⟨g, 2, none⟩ v2).setCell ⟨g, 3, none⟩ v3).setCell ⟨g, 4, none⟩ v4) := k4.set (p := ⟨g, 4, none⟩) (.inl rfl) v4
  exact ⟨B5, k5⟩
theorem store7 {w : World} {g t : Nat} {c0 c1 c2 c3 c4 c5 c6 : Value} (B : Blk w g t #[c0, c1, c2, c3, c4, c5, c6]) (v0 v1 v2 v3 v4 v5 v6 : Value) :
    w.cell? ⟨g, 0, none⟩ = some c0 ∧
    w.frozen? ⟨g, 0, none⟩ = false ∧
    (w.setCell ⟨g, 0, none⟩ v0).cell? ⟨g, 1, none⟩ = some c1 ∧
    (w.setCell ⟨g, 0, none⟩ v0).frozen? ⟨g, 1, none⟩ = false ∧
    ((w.setCell ⟨g, 0, none⟩ v0).setCell ⟨g, 1, none⟩ v1).cell? ⟨g, 2, none⟩ = some c2 ∧
    ((w.setCell ⟨g, 0, none⟩ v0).setCell ⟨g, 1, none⟩ v1).frozen? ⟨g, 2, none⟩ = false ∧
    (((w.setCell ⟨g, 0, none⟩ v0).setCell ⟨g, 1, none⟩ v1).setCell ⟨g, 2, none⟩ v2).cell? ⟨g, 3, none⟩ = some c3 ∧
    (((w.setCell ⟨g, 0, none⟩ v0).setCell ⟨g, 1, none⟩ v1).setCell ⟨g, 2, none⟩ v2).frozen? ⟨g, 3, none⟩ = false ∧
    ((((w.setCell ⟨g, 0, none⟩ v0).setCell ⟨g, 1, none⟩ v1).setCell ⟨g, 2, none⟩ v2).setCell ⟨g, 3, none⟩ v3).cell? ⟨g, 4, none⟩ = some c4 ∧
    ((((w.setCell ⟨g, 0, none⟩ v0).setCell ⟨g, 1, none⟩ v1).setCell ⟨g, 2, none⟩ v2).setCell ⟨g, 3, none⟩ v3).frozen? ⟨g, 4, none⟩ = false ∧
    (((((w.setCell ⟨g, 0, none⟩ v0).setCell ⟨g, 1, none⟩ v1).setCell ⟨g, 2, none⟩ v2).setCell ⟨g, 3, none⟩ v3).setCell ⟨g, 4, none⟩ v4).cell? ⟨g, 5, none⟩ = some c5 ∧
    (((((w.setCell ⟨g, 0, none⟩ v0).setCell ⟨g, 1, none⟩ v1).setCell ⟨g, 2, none⟩ v2).setCell ⟨g, 3, none⟩ v3).setCell ⟨g, 4, none⟩ v4).frozen? ⟨g, 5, none⟩ = false ∧
    ((((((w.setCell ⟨g, 0, none⟩ v0).setCell ⟨g, 1, none⟩ v1).setCell ⟨g, 2, none⟩ v2).setCell ⟨g, 3, none⟩ v3).setCell ⟨g, 4, none⟩ v4).setCell ⟨g, 5, none⟩ v5).cell? ⟨g, 6, none⟩ = some c6 ∧
    ((((((w.setCell ⟨g, 0, none⟩ v0).setCell ⟨g, 1, none⟩ v1).setCell ⟨g, 2, none⟩ v2).setCell ⟨g, 3, none⟩ v3).setCell ⟨g, 4, none⟩ v4).setCell ⟨g, 5, none⟩ v5).frozen? ⟨g, 6, none⟩ = false ∧
    (((((((w.setCell ⟨g, 0, none⟩ v0).setCell ⟨g, 1, none⟩ v1).setCell ⟨g, 2, none⟩ v2).setCell ⟨g, 3, none⟩ v3).setCell ⟨g, 4, none⟩ v4).setCell ⟨g, 5, none⟩ v5).setCell ⟨g, 6, none⟩ v6).cell? ⟨g, 0, none⟩ = some v0 ∧
    (((((((w.setCell ⟨g, 0, none⟩ v0).setCell ⟨g, 1, none⟩ v1).setCell ⟨g, 2, none⟩ v2).setCell ⟨g, 3, none⟩ v3).setCell ⟨g, 4, none⟩ v4).setCell ⟨g, 5, none⟩ v5).setCell ⟨g, 6, none⟩ v6).cell? ⟨g, 1, none⟩ = some v1 ∧
    (((((((w.setCell ⟨g, 0, none⟩ v0).setCell ⟨g, 1, none⟩ v1).setCell ⟨g, 2, none⟩ v2).setCell ⟨g, 3, none⟩ v3).setCell ⟨g, 4, none⟩ v4).setCell ⟨g, 5, none⟩ v5).setCell ⟨g, 6, none⟩ v6).cell? ⟨g, 2, none⟩ = some v2 ∧
    (((((((w.setCell ⟨g, 0, none⟩ v0).setCell ⟨g, 1, none⟩ v1).setCell ⟨g, 2, none⟩ v2).setCell ⟨g, 3, none⟩ v3).setCell ⟨g, 4, none⟩ v4).setCell ⟨g, 5, none⟩ v5).setCell ⟨g, 6, none⟩ v6).cell? ⟨g, 3, none⟩ = some v3 ∧
    (((((((w.setCell ⟨g, 0, none⟩ v0).setCell ⟨g, 1, none⟩ v1).setCell ⟨g, 2, none⟩ v2).setCell ⟨g, 3, none⟩ v3).setCell ⟨g, 4, none⟩ v4).setCell ⟨g, 5, none⟩ v5).setCell ⟨g, 6, none⟩ v6).cell? ⟨g, 4, none⟩ = some v4 ∧
    (((((((w.setCell ⟨g, 0, none⟩ v0).setCell ⟨g, 1, none⟩ v1).setCell ⟨g, 2, none⟩ v2).setCell ⟨g, 3, none⟩ v3).setCell ⟨g, 4, none⟩ v4).setCell ⟨g, 5, none⟩ v5).setCell ⟨g, 6, none⟩ v6).cell? ⟨g, 5, none⟩ = some v5 ∧
    (((((((w.setCell ⟨g, 0, none⟩ v0).setCell ⟨g, 1, none⟩ v1).setCell ⟨g, 2, none⟩ v2).setCell ⟨g, 3, none⟩ v3).setCell ⟨g, 4, none⟩ v4).setCell ⟨g, 5, none⟩ v5).setCell ⟨g, 6, none⟩ v6).cell? ⟨g, 6, none⟩ = some v6 ∧
    (w.setCell ⟨g, 0, none⟩ v0).cell? ⟨g, 0, none⟩ = some v0 ∧
    ((w.setCell ⟨g, 0, none⟩ v0).setCell ⟨g, 1, none⟩ v1).cell? ⟨g, 1, none⟩ = some v1 ∧
    (((w.setCell ⟨g, 0, none⟩ v0).setCell ⟨g, 1, none⟩ v1).setCell ⟨g, 2, none⟩ v2).cell? ⟨g, 2, none⟩ = some v2 ∧
    ((((w.setCell ⟨g, 0, none⟩ v0).setCell ⟨g, 1, none⟩ v1).setCell ⟨g, 2, none⟩ v2).setCell ⟨g, 3, none⟩ v3).cell? ⟨g, 3, none⟩ = some v3 ∧
    (((((w.setCell ⟨g, 0, none⟩ v0).setCell ⟨g, 1, none⟩ v1).setCell ⟨g, 2, none⟩ v2).setCell ⟨g, 3, none⟩ v3).setCell ⟨g, 4, none⟩ v4).cell? ⟨g, 4, none⟩ = some v4 ∧
    ((((((w.setCell ⟨g, 0, none⟩ v0).setCell ⟨g, 1, none⟩ v1).setCell ⟨g, 2, none⟩ v2).setCell ⟨g, 3, none⟩ v3).setCell ⟨g, 4, none⟩ v4).setCell ⟨g, 5, none⟩ v5).cell? ⟨g, 5, none⟩ = some v5 := by
  have B0 := B
  have B1 : Blk (w.setCell ⟨g, 0, none⟩ v0) g t #[v0, c1, c2, c3, c4, c5, c6] := B0.put 0 v0
  have B2 : Blk ((w.setCell ⟨g, 0, none⟩ v0).setCell ⟨g, 1, none⟩ v1) g t #[v0, v1, c2, c3, c4, c5, c6] := B1.put 1 v1
  have B3 : Blk (((w.setCell ⟨g, 0, none⟩ v0).setCell ⟨g, 1, none⟩ v1).setCell ⟨g, 2, none⟩ v2) g t #[v0, v1, v2, c3, c4, c5, c6] := B2.put 2 v2
  have B4 : Blk ((((w.setCell ⟨g, 0, none⟩ v0).setCell ⟨g, 1, none⟩ v1).setCell ⟨g, 2, none⟩ v2).setCell ⟨g, 3, none⟩ v3) g t #[v0, v1, v2, v3, c4, c5, c6] := B3.put 3 v3
  have B5 : Blk (((((w.setCell ⟨g, 0, none⟩ v0).setCell ⟨g, 1, none⟩ v1).setCell ⟨g, 2, none⟩ v2).setCell ⟨g, 3, none⟩ v3).setCell ⟨g, 4, none⟩ v4) g t #[v0, v1, v2, v3, v4, c5, c6] := B4.put 4 v4
  have B6 : Blk ((((((w.setCell ⟨g, 0, none⟩ v0).setCell ⟨g, 1, none⟩ v1).setCell ⟨g, 2, none⟩ v2).setCell ⟨g, 3, none⟩ v3).setCell ⟨g, 4, none⟩ v4).setCell ⟨g, 5, none⟩ v5) g t #[v0, v1, v2, v3, v4, v5, c6] := B5.put 5 v5
  have B7 : Blk (((((((w.setCell ⟨g, 0, none⟩ v0).setCell ⟨g, 1, none⟩ v1).setCell ⟨g, 2, none⟩ v2).setCell ⟨g, 3, none⟩ v3).setCell ⟨g, 4, none⟩ v4).setCell ⟨g, 5, none⟩ v5).setCell ⟨g, 6, none⟩ v6) g t #[v0, v1, v2, v3, v4, v5, v6] := B6.put 6 v6
  exact ⟨B0.cell 0, B0.free 0, B1.cell 1, B1.free 1, B2.cell 2, B2.free 2, B3.cell 3, B3.free 3, B4.cell 4, B4.free 4, B5.cell 5, B5.free 5, B6.cell 6, B6.free 6, B7.cell 0, B7.cell 1, B7.cell 2, B7.cell 3, B7.cell 4, B7.cell 5, B7.cell 6, B1.cell 0, B2.cell 1, B3.cell 2, B4.cell 3, B5.cell 4, B6.cell 5⟩
theorem held7 {B : Nat} {w0 w : World} {Q : SP} {g t : Nat} {c0 c1 c2 c3 c4 c5 c6 : Value} (h : Holds B w0 w (star (blkP g t #[c0, c1, c2, c3, c4, c5, c6]) Q)) (hQ : Stable Q) (v0 v1 v2 v3 v4 v5 v6 : Value) : Holds B w0 (((((((w.setCell ⟨g, 0, none⟩ v0).setCell ⟨g, 1, none⟩ v1).setCell ⟨g, 2, none⟩ v2).setCell ⟨g, 3, none⟩ v3).setCell ⟨g, 4, none⟩ v4).setCell ⟨g, 5, none⟩ v5).setCell ⟨g, 6, none⟩ v6) (star (blkP g t #[v0, v1, v2, v3, v4, v5, v6]) Q) := by
  have h0 := h
  have h1 : Holds B w0 (w.setCell ⟨g, 0, none⟩ v0) (star (blkP g t #[v0, c1, c2, c3, c4, c5, c6]) Q) := h0.setBlk hQ 0 v0
  have h2 : Holds B w0 ((w.setCell ⟨g, 0, none⟩ v0).setCell ⟨g, 1, none⟩ v1) (star (blkP g t #[v0, v1, c2, c3, c4, c5, c6]) Q) := h1.setBlk hQ 1 v1
  have h3 : Holds B w0 (((w.setCell ⟨g, 0, none⟩ v0).setCell ⟨g, 1, none⟩ v1).setCell ⟨g, 2, none⟩ v2) (star (blkP g t #[v0, v1, v2, c3, c4, c5, c6]) Q) := h2.setBlk hQ 2 v2
  have h4 : Holds B w0 ((((w.setCell ⟨g, 0, none⟩ v0).setCell ⟨g, 1, none⟩ v1).setCell ⟨g, 2, none⟩ v2).setCell ⟨g, 3, none⟩ v3) (star (blkP g t #[v0, v1, v2, v3, c4, c5, c6]) Q) := h3.setBlk hQ 3 v3
  have h5 : Holds B w0 (((((w.setCell ⟨g, 0, none⟩ v0).setCell ⟨g, 1, none⟩ v1).setCell ⟨g, 2, none⟩ v2).setCell ⟨g, 3, none⟩ v3).setCell ⟨g, 4, none⟩ v4) (star (blkP g t #[v0, v1, v2, v3, v4, c5, c6]) Q) := h4.setBlk hQ 4 v4
  have h6 : Holds B w0 ((((((w.setCell ⟨g, 0, none⟩ v0).setCell ⟨g, 1, none⟩ v1).setCell ⟨g, 2, none⟩ v2).setCell ⟨g, 3, none⟩ v3).setCell ⟨g, 4, none⟩ v4).setCell ⟨g, 5, none⟩ v5) (star (blkP g t #[v0, v1, v2, v3, v4, v5, c6]) Q) := h5.setBlk hQ 5 v5
  have h7 : Holds B w0 (((((((w.setCell ⟨g, 0, none⟩ v0).setCell ⟨g, 1, none⟩ v1).setCell ⟨g, 2, none⟩ v2).setCell ⟨g, 3, none⟩ v3).setCell ⟨g, 4, none⟩ v4).setCell ⟨g, 5, none⟩ v5).setCell ⟨g, 6, none⟩ v6) (star (blkP g t #[v0, v1, v2, v3, v4, v5, v6]) Q) := h6.setBlk hQ 6 v6
  exact h7
theorem blks7 {w : World} {g t : Nat} {c0 c1 c2 c3 c4 c5 c6 : Value} (B : Blk w g t #[c0, c1, c2, c3, c4, c5, c6]) (v0 v1 v2 v3 v4 v5 v6 : Value) : Blk (((((((w.setCell ⟨g, 0, none⟩ v0).setCell ⟨g, 1, none⟩ v1).setCell ⟨g, 2, none⟩ v2).setCell ⟨g, 3, none⟩ v3).setCell ⟨g, 4, none⟩ v4).setCell ⟨g, 5, none⟩ v5).setCell ⟨g, 6, none⟩ v6) g t #[v0, v1, v2, v3, v4, v5, v6] ∧ Keep (fun i => i = g) w (((((((w.setCell ⟨g, 0, none⟩ v0).setCell ⟨g, 1, none⟩ v1).setCell ⟨g, 2, none⟩ v2).setCell ⟨g, 3, none⟩ v3).setCell ⟨g, 4, none⟩ v4).setCell ⟨g, 5, none⟩ v5).setCell ⟨g, 6, none⟩ v6) := by
  have B0 := B
  have k0 := Keep.same (fun i => i = g) w
  have B1 : Blk (w.setCell ⟨g, 0, none⟩ v0) g t #[v0, c1, c2, c3, c4, c5, c6] := B0.put 0 v0
  have k1 : Keep (fun i => i = g) w (w.setCell ⟨g, 0, none⟩ v0) := k0.set (p := ⟨g, 0, none⟩) (.inl rfl) v0
  have B2 : Blk ((w.setCell ⟨g, 0, none⟩ v0).setCell ⟨g, 1, none⟩ v1) g t #[v0, v1, c2, c3, c4, c5, c6] := B1.put 1 v1
  have k2 : Keep (fun i => i = g) w ((w.setCell ⟨g, 0, none⟩ v0).setCell ⟨g, 1, none⟩ v1) := k1.set (p := ⟨g, 1, none⟩) (.inl rfl) v1
  have B3 : Blk (((w.setCell ⟨g, 0, none⟩ v0).setCell ⟨g, 1, none⟩ v1).setCell ⟨g, 2, none⟩ v2) g t #[v0, v1, v2, c3, c4, c5, c6] := B2.put 2 v2
  have k3 : Keep (fun i => i = g) w (((w.setCell ⟨g, 0, none⟩ v0).setCell ⟨g, 1, none⟩ v1).setCell ⟨g, 2, none⟩ v2) := k2.set (p := ⟨g, 2, none⟩) (.inl rfl) v2
  have B4 : Blk ((((w.setCell ⟨g, 0, none⟩ v0).setCell ⟨g, 1, none⟩ v1).setCell ⟨g, 2, none⟩ v2).setCell ⟨g, 3, none⟩ v3) g t #[v0, v1, v2, v3, c4, c5, c6] := B3.put 3 v3
  have k4 : Keep (fun i => i = g) w ((((w.setCell ⟨g, 0, none⟩ v0).setCell ⟨g, 1, none⟩ v1).setCell ⟨g, 2, none⟩ v2).setCell ⟨g, 3, none⟩ v3) := k3.set (p := ⟨g, 3, none⟩) (.inl rfl) v3
  have B5 : Blk (((((w.setCell ⟨g, 0, none⟩ v0).setCell ⟨g, 1, none⟩ v1).setCell ⟨g, 2, none⟩ v2).setCell ⟨g, 3, none⟩ v3).setCell ⟨g, 4, none⟩ v4) g t #[v0, v1, v2, v3, v4, c5, c6] := B4.put 4 v4
  have k5 : Keep (fun i => i = g) w (((((w.setCell ⟨g, 0, none⟩ v0).setCell ⟨g, 1, none⟩ v1).setCell ⟨g, 2, none⟩ v2).setCell ⟨g, 3, none⟩ v3).setCell ⟨g, 4, none⟩ v4) := k4.set (p := ⟨g, 4, none⟩) (.inl rfl) v4
  have B6 : Blk ((((((w.setCell ⟨g, 0, none⟩ v0).setCell ⟨g, 1, none⟩ v1).setCell ⟨g, 2, none⟩ v2).setCell ⟨g, 3, none⟩ v3).setCell ⟨g, 4, none⟩ v4).setCell ⟨g, 5, none⟩ v5) g t #[v0, v1, v2, v3, v4, v5, c6] := B5.put 5 v5
  have k6 : Keep (fun i => i = g) w ((((((w.setCell ⟨g, 0, none⟩ v0).setCell ⟨g, 1, none⟩ v1).setCell ⟨g, 2, none⟩ v2).setCell ⟨g, 3, none⟩ v3).setCell ⟨g, 4, none⟩ v4).setCell ⟨g, 5, none⟩ v5) := k5.set (p := ⟨g, 5, none⟩) (.inl rfl) v5
  have B7 : Blk (((((((w.setCell ⟨g, 0, none⟩ v0).setCell ⟨g, 1, none⟩ v1).setCell ⟨g, 2, none⟩ v2).setCell ⟨g, 3, none⟩ v3).setCell ⟨g, 4, none⟩ v4).setCell ⟨g, 5, none⟩ v5).setCell ⟨g, 6, none⟩ v6) g t #[v0, v1, v2, v3, v4, v5, v6] := B6.put 6 v6
  have k7 : Keep (fun i => i = g) w (((((((w.setCell ⟨g, 0, none⟩ v0).setCell ⟨g, 1, none⟩ v1).setCell ⟨g, 2, none⟩ v2).setCell ⟨g, 3, none⟩ v3).setCell ⟨g, 4, none⟩ v4).setCell ⟨g, 5, none⟩ v5).setCell ⟨g, 6, none⟩ v6) := k6.set (p := ⟨g, 6, none⟩) (.inl rfl) v6
  exact ⟨B7, k7⟩
theorem store75 {w : World} {g t : Nat} {c0 c1 c2 c3 c4 c5 c6 : Value} (B : Blk w g t #[c0, c1, c2, c3, c4, c5, c6]) (v2 v3 v4 v5 v6 : Value) :
    w.cell? ⟨g, 2, none⟩ = some c2 ∧
    w.frozen? ⟨g, 2, none⟩ = false ∧
    (w.setCell ⟨g, 2, none⟩ v2).cell? ⟨g, 3, none⟩ = some c3 ∧
    (w.setCell ⟨g, 2, none⟩ v2).frozen? ⟨g, 3, none⟩ = false ∧
    ((w.setCell ⟨g, 2, none⟩ v2).setCell ⟨g, 3, none⟩ v3).cell? ⟨g, 4, none⟩ = some c4 ∧
    ((w.setCell ⟨g, 2, none⟩ v2).setCell ⟨g, 3, none⟩ v3).frozen? ⟨g, 4, none⟩ = false ∧
    (((w.setCell ⟨g, 2, none⟩ v2).setCell ⟨g, 3, none⟩ v3).setCell ⟨g, 4, none⟩ v4).cell? ⟨g, 5, none⟩ = some c5 ∧
    (((w.setCell ⟨g, 2, none⟩ v2).setCell ⟨g, 3, none⟩ v3).setCell ⟨g, 4, none⟩ v4).frozen? ⟨g, 5, none⟩ = false ∧
    ((((w.setCell ⟨g, 2, none⟩ v2).setCell ⟨g, 3, none⟩ v3).setCell ⟨g, 4, none⟩ v4).setCell ⟨g, 5, none⟩ v5).cell? ⟨g, 6, none⟩ = some c6 ∧
    ((((w.setCell ⟨g, 2, none⟩ v2).setCell ⟨g, 3, none⟩ v3).setCell ⟨g, 4, none⟩ v4).setCell ⟨g, 5, none⟩ v5).frozen? ⟨g, 6, none⟩ = false ∧
    (((((w.setCell ⟨g, 2, none⟩ v2).setCell ⟨g, 3, none⟩ v3).setCell ⟨g, 4, none⟩ v4).setCell ⟨g, 5, none⟩ v5).setCell ⟨g, 6, none⟩ v6).cell? ⟨g, 0, none⟩ = some c0 ∧
    (((((w.setCell ⟨g, 2, none⟩ v2).setCell ⟨g, 3, none⟩ v3).setCell ⟨g, 4, none⟩ v4).setCell ⟨g, 5, none⟩ v5).setCell ⟨g, 6, none⟩ v6).cell? ⟨g, 1, none⟩ = some c1 ∧
    (((((w.setCell ⟨g, 2, none⟩ v2).setCell ⟨g, 3, none⟩ v3).setCell ⟨g, 4, none⟩ v4).setCell ⟨g, 5, none⟩ v5).setCell ⟨g, 6, none⟩ v6).cell? ⟨g, 2, none⟩ = some v2 ∧
    (((((w.setCell ⟨g, 2, none⟩ v2).setCell ⟨g, 3, none⟩ v3).setCell ⟨g, 4, none⟩ v4).setCell ⟨g, 5, none⟩ v5).setCell ⟨g, 6, none⟩ v6).cell? ⟨g, 3, none⟩ = some v3 ∧
    (((((w.setCell ⟨g, 2, none⟩ v2).setCell ⟨g, 3, none⟩ v3).setCell ⟨g, 4, none⟩ v4).setCell ⟨g, 5, none⟩ v5).setCell ⟨g, 6, none⟩ v6).cell? ⟨g, 4, none⟩ = some v4 ∧
    (((((w.setCell ⟨g, 2, none⟩ v2).setCell ⟨g, 3, none⟩ v3).setCell ⟨g, 4, none⟩ v4).setCell ⟨g, 5, none⟩ v5).setCell ⟨g, 6, none⟩ v6).cell? ⟨g, 5, none⟩ = some v5 ∧
    (((((w.setCell ⟨g, 2, none⟩ v2).setCell ⟨g, 3, none⟩ v3).setCell ⟨g, 4, none⟩ v4).setCell ⟨g, 5, none⟩ v5).setCell ⟨g, 6, none⟩ v6).cell? ⟨g, 6, none⟩ = some v6 ∧
    (w.setCell ⟨g, 2, none⟩ v2).cell? ⟨g, 2, none⟩ = some v2 ∧
    ((w.setCell ⟨g, 2, none⟩ v2).setCell ⟨g, 3, none⟩ v3).cell? ⟨g, 3, none⟩ = some v3 ∧
    (((w.setCell ⟨g, 2, none⟩ v2).setCell ⟨g, 3, none⟩ v3).setCell ⟨g, 4, none⟩ v4).cell? ⟨g, 4, none⟩ = some v4 ∧
    ((((w.setCell ⟨g, 2, none⟩ v2).setCell ⟨g, 3, none⟩ v3).setCell ⟨g, 4, none⟩ v4).setCell ⟨g, 5, none⟩ v5).cell? ⟨g, 5, none⟩ = some v5 := by
  have B2 := B
  have B3 : Blk (w.setCell ⟨g, 2, none⟩ v2) g t #[c0, c1, v2, c3, c4, c5, c6] := B2.put 2 v2
  have B4 : Blk ((w.setCell ⟨g, 2, none⟩ v2).setCell ⟨g, 3, none⟩ v3) g t #[c0, c1, v2, v3, c4, c5, c6] := B3.put 3 v3
  have B5 : Blk (((w.setCell ⟨g, 2, none⟩ v2).setCell ⟨g, 3, none⟩ v3).setCell ⟨g, 4, none⟩ v4) g t #[c0, c1, v2, v3, v4, c5, c6] := B4.put 4 v4
  have B6 : Blk ((((w.setCell ⟨g, 2, none⟩ v2).setCell ⟨g, 3, none⟩ v3).setCell ⟨g, 4, none⟩ v4).setCell ⟨g, 5, none⟩ v5) g t #[c0, c1, v2, v3, v4, v5, c6] := B5.put 5 v5
  have B7 : Blk (((((w.setCell ⟨g, 2, none⟩ v2).setCell ⟨g, 3, none⟩ v3).setCell ⟨g, 4, none⟩ v4).setCell ⟨g, 5, none⟩ v5).setCell ⟨g, 6, none⟩ v6) g t #[c0, c1, v2, v3, v4, v5, v6] := B6.put 6 v6
  exact ⟨B2.cell 2, B2.free 2, B3.cell 3, B3.free 3, B4.cell 4, B4.free 4, B5.cell 5, B5.free 5, B6.cell 6, B6.free 6, B7.cell 0, B7.cell 1, B7.cell 2, B7.cell 3, B7.cell 4, B7.cell 5, B7.cell 6, B3.cell 2, B4.cell 3, B5.cell 4, B6.cell 5⟩
theorem held75 {B : Nat} {w0 w : World} {Q : SP} {g t : Nat} {c0 c1 c2 c3 c4 c5 c6 : Value} (h : Holds B w0 w (star (blkP g t #[c0, c1, c2, c3, c4, c5, c6]) Q)) (hQ : Stable Q) (v2 v3 v4 v5 v6 : Value) : Holds B w0 (((((w.setCell ⟨g, 2, none⟩ v2).setCell ⟨g, 3, none⟩ v3).setCell ⟨g, 4, none⟩ v4).setCell ⟨g, 5, none⟩ v5).setCell ⟨g, 6, none⟩ v6) (star (blkP g t #[c0, c1, v2, v3, v4, v5, v6]) Q) := by
  have h2 := h
  have h3 : Holds B w0 (w.setCell ⟨g, 2, none⟩ v2) (star (blkP g t #[c0, c1, v2, c3, c4, c5, c6]) Q) := h2.setBlk hQ 2 v2
  have h4 : Holds B w0 ((w.setCell ⟨g, 2, none⟩ v2).setCell ⟨g, 3, none⟩ v3) (star (blkP g t #[c0, c1, v2, v3, c4, c5, c6]) Q) := h3.setBlk hQ 3 v3
  have h5 : Holds B w0 (((w.setCell ⟨g, 2, none⟩ v2).setCell ⟨g, 3, none⟩ v3).setCell ⟨g, 4, none⟩ v4) (star (blkP g t #[c0, c1, v2, v3, v4, c5, c6]) Q) := h4.setBlk hQ 4 v4
  have h6 : Holds B w0 ((((w.setCell ⟨g, 2, none⟩ v2).setCell ⟨g, 3, none⟩ v3).setCell ⟨g, 4, none⟩ v4).setCell ⟨g, 5, none⟩ v5) (star (blkP g t #[c0, c1, v2, v3, v4, v5, c6]) Q) := h5.setBlk hQ 5 v5
  have h7 : Holds B w0 (((((w.setCell ⟨g, 2, none⟩ v2).setCell ⟨g, 3, none⟩ v3).setCell ⟨g, 4, none⟩ v4).setCell ⟨g, 5, none⟩ v5).setCell ⟨g, 6, none⟩ v6) (star (blkP g t #[c0, c1, v2, v3, v4, v5, v6]) Q) := h6.setBlk hQ 6 v6
  exact h7
theorem blks75 {w : World} {g t : Nat} {c0 c1 c2 c3 c4 c5 c6 : Value} (B : Blk w g t #[c0, c1, c2, c3, c4, c5, c6]) (v2 v3 v4 v5 v6 : Value) : Blk (((((w.setCell ⟨g, 2, none⟩ v2).setCell ⟨g, 3, none⟩ v3).setCell ⟨g, 4, none⟩ v4).setCell ⟨g, 5, none⟩ v5).setCell ⟨g, 6, none⟩ v6) g t #[c0, c1, v2, v3, v4, v5, v6] ∧ Keep (fun i => i = g) w (((((w.setCell ⟨g, 2, none⟩ v2).setCell ⟨g, 3, none⟩ v3).setCell ⟨g, 4, none⟩ v4).setCell ⟨g, 5, none⟩ v5).setCell ⟨g, 6, none⟩ v6) := by
  have B2 := B
  have k2 := Keep.same (fun i => i = g) w
  have B3 : Blk (w.setCell ⟨g, 2, none⟩ v2) g t #[c0, c1, v2, c3, c4, c5, c6] := B2.put 2 v2
  have k3 : Keep (fun i => i = g) w (w.setCell ⟨g, 2, none⟩ v2) := k2.set (p := ⟨g, 2, none⟩) (.inl rfl) v2
  have B4 : Blk ((w.setCell ⟨g, 2, none⟩ v2).setCell ⟨g, 3, none⟩ v3) g t #[c0, c1, v2, v3, c4, c5, c6] := B3.put 3 v3
  have k4 : Keep (fun i => i = g) w ((w.setCell ⟨g, 2, none⟩ v2).setCell ⟨g, 3, none⟩ v3) := k3.set (p := ⟨g, 3, none⟩) (.inl rfl) v3
  have B5 : Blk (((w.setCell ⟨g, 2, none⟩ v2).setCell ⟨g, 3, none⟩ v3).setCell ⟨g, 4, none⟩ v4) g t #[c0, c1, v2, v3, v4, c5, c6] := B4.put 4 v4
  have k5 : Keep (fun i => i = g) w (((w.setCell ⟨g, 2, none⟩ v2).setCell ⟨g, 3, none⟩ v3).setCell ⟨g, 4, none⟩ v4) := k4.set (p := ⟨g, 4, none⟩) (.inl rfl) v4
  have B6 : Blk ((((w.setCell ⟨g, 2, none⟩ v2).setCell ⟨g, 3, none⟩ v3).setCell ⟨g, 4, none⟩ v4).setCell ⟨g, 5, none⟩ v5) g t #[c0, c1, v2, v3, v4, v5, c6] := B5.put 5 v5
  have k6 : Keep (fun i => i = g) w ((((w.setCell ⟨g, 2, none⟩ v2).setCell ⟨g, 3, none⟩ v3).setCell ⟨g, 4, none⟩ v4).setCell ⟨g, 5, none⟩ v5) := k5.set (p := ⟨g, 5, none⟩) (.inl rfl) v5
  have B7 : Blk (((((w.setCell ⟨g, 2, none⟩ v2).setCell ⟨g, 3, none⟩ v3).setCell ⟨g, 4, none⟩ v4).setCell ⟨g, 5, none⟩ v5).setCell ⟨g, 6, none⟩ v6) g t #[c0, c1, v2, v3, v4, v5, v6] := B6.put 6 v6
  have k7 : Keep (fun i => i = g) w (((((w.setCell ⟨g, 2, none⟩ v2).setCell ⟨g, 3, none⟩ v3).setCell ⟨g, 4, none⟩ v4).setCell ⟨g, 5, none⟩ v5).setCell ⟨g, 6, none⟩ v6) := k6.set (p := ⟨g, 6, none⟩) (.inl rfl) v6
  exact ⟨B7, k7⟩
/-! ### Steps -/
theorem Step.then {w w1 w2 : World} {F : Nat → Prop} {P Q : SP} (h : Step w F P w1) (k : ∀ F', P w1 F' → Step w1 F' Q w2) : Step w F Q w2 := by
  obtain ⟨F1, h1, h2, h3⟩ := h
  obtain ⟨F2, k1, k2, k3⟩ := k F1 h1
  have hs := h2.size
  exact ⟨F2, k1, h2.trans k2 h3, fun i hi => by
    rcases k3 i hi with h | h
    · exact h3 i h
    · exact .inr (by omega)⟩
theorem Step.swap {w w1 : World} {F : Nat → Prop} {P Q : SP} (h : Step w F (U.star P Q) w1) : Step w F (U.star Q P) w1 := by
  obtain ⟨F1, ⟨Fa, Fb, a, b, d, e⟩, h2, h3⟩ := h
  exact ⟨F1, ⟨Fb, Fa, b, a, fun k x y => d k y x, fun k => (e k).trans Or.comm⟩, h2, h3⟩
theorem Step.kept {w w1 w2 : World} {F : Nat → Prop} {P : SP} (h : Step w F P w1) (hP : Stable P) (hk : Keep Nothing w1 w2) : Step w F P w2 :=
  h.then fun F' hp => ⟨F', hP.keep hp hk (fun _ _ h => h), hk.wider (fun i h => h.elim), fun k hk => .inl hk⟩
theorem Step.self {w : World} {F : Nat → Prop} {P : SP} (h : P w F) : Step w F P w := ⟨F, h, Keep.same _ _, fun k hk => .inl hk⟩
theorem Step.on_left {w w1 w2 : World} {F : Nat → Prop} {P P' Q : SP} (h : Step w F (U.star P Q) w1) (hQ : Stable Q) (c : ∀ F', P w1 F' → Step w1 F' P' w2) : Step w F (U.star P' Q) w2 :=
  h.then fun F' ⟨Fa, Fb, a, b, d, e⟩ => by
    have hs := (c Fa a).star hQ b d
    obtain ⟨G, g1, g2, g3⟩ := hs
    exact ⟨G, g1, g2.wider (fun i hi => .inl ((e i).2 hi)), fun k hk => by
      rcases g3 k hk with h | h
      · exact .inl ((e k).2 h)
      · exact .inr h⟩
theorem Step.get_left {w w1 : World} {F : Nat → Prop} {P Q : SP} (h : Step w F (U.star P Q) w1) : ∃ F', P w1 F' := by
  obtain ⟨F1, ⟨Fa, Fb, a, _⟩, _⟩ := h
  exact ⟨Fa, a⟩
theorem Step.get {w w1 : World} {F : Nat → Prop} {P : SP} (h : Step w F P w1) : ∃ F', P w1 F' := by
  obtain ⟨F1, a, _⟩ := h
  exact ⟨F1, a⟩
/-- A row behind an append. -/
theorem Step.grew {w w1 w2 : World} {F : Nat → Prop} {Q : SP} {e : TypeId} {size n n' : Nat} {v v' : Value} {xs xs' : List Value} (h : Step w F (U.star (rowP e size v n xs) Q) w1) (hQ : Stable Q) (hr : Row w2 e size v' n' xs') (hg : w1.grownBy w2 v.ownBlock) (hloc : v'.ownBlock = v.ownBlock ∨ v'.ownBlock = some w1.heap.size) : Step w F (U.star (rowP e size v' n' xs') Q) w2 :=
  h.on_left hQ fun F' ⟨_, hF⟩ => ⟨fun k => v'.ownBlock = some k, ⟨hr, fun _ => Iff.rfl⟩, (Keep.same F' w1).grown hg (fun i hi => .inl ((hF i).2 hi)), fun k hk => by
    rcases hloc with h1 | h1
    · exact .inl ((hF k).2 (h1 ▸ hk))
    · rw [h1] at hk; injection hk with hk; exact .inr (by omega)⟩
/-- A row that is nil beside a thing. -/
theorem Step.nil_row {w w1 : World} {F : Nat → Prop} {Q : SP} (e : TypeId) (size : Nat) (h : Step w F Q w1) : Step w F (U.star (rowP e size (.slice none 0 0) 0 []) Q) w1 :=
  h.then fun F' hq => ⟨F', ⟨fun _ => False, F', rowP_nil _ _ _, hq, fun _ h => h.elim, fun k => ⟨.inr, fun h => h.elim (fun h => h.elim) id⟩⟩, Keep.same _ _, fun k hk => .inl hk⟩
/-- A call whose answer names the thing that it made. -/
theorem Holds.on_left_ex {B : Nat} {w0 w : World} {P Q : SP} {α : Type} {P' : α → SP} (h : Holds B w0 w (U.star P Q)) (hQ : Stable Q) {p : Program} {f : FuncId} {args : Array Value} {post : α → Ending → Prop}
    (c : ∀ F, P w F → Calls p f args w fun e w' => ∃ v, post v e ∧ Step w F (P' v) w') : Calls p f args w fun e w' => ∃ v, post v e ∧ Holds B w0 w' (U.star (P' v) Q) := by
  have H0 := h
  obtain ⟨F, ⟨F1, F2, h1, h2, h3, h4⟩, hb, hB, hF⟩ := h
  refine (c F1 h1).mono fun e w' ⟨v, he, hs⟩ => ⟨v, he, ?_⟩
  exact H0.step (fun k hk => hF k ((h4 k).2 hk)) (hs.star hQ h2 h3)
/-! ### Things in another order -/
theorem Holds.assoc {B : Nat} {w0 w : World} {P Q R : SP} (h : Holds B w0 w (U.star (U.star P Q) R)) : Holds B w0 w (U.star P (U.star Q R)) :=
  h.imp fun F ⟨F1, F2, ⟨F3, F4, h5, h6, h7, h8⟩, h2, h3, h4⟩ => ⟨F3, fun k => F4 k ∨ F2 k, h5, ⟨F4, F2, h6, h2, fun k a b => h3 k ((h8 k).2 (.inr a)) b, fun _ => Iff.rfl⟩,
    fun k a b => by rcases b with b | b; exact h7 k a b; exact h3 k ((h8 k).2 (.inl a)) b,
    fun k => by rw [h4, h8, or_assoc]⟩
theorem Holds.inner {B : Nat} {w0 w : World} {P Q Q' : SP} (h : Holds B w0 w (U.star P Q)) (hi : ∀ F, Q w F → Q' w F) : Holds B w0 w (U.star P Q') :=
  h.imp fun F ⟨F1, F2, h1, h2, h3, h4⟩ => ⟨F1, F2, h1, hi F2 h2, h3, h4⟩
theorem star_second {P Q R : SP} {w : World} {F : Nat → Prop} (h : U.star P (U.star Q R) w F) : U.star Q (U.star P R) w F := by
  obtain ⟨F1, F2, h1, ⟨F3, F4, h5, h6, h7, h8⟩, h3, h4⟩ := h
  exact ⟨F3, fun k => F1 k ∨ F4 k, h5, ⟨F1, F4, h1, h6, fun k a b => h3 k a ((h8 k).2 (.inr b)), fun _ => Iff.rfl⟩,
      fun k a b => by rcases b with b | b; exact h3 k b ((h8 k).2 (.inl a)); exact h7 k a b,
      fun k => by rw [h4, h8]; exact ⟨fun h => by rcases h with h | h | h; exact .inr (.inl h); exact .inl h; exact .inr (.inr h), fun h => by rcases h with h | h | h; exact .inr (.inl h); exact .inl h; exact .inr (.inr h)⟩⟩
/-- P * (Q * R) gives Q * (P * R). -/
theorem Holds.second {B : Nat} {w0 w : World} {P Q R : SP} (h : Holds B w0 w (U.star P (U.star Q R))) : Holds B w0 w (U.star Q (U.star P R)) := h.imp fun F => star_second
/-- P * (Q * (R * S)) gives Q * (R * (P * S)). -/
theorem Holds.third {B : Nat} {w0 w : World} {P Q R S : SP} (h : Holds B w0 w (U.star P (U.star Q (U.star R S)))) : Holds B w0 w (U.star Q (U.star R (U.star P S))) :=
  Holds.inner (Holds.second h) fun F => star_second
theorem Holds.third_back {B : Nat} {w0 w : World} {P Q R S : SP} (h : Holds B w0 w (U.star Q (U.star R (U.star P S)))) : Holds B w0 w (U.star P (U.star Q (U.star R S))) :=
  Holds.second (Holds.inner h fun F => star_second)
theorem blk_at {B : Nat} {w0 w : World} {Q : SP} {b t : Nat} {cs : Array Value} (h : Holds B w0 w (U.star (blkP b t cs) Q)) : Blk w b t cs := by
  obtain ⟨F, hb, _⟩ := h.left
  exact hb
/-- A call on the left thing that gives something new. -/
theorem Holds.on_made {B : Nat} {w0 w : World} {P Q P' : SP} {α : Type} {N : α → SP} (h : Holds B w0 w (U.star P Q)) (hQ : Stable Q) {p : Program} {f : FuncId} {args : Array Value} {post : α → Ending → Prop}
    (c : ∀ F, P w F → Calls p f args w fun e w' => ∃ v, post v e ∧ Step w F (U.star (N v) P') w') : Calls p f args w fun e w' => ∃ v, post v e ∧ Holds B w0 w' (U.star (N v) (U.star P' Q)) :=
  (Holds.on_left_ex h hQ c).mono fun e w' ⟨v, he, hh⟩ => ⟨v, he, Holds.assoc hh⟩
/-! ### clear -/
theorem zero_value {P : Program} {t e : TypeId} {size bytes : Nat} {z : Value} (E : Elem P t e size bytes z) (w : World) : (zeroValue e).run P w = .ok z w := by
  obtain ⟨i, hi, hz, _, _⟩ := info_parts E.info
  simp [zeroValue, typeInfo, hi, hz]
theorem run_clear {P : Program} (w : World) {t e : TypeId} {size bytes : Nat} {z : Value} (E : Elem P t e size bytes z) (ty : TypeId) {g o n c : Nat} {cur : Array Value} (hb : Blk w g e cur) (hn : 0 < n) (hfit : o + n * size ≤ cur.size) (h1 : ∀ u ∈ z.cells, u.oneCell' = true) :
    (Builtin.clear_ #[t] ty #[.slice (some ⟨g, o, none⟩) n c]).run P w = .ok (.tuple #[]) (w.setRow g (cur.toList.take o ++ (Builtin.zeroCells z.cells n).toList ++ cur.toList.drop (o + n * size)).toArray) := by
  have hv := zero_value E
  have hzs : (Builtin.zeroCells z.cells n).toList.length = n * size := by simp [size_zeroCells, E.zero]
  have hone : ∀ v ∈ (Builtin.zeroCells z.cells n).toList, v.oneCell' = true := by
    intro v hv
    simp only [Builtin.zeroCells, Array.toList_map, List.mem_map] at hv
    obtain ⟨i, hi, rfl⟩ := hv
    have hp := E.pos
    have hz := E.zero
    have hlt : i % z.cells.size < z.cells.size := Nat.mod_lt _ (by omega)
    first
      | (rw [getElem!_pos z.cells (i % z.cells.size) hlt]; exact h1 _ (Array.getElem_mem hlt))
      | (rw [Array.getD_eq_getD_getElem?, Array.getElem?_eq_getElem hlt]; exact h1 _ (Array.getElem_mem hlt))
  have hst := run_storeCells_at P g o e (Builtin.zeroCells z.cells n).toList 0 cur w hb (by rw [hzs]; omega) hone
  simp only [Nat.add_zero, hzs] at hst
  obtain ⟨m, rfl⟩ : ∃ m, n = m + 1 := ⟨n - 1, by omega⟩
  simp [Builtin.clear_, run_underlying E.slice, hv, hst]
end Go.Proofs.Ytnbllckmeehhjaa.U
