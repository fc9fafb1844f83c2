/-
  Words on memory of this session's own: a block known whole; what a call may touch; a slice that reads as a list of cells; append on such a slice.
-/
import Derived.Test.YtmohpjkbhpgidaaU
import Derived.Below
import Derived.Laws.OwnMore
import Derived.Laws.MakeOwn
import Derived.Laws.CopyRow
import Derived.Laws.Rows
import Derived.Maps.AppendAt
import Derived.Deep.AppendLies
import Derived.RegionTactic
import Derived.Deep.RegionLaw
import Derived.StillTailTactics
import Derived.OwnWalk
namespace Go.Proofs.Ytmohpjkbhpgidaa.U
open Go.RowKit
set_option linter.unusedVariables false

theorem addAt (g o j : Nat) : (⟨g, o, none⟩ : Addr).add j = ⟨g, o + j, none⟩ := by unfold Addr.add; split <;> simp_all
theorem addBlock (a : Addr) (j : Nat) : (a.add j).block = a.block := by unfold Addr.add; split <;> rfl
theorem addAdd (a : Addr) (i j : Nat) : (a.add i).add j = a.add (i + j) := by
  unfold Addr.add
  by_cases hi : i = 0 <;> by_cases hj : j = 0 <;> simp [hi, hj, Nat.add_assoc]

theorem addLater (a : Addr) (m j : Nat) (hj : 0 < j) : a.add (m + j) = ⟨(a.add m).block, (a.add m).off + j, none⟩ := by
  unfold Addr.add
  by_cases hm : m = 0
  · subst hm; simp; omega
  · rw [if_neg (by omega), if_neg hm]; simp [Nat.add_assoc]

/-! ### What a call may touch -/
/-- From w to w' no old block outside S has turned; the heap only grows. -/
structure Keep (S : Nat → Prop) (w w' : World) : Prop where
  os : w'.os = w.os
  tape : w'.tape = w.tape
  output : w'.output = w.output
  size : w.heap.size ≤ w'.heap.size
  block : ∀ k, k < w.heap.size → ¬ S k → w'.heap[k]? = w.heap[k]?
def Nothing : Nat → Prop := fun _ => False

section
variable {S S' : Nat → Prop} {a b c w w' : World}
theorem Keep.same (S : Nat → Prop) (w : World) : Keep S w w := ⟨rfl, rfl, rfl, Nat.le_refl _, fun _ _ _ => rfl⟩
theorem Keep.trans (h : Keep S a b) (k : Keep S' b c) (hs : ∀ i, S' i → S i ∨ a.heap.size ≤ i) : Keep S a c :=
  ⟨k.os.trans h.os, k.tape.trans h.tape, k.output.trans h.output, Nat.le_trans h.size k.size, fun i hi hn =>
    (k.block i (Nat.lt_of_lt_of_le hi h.size) (fun hc => by rcases hs i hc with h1 | h1; exact hn h1; omega)).trans (h.block i hi hn)⟩
theorem Keep.then (h : Keep S a b) (k : Keep S b c) : Keep S a c := h.trans k fun _ hi => .inl hi
theorem Keep.wider (h : Keep S a b) (hs : ∀ i, S i → S' i ∨ a.heap.size ≤ i) : Keep S' a b := (Keep.same S' a).trans h hs
theorem Keep.alloc (h : Keep S a b) (o : Obj) : Keep S a (b.alloc o) :=
  h.then ⟨rfl, rfl, rfl, by simp, fun k hk _ => Below.heap_alloc _ _ _ hk⟩
theorem Keep.drew (h : Keep S a b) : Keep S a b.drew := ⟨h.os, h.tape, h.output, h.size, h.block⟩
theorem Keep.drewN (h : Keep S a b) (n : Nat) : Keep S a (b.drewN n) := ⟨h.os, h.tape, h.output, h.size, h.block⟩
theorem Keep.drawn (h : Keep S a b) (k : Drew b c) : Keep S a c := by obtain ⟨n, rfl⟩ := k.out; exact h.drewN n
theorem Keep.set (h : Keep S a b) {p : Addr} (hp : S p.block ∨ a.heap.size ≤ p.block) (u : Value) : Keep S a (b.setCell p u) :=
  h.trans (S' := fun i => i = p.block) ⟨rfl, rfl, rfl, by simp [World.setCell], fun k _ hk => Below.heap_setCell _ _ _ _ hk⟩ (fun i hi => by subst hi; exact hp)
theorem Keep.setBlock (h : Keep S a b) {g : Nat} (hp : S g ∨ a.heap.size ≤ g) (f : Obj → Obj) : Keep S a { b with heap := b.heap.modify g f } :=
  h.trans (S' := fun i => i = g) ⟨rfl, rfl, rfl, by simp, fun k _ hk => by simp only [Array.getElem?_modify]; rw [if_neg (fun e => hk e.symm)]⟩ (fun i hi => by subst hi; exact hp)
theorem Keep.grown (h : Keep S a b) {row : Option Nat} (g : b.grownBy c row) (hr : ∀ i, row = some i → S i ∨ a.heap.size ≤ i) : Keep S a c :=
  h.trans (S' := fun i => row = some i) ⟨g.os, g.tape, g.output, g.size, fun k hk hn => g.block k hk (fun e => hn e.symm)⟩ hr
theorem Keep.below (h : Keep S a b) {B : Nat} (hB : B ≤ a.heap.size) (hS : ∀ i, S i → B ≤ i) : Below B a b :=
  ⟨h.os, h.tape, h.output, h.size, fun k hk => h.block k (by omega) (fun hs => by have := hS k hs; omega)⟩
theorem Keep.of_below (h : Below a.heap.size a b) (S : Nat → Prop) : Keep S a b := ⟨h.os, h.tape, h.output, h.size, fun k hk _ => h.block k hk⟩
theorem Keep.all_below (h : Keep S a b) (hS : ∀ i, S i → a.heap.size ≤ i) : Below a.heap.size a b := h.below (Nat.le_refl _) hS
theorem Keep.obj (h : Keep S a b) {g : Nat} {o : Obj} (hg : a.heap[g]? = some o) (hn : ¬ S g) : b.heap[g]? = some o :=
  (h.block g (Array.getElem?_eq_some_iff.1 hg).1 hn).trans hg
theorem Keep.cell (h : Keep S a b) {p : Addr} {v : Value} (hc : a.cell? p = some v) (hn : ¬ S p.block) : b.cell? p = some v :=
  (World.cell?_of_block (h.block p.block (World.block_lt_of_cell? a p hc) hn)).trans hc
theorem Keep.grownBy (h : Keep S a b) {row : Option Nat} (hS : ∀ i, S i → row = some i ∨ a.heap.size ≤ i) : a.grownBy b row :=
  ⟨h.os, h.tape, h.output, h.size, fun k hk hn => h.block k hk (fun hs => by rcases hS k hs with h1 | h1; exact hn h1.symm; omega)⟩
end

/-! ### A block that is known whole -/
def Blk (w : World) (g : Nat) (t : TypeId) (cs : Array Value) : Prop := w.heap[g]? = some (.cells cs t (0, 0))
section
variable {w w' : World} {g : Nat} {t : TypeId} {cs : Array Value} {S : Nat → Prop}
theorem Blk.lt (h : Blk w g t cs) : g < w.heap.size := (Array.getElem?_eq_some_iff.1 h).1
theorem Blk.cell (h : Blk w g t cs) (i : Nat) : w.cell? ⟨g, i, none⟩ = cs[i]? := cell_of_row w g i cs t (0, 0) h
theorem Blk.free (h : Blk w g t cs) (i : Nat) : w.frozen? ⟨g, i, none⟩ = false := frozen_of_row w g i cs t h
theorem Blk.fresh (w : World) (t : TypeId) (cs : Array Value) : Blk (w.alloc (.cells cs t)) w.heap.size t cs := heap_alloc_new w _
theorem Blk.drew (h : Blk w g t cs) : Blk w.drew g t cs := h
theorem Blk.drewN (h : Blk w g t cs) (n : Nat) : Blk (w.drewN n) g t cs := h
theorem Blk.alloc (h : Blk w g t cs) (o : Obj) : Blk (w.alloc o) g t cs := (Below.heap_alloc w o g h.lt).trans h
theorem Blk.put (h : Blk w g t cs) (i : Nat) (u : Value) : Blk (w.setCell ⟨g, i, none⟩ u) g t (cs.setIfInBounds i u) := by
  unfold Blk at h ⊢
  simp [World.setCell, Array.getElem?_modify, h]
theorem Blk.far (h : Blk w g t cs) {p : Addr} (hp : g ≠ p.block) (u : Value) : Blk (w.setCell p u) g t cs := (Below.heap_setCell w p u g hp).trans h
theorem Blk.keep (h : Blk w g t cs) (k : Keep S w w') (hn : ¬ S g) : Blk w' g t cs := k.obj h hn
theorem Blk.grown {row : Option Nat} (h : Blk w g t cs) (hb : w.grownBy w' row) (hg : row ≠ some g) : Blk w' g t cs := (hb.block g h.lt (fun e => hg e.symm)).trans h
theorem Blk.apart {g' : Nat} {t' : TypeId} {cs' : Array Value} (h : Blk w g t cs) (h' : Blk w g' t' cs') (hne : t ≠ t') : g ≠ g' := by
  rintro rfl
  unfold Blk at h h'
  rw [h] at h'
  injection h' with h'
  injection h' with _ ht
  exact hne ht
end

/-! ### A slice that reads as a list of cells, and is one's own -/
/-- v is nil, or begins at cell o of a block that is not frozen: its first n elements, of type e and 'size' cells each, are xs; all cells up to its capacity lie in the block. -/
def Row (w : World) (e : TypeId) (size : Nat) (v : Value) (n : Nat) (xs : List Value) : Prop :=
  xs.length = n * size ∧ ((v = .slice none 0 0 ∧ n = 0) ∨
    ∃ g o cap cur, v = .slice (some ⟨g, o, none⟩) n cap ∧ Blk w g e cur ∧ n ≤ cap ∧ cap ≤ maxLen ∧ o + cap * size ≤ cur.size ∧ (cur.toList.drop o).take (n * size) = xs)
/-- The slice (A, n) reads as the cells xs. -/
def Src (w : World) (A : Option Addr) (size n : Nat) (xs : List Value) : Prop :=
  xs.length = n * size ∧ (0 < n → ∃ ad, A = some ad ∧ ∀ j u, xs[j]? = some u → w.cell? (ad.add j) = some u)

section
variable {w w' : World} {e : TypeId} {size n : Nat} {v : Value} {xs : List Value} {S : Nat → Prop}
theorem Row.nil (w : World) (e : TypeId) (size : Nat) : Row w e size (.slice none 0 0) 0 [] := ⟨by simp, .inl ⟨rfl, rfl⟩⟩
theorem Row.form (h : Row w e size v n xs) : ∃ A c, v = .slice A n c ∧ n ≤ c ∧ c ≤ maxLen := by
  rcases h.2 with ⟨rfl, rfl⟩ | ⟨g, o, cap, cur, rfl, _, h1, h2, _⟩
  · exact ⟨_, _, rfl, Nat.le_refl _, Nat.zero_le _⟩
  · exact ⟨_, _, rfl, h1, h2⟩
theorem Row.len (h : Row w e size v n xs) : n ≤ maxLen := by obtain ⟨_, _, _, h1, h2⟩ := h.form; omega
theorem Row.keep (h : Row w e size v n xs) (k : Keep S w w') (hn : ∀ g, v.ownBlock = some g → ¬ S g) : Row w' e size v n xs := by
  refine ⟨h.1, ?_⟩
  rcases h.2 with h0 | ⟨g, o, cap, cur, rfl, hb, rest⟩
  · exact .inl h0
  · exact .inr ⟨g, o, cap, cur, rfl, hb.keep k (hn g rfl), rest⟩
theorem Row.lt (h : Row w e size v n xs) : ∀ g, v.ownBlock = some g → g < w.heap.size := by
  intro g hg
  rcases h.2 with ⟨rfl, _⟩ | ⟨g', o, cap, cur, rfl, hb, _⟩
  · simp [Value.ownBlock] at hg
  · simp [Value.ownBlock] at hg; subst hg; exact hb.lt
theorem Row.apart {g : Nat} {t : TypeId} {cs : Array Value} (h : Row w e size v n xs) (hb : Blk w g t cs) (hne : e ≠ t) : v.ownBlock ≠ some g := by
  rcases h.2 with ⟨rfl, _⟩ | ⟨g', o, cap, cur, rfl, hb', _⟩
  · simp [Value.ownBlock]
  · intro hc; simp [Value.ownBlock] at hc; subst hc; exact hb'.apart hb hne rfl
theorem Row.apart2 {e' : TypeId} {size' n' : Nat} {v' : Value} {xs' : List Value} (h : Row w e size v n xs) (h' : Row w e' size' v' n' xs') (hne : e ≠ e') : ∀ g, v.ownBlock = some g → v'.ownBlock ≠ some g := by
  intro g hg hc
  rcases h.2 with ⟨rfl, _⟩ | ⟨g1, o, cap, cur, rfl, hb, _⟩
  · simp [Value.ownBlock] at hg
  · simp [Value.ownBlock] at hg; subst hg; exact h'.apart hb (fun e => hne e.symm) hc
theorem Row.notMap {g : Nat} {es : Array MapEntry} {k : Nat} (h : Row w e size v n xs) (hb : w.heap[g]? = some (.map es k)) : v.ownBlock ≠ some g := by
  rcases h.2 with ⟨rfl, _⟩ | ⟨g', o, cap, cur, rfl, hb', _⟩
  · simp [Value.ownBlock]
  · intro hc; simp [Value.ownBlock] at hc; subst hc; unfold Blk at hb'; rw [hb] at hb'; cases hb'
theorem Row.src {A : Option Addr} {c : Nat} (h : Row w e size (.slice A n c) n xs) : Src w A size n xs := by
  refine ⟨h.1, fun hn => ?_⟩
  rcases h.2 with ⟨h0, rfl⟩ | ⟨g, o, cap, cur, hv, hb, h1, h2, h3, h4⟩
  · omega
  · injection hv with hA
    subst hA
    refine ⟨_, rfl, fun j u hu => ?_⟩
    rw [addAt, hb.cell, ← hu, ← h4]
    have hj : j < xs.length := (List.getElem?_eq_some_iff.1 hu).1
    rw [List.getElem?_take, if_pos (by rw [← h.1]; exact hj), List.getElem?_drop]
    simp
theorem Src.none_ (w : World) (size : Nat) : Src w none size 0 [] := ⟨by simp, fun h => absurd h (by omega)⟩
theorem Src.at_ {A : Option Addr} {k : Nat} (h : Src w A 1 n xs) (hk : k < n) : ∃ ad u, A = some ad ∧ xs[k]? = some u ∧ w.cell? (ad.add k) = some u := by
  obtain ⟨ad, e, hc⟩ := h.2 (by omega)
  have hl : k < xs.length := by have := h.1; omega
  exact ⟨ad, xs[k], e, List.getElem?_eq_getElem hl, hc k _ (List.getElem?_eq_getElem hl)⟩
theorem Row.fresh (w : World) (e : TypeId) (size n : Nat) (cs : Array Value) (hs : cs.size = n * size) (hm : n ≤ maxLen) :
    Row (w.alloc (.cells cs e)) e size (.slice (some ⟨w.heap.size, 0, none⟩) n n) n cs.toList :=
  ⟨by simp [hs], .inr ⟨_, 0, n, cs, rfl, Blk.fresh w e cs, Nat.le_refl _, hm, by omega, by rw [List.drop_zero]; exact List.take_of_length_le (by simp [hs])⟩⟩
/-- A cut 's[k:]'. -/
theorem Row.drop_ {A : Option Addr} {c : Nat} (h : Row w e size (.slice A n c) n xs) {k : Nat} (hk : k ≤ n) :
    Row w e size (.slice (if c = k then A else A.map (·.add (k * size))) (n - k) (c - k)) (n - k) (xs.drop (k * size)) := by
  refine ⟨by rw [List.length_drop, h.1, Nat.sub_mul], ?_⟩
  rcases h.2 with ⟨h0, rfl⟩ | ⟨g, o, cap, cur, hv, hb, h1, h2, h3, h4⟩
  · left
    injection h0 with e1 _ e3
    subst e1 e3
    obtain rfl : k = 0 := by omega
    simp
  · right
    injection hv with e1 _ e3
    subst e1 e3
    by_cases hc : c = k
    · subst hc
      refine ⟨g, o, 0, cur, ?_, hb, by omega, Nat.zero_le _, by omega, ?_⟩
      · simp
      · have : n = c := by omega
        subst this
        have hl : (xs.drop (n * size)).length = 0 := by rw [List.length_drop, h.1]; omega
        rw [List.eq_nil_of_length_eq_zero hl]; simp
    · refine ⟨g, o + k * size, c - k, cur, ?_, hb, by omega, by omega, ?_, ?_⟩
      · simp only [if_neg hc, Option.map_some, addAt]
      · have : (c - k) * size = c * size - k * size := Nat.sub_mul ..
        have : k * size ≤ c * size := Nat.mul_le_mul_right _ (by omega)
        omega
      · rw [← h4, List.drop_take, List.drop_drop, Nat.sub_mul]
/-- A cut 's[:k:m]' or 's[:k]'. -/
theorem Row.take_ {A : Option Addr} {c : Nat} (h : Row w e size (.slice A n c) n xs) {k m : Nat} (hk : k ≤ n) (hkm : k ≤ m) (hm : m ≤ c) :
    Row w e size (.slice A k m) k (xs.take (k * size)) := by
  have hkn : k * size ≤ n * size := Nat.mul_le_mul_right _ hk
  refine ⟨by rw [List.length_take, h.1]; omega, ?_⟩
  rcases h.2 with ⟨h0, rfl⟩ | ⟨g, o, cap, cur, hv, hb, h1, h2, h3, h4⟩
  · injection h0 with e1 _ e3
    subst e1 e3
    obtain rfl : k = 0 := by omega
    obtain rfl : m = 0 := by omega
    exact .inl ⟨rfl, rfl⟩
  · injection hv with e1 _ e3
    subst e1 e3
    have hmc : m * size ≤ c * size := Nat.mul_le_mul_right _ hm
    exact .inr ⟨g, o, m, cur, rfl, hb, hkm, by omega, by omega, by rw [← h4, List.take_take, Nat.min_eq_left hkn]⟩
end

theorem Row.alloc {w : World} {e : TypeId} {size n : Nat} {v : Value} {xs : List Value} (h : Row w e size v n xs) (o : Obj) : Row (w.alloc o) e size v n xs := h.keep ((Keep.same Nothing w).alloc o) (fun _ _ h => h)
theorem Row.drew {w : World} {e : TypeId} {size n : Nat} {v : Value} {xs : List Value} (h : Row w e size v n xs) : Row w.drew e size v n xs := h.keep (Keep.same Nothing w).drew (fun _ _ h => h)
theorem Row.drewN {w : World} {e : TypeId} {size n : Nat} {v : Value} {xs : List Value} (h : Row w e size v n xs) (k : Nat) : Row (w.drewN k) e size v n xs := h.keep ((Keep.same Nothing w).drewN k) (fun _ _ h => h)
theorem Row.far {w : World} {e : TypeId} {size n : Nat} {v : Value} {xs : List Value} (h : Row w e size v n xs) {p : Addr} (hp : v.ownBlock ≠ some p.block) (u : Value) : Row (w.setCell p u) e size v n xs :=
  h.keep ((Keep.same (fun i => i = p.block) w).set (.inl rfl) u) (fun g hg e => hp (e ▸ hg))
theorem Src.one (w : World) (x : Value) (t : TypeId) : Src (w.alloc (.cells #[x] t)) (some ⟨w.heap.size, 0, none⟩) 1 1 [x] :=
  ⟨rfl, fun _ => ⟨_, rfl, cell_one_new w x t⟩⟩
theorem Src.fresh (w : World) (cs : Array Value) (t : TypeId) (size n : Nat) (h : cs.size = n * size) : Src (w.alloc (.cells cs t)) (some ⟨w.heap.size, 0, none⟩) size n cs.toList :=
  ⟨by simp [h], fun _ => ⟨_, rfl, fun j u hu => by rw [addAt, (Blk.fresh w t cs).cell]; simpa using hu⟩⟩

/-- What the tables say of a slice's type t: its elements' type e, their cells, their bytes, their zero value. -/
structure Elem (P : Program) (t e : TypeId) (size bytes : Nat) (z : Value) : Prop where
  slice : P.underlying t = some (.slice e)
  info : (P.info? e).map (fun i => (i.zero, i.size, i.bytes)) = some (some z, size, bytes)
  zero : z.cells.size = size
  pos : 0 < size

section
variable {P : Program} (w : World)
theorem run_app {t e : TypeId} {size bytes : Nat} {z : Value} (E : Elem P t e size bytes z) (ty : TypeId)
    (v : Value) (n : Nat) (xs : List Value) (hrow : Row w e size v n xs) (A : Option Addr) (m c : Nat) (news : List Value) (hsrc : Src w A size m news) (h1 : ∀ u ∈ news, u.oneCell' = true)
    (h63 : n + m ≤ maxLen) (hbytes : (n + m) * bytes ≤ 140737488355328) :
    ∃ v' w', (Builtin.append_ #[t, t] ty #[v, .slice A m c]).run P w = .ok v' w' ∧ Row w' e size v' (n + m) (xs ++ news) ∧ w.grownBy w' v.ownBlock ∧ (v'.ownBlock = v.ownBlock ∨ v'.ownBlock = some w.heap.size) := by
  obtain ⟨i, hi, hz, hsize, hby⟩ := info_parts E.info
  have ht := E.slice
  have hzs := E.zero
  have hpos := E.pos
  subst hsize
  subst hby
  have hsmall : n + m ≤ 9223372036854775807 := by simp only [maxLen] at h63; omega
  have hlen : (xs ++ news).length = (n + m) * i.size := by rw [List.length_append, hrow.1, hsrc.1, Nat.add_mul]
  have grown : ∀ (old : Nat), old < n + m → ∀ (row : Option Nat),
      Row (w.drew.alloc (.cells (xs.toArray ++ news.toArray ++ Builtin.zeroCells z.cells (grownCap w (n + m) old e - (n + m))) e)) e i.size
        (.slice (some ⟨w.heap.size, 0, none⟩) (n + m) (grownCap w (n + m) old e)) (n + m) (xs ++ news) ∧
      w.grownBy (w.drew.alloc (.cells (xs.toArray ++ news.toArray ++ Builtin.zeroCells z.cells (grownCap w (n + m) old e - (n + m))) e)) row := by
    intro old ho row
    have hge := grownCap_ge w (n + m) old e
    have hcm : grownCap w (n + m) old e ≤ maxLen := grownCap_le_maxLen w (n + m) old e h63
    refine ⟨⟨hlen, .inr ⟨w.heap.size, 0, _, _, rfl, heap_alloc_new w.drew _, hge, hcm, ?_, ?_⟩⟩, ⟨rfl, rfl, rfl, by simp, fun k hk _ => Below.heap_alloc w.drew _ k hk⟩⟩
    · simp only [Array.size_append, List.size_toArray, size_zeroCells, hzs, hrow.1, hsrc.1, ← Nat.add_mul]
      rw [Nat.zero_add]
      apply Nat.mul_le_mul_right
      omega
    · simp only [Array.toList_append, List.append_assoc, List.drop_zero]
      rw [← List.append_assoc, ← hlen]
      exact List.take_left
  by_cases hm0 : m = 0
  · subst hm0
    have hn : news = [] := List.eq_nil_of_length_eq_zero (by simpa using hsrc.1)
    subst hn
    obtain ⟨A', c', rfl, hc1, hc2⟩ := hrow.form
    refine ⟨_, w, ?_, by simpa using hrow, World.grownBy.refl w _, .inl rfl⟩
    cases A <;> cases A' <;> simp [Builtin.append_, run_underlying ht, sizeOf, typeInfo, hi, Builtin.lenOf, Builtin.firstCells, loadCells, loadCellsFrom, hc1, storeCells]
  · obtain ⟨ad, rfl, hnews⟩ := hsrc.2 (by omega)
    rcases hrow.2 with ⟨rfl, rfl⟩ | ⟨g, o, cap, cur, rfl, hb, hnc, hcm, hcs, htake⟩
    · have hx : xs = [] := List.eq_nil_of_length_eq_zero (by simpa using hrow.1)
      subst hx
      have hr := run_append_nil (P := P) w t ty e i z ht hi hz ad m c news hsrc.1 hnews (by omega) (by omega) (by have hb := hbytes; simp only [Nat.zero_add] at hb; omega)
      have hgr := grown 0 (by omega) (Value.ownBlock (.slice none 0 0))
      simp only [Nat.zero_add, List.nil_append, Array.empty_append] at hgr ⊢
      exact ⟨_, _, hr, hgr.1, hgr.2, .inr rfl⟩
    · by_cases hroom : n + m ≤ cap
      · have hmul : (n + m) * i.size ≤ cap * i.size := Nat.mul_le_mul_right _ hroom
        have hfit : o + n * i.size + 0 + news.length ≤ cur.size := by rw [hsrc.1]; rw [Nat.add_mul] at hmul; omega
        have hf := run_firstCells_some (P := P) w i.size m ad m c news hsrc.1 hnews
        have hst := run_storeCells_at P g (o + n * i.size) e news 0 cur w hb hfit h1
        simp only [Nat.add_zero] at hst
        have hr : (Builtin.append_ #[t, t] ty #[.slice (some ⟨g, o, none⟩) n cap, .slice (some ad) m c]).run P w =
            .ok (.slice (some ⟨g, o, none⟩) (n + m) cap) (w.setRow g (cur.toList.take (o + n * i.size) ++ news ++ cur.toList.drop (o + n * i.size + news.length)).toArray) := by
          simp [Builtin.append_, run_underlying ht, sizeOf, typeInfo, hi, Builtin.lenOf, hroom, hf, addAt, hst]
        refine ⟨_, _, hr, ⟨hlen, .inr ⟨g, o, cap, _, rfl, setRow_heap w g cur _ e _ hb, hroom, hcm, ?_, ?_⟩⟩, ⟨rfl, rfl, rfl, by simp, fun k _ hk => setRow_other w g k _ (fun e => hk (by simp [Value.ownBlock, e]))⟩, .inl rfl⟩
        · simp only [List.size_toArray, List.length_append, List.length_take, List.length_drop, Array.length_toList]
          omega
        · have ho : o ≤ (cur.toList.take (o + n * i.size)).length := by simp only [List.length_take, Array.length_toList]; omega
          have hd : (cur.toList.take (o + n * i.size)).drop o = xs := by rw [List.drop_take, Nat.add_sub_cancel_left]; exact htake
          simp only [List.append_assoc]
          rw [List.drop_append_of_le_length ho, hd, ← List.append_assoc, ← hlen]
          exact List.take_left
      · have holds : ∀ j u, xs[j]? = some u → w.cell? ((⟨g, o, none⟩ : Addr).add j) = some u := by
          have hs := (show Row w e i.size (.slice (some ⟨g, o, none⟩) n cap) n xs from hrow).src
          intro j u hu
          rcases Nat.eq_zero_or_pos n with h0 | h0
          · subst h0
            have hx : xs = [] := List.eq_nil_of_length_eq_zero (by simpa using hrow.1)
            subst hx
            simp at hu
          · obtain ⟨ad', he, hc⟩ := hs.2 h0
            injection he with he
            subst he
            exact hc j u hu
        have hr := run_append_grow (P := P) w t ty e i z ht hi hz ⟨g, o, none⟩ n cap xs hrow.1 holds ad m c news hsrc.1 hnews (by omega) (by omega) (growslice_fits (by omega) hbytes)
        have hgr := grown cap (by omega) (Value.ownBlock (.slice (some ⟨g, o, none⟩) n cap))
        exact ⟨_, _, hr, hgr.1, hgr.2, .inr rfl⟩

theorem Elem.sz {t e : TypeId} {size bytes : Nat} {z : Value} (E : Elem P t e size bytes z) : (sizeOf e).run P w = .ok size w := by
  obtain ⟨i, hi, _, hsize, _⟩ := info_parts E.info
  simp [sizeOf, typeInfo, hi, hsize]
/-- 's[k:]', 's[:k]', 's[:k:m]' of a slice. -/
theorem run_from {t e : TypeId} {size bytes : Nat} {z : Value} (E : Elem P t e size bytes z) (A : Option Addr) (n c k : Nat) (i : Int) (hi : i = k) (hk : k ≤ n) :
    (Instr.slice t (.slice A n c) (some (.int .i64 i)) none none).run P w = .ok (.slice (if c = k then A else A.map (·.add (k * size))) (n - k) (c - k)) w := by
  subst hi
  have h1 : (0 : Int) ≤ k ∧ (k : Int) ≤ n := by omega
  simp [Instr.slice, Instr.sliceBounds, run_underlying E.slice, E.sz, run_sliceBound_if, h1]
theorem run_upto {t e : TypeId} {size bytes : Nat} {z : Value} (E : Elem P t e size bytes z) (A : Option Addr) (n c k : Nat) (i : Int) (hi : i = k) (hk : k ≤ c) :
    (Instr.slice t (.slice A n c) none (some (.int .i64 i)) none).run P w = .ok (.slice A k c) w := by
  subst hi
  have h1 : (0 : Int) ≤ k ∧ (k : Int) ≤ c := by omega
  have h2 : (A.map (·.add 0)) = A := by cases A <;> simp [Addr.add]
  simp [Instr.slice, Instr.sliceBounds, run_underlying E.slice, E.sz, run_sliceBound_if, h1, h2]
theorem run_upto3 {t e : TypeId} {size bytes : Nat} {z : Value} (E : Elem P t e size bytes z) (A : Option Addr) (n c k m : Nat) (i j : Int) (hi : i = k) (hj : j = m) (hk : k ≤ m) (hm : m ≤ c) :
    (Instr.slice t (.slice A n c) none (some (.int .i64 i)) (some (.int .i64 j))).run P w = .ok (.slice A k m) w := by
  subst hi hj
  have h1 : (0 : Int) ≤ k ∧ (k : Int) ≤ m := by omega
  have h3 : (0 : Int) ≤ m ∧ (m : Int) ≤ c := by omega
  have h2 : (A.map (·.add 0)) = A := by cases A <;> simp [Addr.add]
  simp [Instr.slice, Instr.sliceBounds, run_underlying E.slice, E.sz, run_sliceBound_if, h1, h2, h3]
  intro h
  omega

/-- append, at the operation. -/
theorem wp_app {o : Oper} {a : Act} {K : Act → World → Prop} {Q : Exit → Act → World → Prop} {t e : TypeId} {size bytes : Nat} {z : Value} (E : Elem P t e size bytes z) (s x : Operand)
    (ho : o.op = .call { callee := .builtin .append, args := #[s, x], argTypes := #[t, t] })
    {v : Value} {n : Nat} {xs : List Value} (hrow : Row w e size v n xs) {A : Option Addr} {m : Nat} {news : List Value} (hsrc : Src w A size m news) (c : Nat) (hs : a.eval s = v) (hx : a.eval x = .slice A m c) (h1 : ∀ u ∈ news, u.oneCell' = true)
    (h63 : n + m ≤ maxLen) (hbytes : (n + m) * bytes ≤ 140737488355328)
    (h : ∀ v' w', Row w' e size v' (n + m) (xs ++ news) → w.grownBy w' v.ownBlock → (v'.ownBlock = v.ownBlock ∨ v'.ownBlock = some w.heap.size) → K (a.put o.dst v') w') : o.wp P a w K Q := by
  obtain ⟨v', w', hrun, h2, h3, h4⟩ := run_app (P := P) w E o.type v n xs hrow A m c news hsrc h1 h63 hbytes
  unfold Oper.wp execOp
  simp only [ho, resolve, invoke, builtin, Sem.run_bind, Sem.run_pure, Result.andThen_ok, List.map_toArray, List.map_cons, List.map_nil, hs, hx, hrun]
  exact h v' w' h2 h3 h4
theorem wpList_app {ops : Array Oper} {rest : List Oper} {o : Oper} {a : Act} {Q : Exit → Act → World → Prop} (hgd : o.guard = none) {t e : TypeId} {size bytes : Nat} {z : Value} (E : Elem P t e size bytes z) (s x : Operand)
    (ho : o.op = .call { callee := .builtin .append, args := #[s, x], argTypes := #[t, t] })
    {v : Value} {n : Nat} {xs : List Value} (hrow : Row w e size v n xs) {A : Option Addr} {m : Nat} {news : List Value} (hsrc : Src w A size m news) (c : Nat) (hs : a.eval s = v) (hx : a.eval x = .slice A m c) (h1 : ∀ u ∈ news, u.oneCell' = true)
    (h63 : n + m ≤ maxLen) (hbytes : (n + m) * bytes ≤ 140737488355328)
    (h : ∀ v' w', Row w' e size v' (n + m) (xs ++ news) → w.grownBy w' v.ownBlock → (v'.ownBlock = v.ownBlock ∨ v'.ownBlock = some w.heap.size) → wpList P ops Q rest (a.put o.dst v') w') :
    wpList P ops Q (o :: rest) a w :=
  wpList_plain hgd fun K hK => wp_app w E s x ho hrow hsrc c hs hx h1 h63 hbytes fun v' w' h2 h3 h4 => hK _ _ (h v' w' h2 h3 h4)
theorem step_app {ops : Array Oper} {o : Oper} {a : Act} {K : Act → World → Prop} {Q : Exit → Act → World → Prop} {F : Prop} (hgd : o.guard = none) {t e : TypeId} {size bytes : Nat} {z : Value} (E : Elem P t e size bytes z) (s x : Operand)
    (ho : o.op = .call { callee := .builtin .append, args := #[s, x], argTypes := #[t, t] })
    {v : Value} {n : Nat} {xs : List Value} (hrow : Row w e size v n xs) {A : Option Addr} {m : Nat} {news : List Value} (hsrc : Src w A size m news) (c : Nat) (hs : a.eval s = v) (hx : a.eval x = .slice A m c) (h1 : ∀ u ∈ news, u.oneCell' = true)
    (h63 : n + m ≤ maxLen) (hbytes : (n + m) * bytes ≤ 140737488355328)
    (h : ∀ A' c' w', Row w' e size (.slice A' (n + m) c') (n + m) (xs ++ news) → w.grownBy w' v.ownBlock → (Value.ownBlock (.slice A' (n + m) c') = v.ownBlock ∨ Value.ownBlock (.slice A' (n + m) c') = some w.heap.size) → K (a.put o.dst (.slice A' (n + m) c')) w') :
    if Region.wanted o (yielded ops a.tmps) = true then Oper.wp P o a w K Q else F := by
  have hw : Region.wanted o (yielded ops a.tmps) = true := by simp [Region.wanted, hgd]
  rw [if_pos hw]
  exact wp_app w E s x ho hrow hsrc c hs hx h1 h63 hbytes fun v' w' h2 h3 h4 => by
    obtain ⟨A', c', rfl, _, _⟩ := h2.form
    exact h A' c' w' h2 h3 h4

/-- copy onto a block that is known. -/
theorem run_copy_src {t e : TypeId} {bytes : Nat} {z : Value} (E : Elem P t e 1 bytes z) (ty : TypeId) (g o dLen dCap : Nat) (cur : Array Value) (hb : Blk w g e cur)
    (A : Option Addr) (m c : Nat) (xs : List Value) (hs : Src w A 1 m xs) (hfit : o + min m dLen ≤ cur.size) (h1 : ∀ u ∈ xs, u.oneCell' = true) :
    (Builtin.copy_ #[t, t] ty #[.slice (some ⟨g, o, none⟩) dLen dCap, .slice A m c]).run P w =
      .ok (goInt ((min m dLen : Nat) : Int)) (w.setRow g (cur.toList.take o ++ xs.take (min m dLen) ++ cur.toList.drop (o + min m dLen)).toArray) := by
  obtain ⟨i, hi, _, hsize, _⟩ := info_parts E.info
  have hs1 : (P.info? e).map (·.size) = some 1 := by rw [hi]; simp [hsize]
  have hxl : xs.length = m := by have := hs.1; omega
  have hl : (xs.take (min m dLen)).length = min m dLen := by rw [List.length_take, hxl]; omega
  cases A with
  | some ad =>
    have hsrc : ∀ j v, (xs.take (min m dLen))[j]? = some v → w.cell? (ad.add j) = some v := by
      intro j v hj
      have hj' : j < (xs.take (min m dLen)).length := (List.getElem?_eq_some_iff.1 hj).1
      obtain ⟨ad', he, hc⟩ := hs.2 (by omega)
      injection he with he
      subst he
      refine hc j v ?_
      rw [List.getElem?_take, if_pos (by omega)] at hj
      exact hj
    have := run_copy_row (P := P) w t t ty e g o dLen dCap ad m c cur e (xs.take (min m dLen)) E.slice hs1 hb (by rw [hl]) hsrc (by rw [hl]; exact hfit) (fun v hv => h1 v (List.mem_of_mem_take hv))
    rw [hl] at this
    exact this
  | none =>
    have hm : m = 0 := by
      rcases Nat.eq_zero_or_pos m with h0 | h0
      · exact h0
      · obtain ⟨ad, he, _⟩ := hs.2 h0
        cases he
    subst hm
    have hself := setRow_self w g cur e (0, 0) hb
    simp only [Nat.zero_min, List.take_zero, List.append_nil, Nat.add_zero, List.take_append_drop, Array.toArray_toList, hself]
    simp [Builtin.copy_, run_underlying E.slice, Builtin.lenOf, Builtin.firstCells, sizeOf, typeInfo, hi, storeCells]
theorem wpList_copy {ops : Array Oper} {rest : List Oper} {o : Oper} {a : Act} {Q : Exit → Act → World → Prop} (hgd : o.guard = none) {t e : TypeId} {bytes : Nat} {z : Value} (E : Elem P t e 1 bytes z) (d s : Operand)
    (ho : o.op = .call { callee := .builtin .copy, args := #[d, s], argTypes := #[t, t] })
    {g off dLen dCap : Nat} {cur : Array Value} (hb : Blk w g e cur) {A : Option Addr} {m : Nat} {xs : List Value} (hs : Src w A 1 m xs) (c : Nat)
    (hd : a.eval d = .slice (some ⟨g, off, none⟩) dLen dCap) (hx : a.eval s = .slice A m c) (hfit : off + min m dLen ≤ cur.size) (h1 : ∀ u ∈ xs, u.oneCell' = true)
    (h : wpList P ops Q rest (a.put o.dst (goInt ((min m dLen : Nat) : Int))) (w.setRow g (cur.toList.take off ++ xs.take (min m dLen) ++ cur.toList.drop (off + min m dLen)).toArray)) :
    wpList P ops Q (o :: rest) a w :=
  wpList_plain hgd fun K hK => by
    have hrun := run_copy_src (P := P) w E o.type g off dLen dCap cur hb A m c xs hs hfit h1
    unfold Oper.wp execOp
    simp only [ho, resolve, invoke, builtin, Sem.run_bind, Sem.run_pure, Result.andThen_ok, List.map_toArray, List.map_cons, List.map_nil, hd, hx, hrun]
    exact hK _ _ h
theorem Blk.setRow {w : World} {g : Nat} {t : TypeId} {cs : Array Value} (h : Blk w g t cs) (cs' : Array Value) : Blk (w.setRow g cs') g t cs' := setRow_heap w g cs cs' t (0, 0) h
theorem Keep.setRow {S : Nat → Prop} {a w : World} (h : Keep S a w) {g : Nat} (hg : S g ∨ a.heap.size ≤ g) (cs : Array Value) : Keep S a (w.setRow g cs) :=
  h.trans (S' := fun i => i = g) ⟨rfl, rfl, rfl, by simp, fun k _ hk => setRow_other w g k cs hk⟩ (fun i hi => by subst hi; exact hg)
/-- make([]T, n), n a number at hand. -/
theorem run_make_n {t e : TypeId} {size bytes : Nat} {z : Value} (E : Elem P t e size bytes z) (n : Nat) (kl kc : IntKind) (i j : Int) (hi : i = n) (hj : j = n) (hb : bytes * n ≤ 281474976710656) (h63 : n ≤ maxLen) :
    (Instr.makeSlice t (.int kl i) (.int kc j)).run P w = .ok (.slice (some ⟨w.heap.size, 0, none⟩) n n) (w.alloc (.cells (madeCells z.cells (n * size)) e)) := by
  subst hi hj
  obtain ⟨ii, hii, hz, hsize, hby⟩ := info_parts E.info
  have h63' : (n : Int) ≤ 9223372036854775807 := by unfold maxLen at h63; omega
  have hr := run_make (P := P) w t e ii z E.slice hii hz kl kc n n (by omega) (Int.le_refl _) (by rw [hby, ← Int.natCast_mul]; omega) h63'
  rw [hsize] at hr
  simpa using hr
end
/-- A region that draws its order, whose last operations alone write: the head in the order of the text, in one world. -/
theorem region_tail {P : Program} {id : Nat} {Q : Exit → Act → World → Prop} {a : Act} {w : World} {l : List Oper} (n : Nat) (hm : P.follows .mixedOrders = true) (hB : Region.lexTailB .any l.toArray n = true)
    (h : wpStill P l.toArray w.drew (fun a' => wpList P l.toArray Q (l.drop n) a' w.drew) (l.take n) a) : (Code.region id l.toArray true).wp P Q a w := wp_region_still_tail n hm hB h
end Go.Proofs.Ytmohpjkbhpgidaa.U
