/-
  What objects lie in memory apart from each other, each with the blocks that are its own; a call on one leaves the others.
-/
import Derived.Test.YtmohpjkbhpgidaaH
namespace Go.Proofs.Ytmohpjkbhpgidaa.U
open Go.RowKit
set_option linter.unusedVariables false

/-- A thing that lies in memory: the world, and the blocks that are its own. -/
def SP : Type := World → (Nat → Prop) → Prop
/-- It hangs on its own blocks alone, and these are there. -/
structure Stable (P : SP) : Prop where
  keep : ∀ {w w' : World} {F S : Nat → Prop}, P w F → Keep S w w' → (∀ k, F k → ¬ S k) → P w' F
  lt : ∀ {w : World} {F : Nat → Prop} {k : Nat}, P w F → F k → k < w.heap.size
def star (P Q : SP) : SP := fun w F => ∃ F1 F2 : Nat → Prop, P w F1 ∧ Q w F2 ∧ (∀ k, F1 k → ¬ F2 k) ∧ (∀ k, F k ↔ F1 k ∨ F2 k)
theorem Stable.star {P Q : SP} (hP : Stable P) (hQ : Stable Q) : Stable (star P Q) where
  keep := fun ⟨F1, F2, h1, h2, h3, h4⟩ hk hn => ⟨F1, F2, hP.keep h1 hk (fun k hk' => hn k ((h4 k).2 (.inl hk'))), hQ.keep h2 hk (fun k hk' => hn k ((h4 k).2 (.inr hk'))), h3, h4⟩
  lt := fun ⟨F1, F2, h1, h2, h3, h4⟩ hk => by rcases (h4 _).1 hk with h | h; exact hP.lt h1 h; exact hQ.lt h2 h
/-- What a call makes of a thing: it touches that thing's blocks and new ones alone. -/
def Step (w : World) (F : Nat → Prop) (P' : SP) (w' : World) : Prop := ∃ F', P' w' F' ∧ Keep F w w' ∧ ∀ k, F' k → F k ∨ w.heap.size ≤ k
/-- From w0, whose blocks below B have not turned, to w, where the thing P lies, from B on. -/
def Holds (B : Nat) (w0 w : World) (P : SP) : Prop := ∃ F, P w F ∧ Below B w0 w ∧ B ≤ w.heap.size ∧ ∀ k, F k → B ≤ k

section
variable {B : Nat} {w0 w w' : World} {P P' Q R : SP} {F : Nat → Prop}
theorem Holds.below (h : Holds B w0 w P) : Below B w0 w := let ⟨_, _, hb, _, _⟩ := h; hb
theorem Holds.le (h : Holds B w0 w P) : B ≤ w.heap.size := let ⟨_, _, _, hb, _⟩ := h; hb
theorem Holds.get (h : Holds B w0 w P) : ∃ F, P w F := let ⟨F, hp, _⟩ := h; ⟨F, hp⟩
theorem Holds.imp (h : Holds B w0 w P) (hi : ∀ F, P w F → Q w F) : Holds B w0 w Q := let ⟨F, hp, hr⟩ := h; ⟨F, hi F hp, hr⟩
theorem Holds.swap (h : Holds B w0 w (star P Q)) : Holds B w0 w (star Q P) :=
  h.imp fun F ⟨F1, F2, h1, h2, h3, h4⟩ => ⟨F2, F1, h2, h1, fun k hk hk' => h3 k hk' hk, fun k => (h4 k).trans Or.comm⟩
/-- P * (Q * R) gives Q * (R * P). -/
theorem Holds.turn (h : Holds B w0 w (star P (star Q R))) : Holds B w0 w (star Q (star R P)) :=
  h.imp fun F ⟨F1, F2, h1, ⟨F3, F4, h5, h6, h7, h8⟩, h3, h4⟩ =>
    ⟨F3, fun k => F4 k ∨ F1 k, h5, ⟨F4, F1, h6, h1, fun k hk hk' => h3 k hk' ((h8 k).2 (.inr hk)), fun _ => Iff.rfl⟩,
      fun k hk hk' => by rcases hk' with h | h; exact h7 k hk h; exact h3 k h ((h8 k).2 (.inl hk)),
      fun k => by rw [h4, h8]; exact ⟨fun h => by rcases h with h | h | h; exact .inr (.inr h); exact .inl h; exact .inr (.inl h), fun h => by rcases h with h | h | h; exact .inr (.inl h); exact .inr (.inr h); exact .inl h⟩⟩
theorem Holds.left (h : Holds B w0 w (star P Q)) : ∃ F, P w F := let ⟨_, ⟨F1, _, h1, _⟩, _⟩ := h; ⟨F1, h1⟩
theorem Holds.right (h : Holds B w0 w (star P Q)) : ∃ F, Q w F := let ⟨_, ⟨_, F2, _, h2, _⟩, _⟩ := h; ⟨F2, h2⟩
/-- Where nothing old has turned. -/
theorem Holds.kept (h : Holds B w0 w P) (hP : Stable P) (hk : Keep Nothing w w') : Holds B w0 w' P := by
  obtain ⟨F, hp, hb, hB, hF⟩ := h
  exact ⟨F, hP.keep hp hk (fun _ _ h => h), hb.trans (hk.below hB (fun _ h => h.elim)), Nat.le_trans hB hk.size, hF⟩
theorem Holds.drawn (h : Holds B w0 w P) (hP : Stable P) (hk : Drew w w') : Holds B w0 w' P := h.kept hP ((Keep.same _ _).drawn hk)
theorem Holds.drewN (h : Holds B w0 w P) (hP : Stable P) (n : Nat) : Holds B w0 (w.drewN n) P := h.kept hP ((Keep.same _ _).drewN n)
theorem Holds.alloc (h : Holds B w0 w P) (hP : Stable P) (o : Obj) : Holds B w0 (w.alloc o) P := h.kept hP ((Keep.same _ _).alloc o)
/-- A step of the whole thing. -/
theorem Holds.step (h : Holds B w0 w P) {F : Nat → Prop} (hF : ∀ k, F k → B ≤ k) (hs : Step w F P' w') : Holds B w0 w' P' := by
  obtain ⟨_, _, hb, hB, _⟩ := h
  obtain ⟨F', hp, hk, hn⟩ := hs
  exact ⟨F', hp, hb.trans (hk.below hB hF), Nat.le_trans hB hk.size, fun k hk' => by rcases hn k hk' with h | h; exact hF k h; omega⟩
/-- The frame: a step of the left thing leaves the right one. -/
theorem Step.star {F1 F2 : Nat → Prop} (hs : Step w F1 P' w') (hQ : Stable Q) (h2 : Q w F2) (hd : ∀ k, F1 k → ¬ F2 k) : Step w (fun k => F1 k ∨ F2 k) (star P' Q) w' := by
  obtain ⟨F', hp, hk, hn⟩ := hs
  refine ⟨fun k => F' k ∨ F2 k, ⟨F', F2, hp, hQ.keep h2 hk (fun k h h' => hd k h' h), fun k h h' => ?_, fun _ => Iff.rfl⟩, hk.wider (fun k h => .inl (.inl h)), fun k h => ?_⟩
  · rcases hn k h with h1 | h1
    · exact hd k h1 h'
    · have := hQ.lt h2 h'; omega
  · rcases h with h | h
    · rcases hn k h with h1 | h1
      · exact .inl (.inl h1)
      · exact .inr h1
    · exact .inl (.inr h)
theorem Holds.on_left (h : Holds B w0 w (star P Q)) (hQ : Stable Q) {p : Program} {f : FuncId} {args : Array Value} {post : Ending → Prop}
    (c : ∀ F, P w F → Calls p f args w fun e w' => post e ∧ Step w F P' w') : Calls p f args w fun e w' => post e ∧ Holds B w0 w' (star P' Q) := by
  obtain ⟨F, ⟨F1, F2, h1, h2, h3, h4⟩, hb, hB, hF⟩ := h
  refine (c F1 h1).mono fun e w' ⟨he, hs⟩ => ⟨he, ?_⟩
  have H0 : Holds B w0 w (star P Q) := ⟨F, ⟨F1, F2, h1, h2, h3, h4⟩, hb, hB, hF⟩
  exact H0.step (fun k hk => hF k ((h4 k).2 hk)) (hs.star hQ h2 h3)
theorem Holds.on (h : Holds B w0 w P) {p : Program} {f : FuncId} {args : Array Value} {post : Ending → Prop}
    (c : ∀ F, P w F → Calls p f args w fun e w' => post e ∧ Step w F P' w') : Calls p f args w fun e w' => post e ∧ Holds B w0 w' P' := by
  have H0 := h
  obtain ⟨F, h1, hb, hB, hF⟩ := h
  exact (c F h1).mono fun e w' ⟨he, hs⟩ => ⟨he, H0.step hF hs⟩
/-- A store into the left thing's own block, or whatever the walk itself does to it. -/
theorem Holds.did_left (h : Holds B w0 w (star P Q)) (hQ : Stable Q) (c : ∀ F, P w F → Step w F P' w') : Holds B w0 w' (star P' Q) := by
  obtain ⟨F, ⟨F1, F2, h1, h2, h3, h4⟩, hb, hB, hF⟩ := h
  have H0 : Holds B w0 w (star P Q) := ⟨F, ⟨F1, F2, h1, h2, h3, h4⟩, hb, hB, hF⟩
  exact H0.step (fun k hk => hF k ((h4 k).2 hk)) ((c F1 h1).star hQ h2 h3)
/-- A new thing beside what lies there. -/
theorem Holds.more (h : Holds B w0 w Q) (hQ : Stable Q) {F : Nat → Prop} (hp : P w' F) (hk : Keep Nothing w w') (hF : ∀ k, F k → w.heap.size ≤ k) : Holds B w0 w' (star P Q) := by
  have hl := h.le
  obtain ⟨F2, h2, hb, hB, hF2⟩ := h
  exact ⟨fun k => F k ∨ F2 k, ⟨F, F2, hp, hQ.keep h2 hk (fun _ _ h => h), fun k h1 h3 => by have := hF k h1; have := hQ.lt h2 h3; omega, fun _ => Iff.rfl⟩,
    hb.trans (hk.below hB (fun _ h => h.elim)), Nat.le_trans hB hk.size, fun k h => by rcases h with h | h; (have := hF k h; omega); exact hF2 k h⟩
end

/-- Nothing. -/
def none_ : SP := fun _ F => ∀ k, ¬ F k
theorem none_stable : Stable none_ := ⟨fun h _ _ => h, fun h hk => absurd hk (h _)⟩
theorem Holds.start (w : World) : Holds w.heap.size w w none_ := ⟨fun _ => False, fun _ h => h, Below.refl _ _, Nat.le_refl _, fun _ h => h.elim⟩
theorem Holds.lone {B : Nat} {w0 w : World} {P : SP} (h : Holds B w0 w (star P none_)) (hP : ∀ w F F', P w F → (∀ k, F' k ↔ F k) → P w F') : Holds B w0 w P :=
  h.imp fun F ⟨F1, F2, h1, h2, _, h4⟩ => hP _ _ _ h1 fun k => (h4 k).trans ⟨fun h => h.elim id fun h => absurd h (h2 k), .inl⟩
/-- A block that is known whole. -/
def blkP (b : Nat) (t : TypeId) (cs : Array Value) : SP := fun w F => Blk w b t cs ∧ ∀ k, F k ↔ k = b
theorem blkP_stable (b : Nat) (t : TypeId) (cs : Array Value) : Stable (blkP b t cs) :=
  ⟨fun ⟨h, hf⟩ hk hn => ⟨h.keep hk (hn b ((hf b).2 rfl)), hf⟩, fun ⟨h, hf⟩ hk => by rw [(hf _).1 hk]; exact h.lt⟩
theorem Holds.newBlk {B : Nat} {w0 w : World} {Q : SP} (h : Holds B w0 w Q) (hQ : Stable Q) (t : TypeId) (cs : Array Value) : Holds B w0 (w.alloc (.cells cs t)) (star (blkP w.heap.size t cs) Q) :=
  h.more hQ (F := fun k => k = w.heap.size) ⟨Blk.fresh w t cs, fun _ => Iff.rfl⟩ ((Keep.same _ _).alloc _) (fun k hk => by omega)
theorem Holds.setBlk {B : Nat} {w0 w : World} {Q : SP} {b : Nat} {t : TypeId} {cs : Array Value} (h : Holds B w0 w (star (blkP b t cs) Q)) (hQ : Stable Q) (i : Nat) (u : Value) : Holds B w0 (w.setCell ⟨b, i, none⟩ u) (star (blkP b t (cs.setIfInBounds i u)) Q) :=
  h.did_left hQ fun F ⟨hb, hf⟩ => ⟨F, ⟨hb.put i u, hf⟩, (Keep.same F w).set (.inl ((hf b).2 rfl)) u, fun k hk => .inl hk⟩
theorem Holds.drop {B : Nat} {w0 w : World} {P Q : SP} (h : Holds B w0 w (star P Q)) : Holds B w0 w Q := by
  obtain ⟨F, ⟨F1, F2, h1, h2, h3, h4⟩, hb, hB, hF⟩ := h
  exact ⟨F2, h2, hb, hB, fun k hk => hF k ((h4 k).2 (.inr hk))⟩
/-- A slice that is one's own. -/
def rowP (e : TypeId) (size : Nat) (v : Value) (n : Nat) (xs : List Value) : SP := fun w F => Row w e size v n xs ∧ ∀ k, F k ↔ v.ownBlock = some k
theorem rowP_stable (e : TypeId) (size : Nat) (v : Value) (n : Nat) (xs : List Value) : Stable (rowP e size v n xs) :=
  ⟨fun ⟨h, hf⟩ hk hn => ⟨h.keep hk (fun g hg => hn g ((hf g).2 hg)), hf⟩, fun ⟨h, hf⟩ hk => h.lt _ ((hf _).1 hk)⟩
theorem Holds.grew {B : Nat} {w0 w w' : World} {e : TypeId} {size n n' : Nat} {v v' : Value} {xs xs' : List Value} {Q : SP} (h : Holds B w0 w (star (rowP e size v n xs) Q)) (hQ : Stable Q) (hr : Row w' e size v' n' xs') (hg : w.grownBy w' v.ownBlock)
    (hloc : v'.ownBlock = v.ownBlock ∨ v'.ownBlock = some w.heap.size) : Holds B w0 w' (star (rowP e size v' n' xs') Q) :=
  h.did_left hQ fun F ⟨_, hF⟩ => ⟨fun k => v'.ownBlock = some k, ⟨hr, fun _ => Iff.rfl⟩, (Keep.same F w).grown hg (fun i hi => .inl ((hF i).2 hi)), fun k hk => by
    rcases hloc with h1 | h1
    · exact .inl ((hF k).2 (h1 ▸ hk))
    · rw [h1] at hk; injection hk with hk; exact .inr (by omega)⟩
theorem Holds.row {B : Nat} {w0 w : World} {e : TypeId} {size n : Nat} {v : Value} {xs : List Value} {Q : SP} (h : Holds B w0 w (star (rowP e size v n xs) Q)) : Row w e size v n xs := by
  obtain ⟨F, hr, _⟩ := h.left
  exact hr
/-- A row that is made out of new blocks alone. -/
theorem Holds.newRow {B : Nat} {w0 w w' : World} {e : TypeId} {size n : Nat} {v : Value} {xs : List Value} {Q : SP} (h : Holds B w0 w Q) (hQ : Stable Q) (hr : Row w' e size v n xs) (hk : Keep Nothing w w') (hf : ∀ k, v.ownBlock = some k → w.heap.size ≤ k) :
    Holds B w0 w' (star (rowP e size v n xs) Q) :=
  h.more hQ (F := fun k => v.ownBlock = some k) ⟨hr, fun _ => Iff.rfl⟩ hk hf
/-- Two appends, the first from nil on: what becomes of the world, where the second row lies. -/
theorem two_fresh {w w1 w3 : World} {v1 v3 : Value} (K1 : Keep Nothing w w1) (Y1 : v1.ownBlock = none ∨ v1.ownBlock = some w.heap.size) (G3 : w1.grownBy w3 v1.ownBlock) (Y3 : v3.ownBlock = v1.ownBlock ∨ v3.ownBlock = some w1.heap.size) :
    Keep Nothing w w3 ∧ ∀ k, v3.ownBlock = some k → w.heap.size ≤ k := by
  have hsz : w.heap.size ≤ w1.heap.size := K1.size
  refine ⟨K1.grown G3 (fun i hi => .inr (by
    rcases Y1 with h | h
    · rw [h] at hi; cases hi
    · rw [h] at hi; injection hi with hi; omega)), fun k hk => ?_⟩
  rcases Y3 with h | h
  · rw [h] at hk
    rcases Y1 with h' | h'
    · rw [h'] at hk; cases hk
    · rw [h'] at hk; injection hk with hk; omega
  · rw [h] at hk; injection hk with hk; omega
theorem rowP_nil (w : World) (e : TypeId) (size : Nat) : rowP e size (.slice none 0 0) 0 [] w (fun _ => False) := ⟨Row.nil w e size, fun k => by simp [Value.ownBlock]⟩
end Go.Proofs.Ytmohpjkbhpgidaa.U
