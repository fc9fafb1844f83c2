/-
  The rwlock: what it is; New, open, give.
-/
import Derived.Test.YtmohpjkbhpgidaaMC
namespace Go.Proofs.Ytmohpjkbhpgidaa.A
open Go.RowKit Go.Proofs.Ytmohpjkbhpgidaa.U
set_option linter.unusedVariables false
set_option linter.unusedSimpArgs false
set_option maxRecDepth 100000

def putI : List Int → Int → List Int
  | [], x => [x]
  | y :: l, x => if y < x then y :: putI l x else x :: y :: l
theorem put_eq : ∀ (W : List Int) (x : Int) (k : Nat), k ≤ W.length → (∀ (j : Nat) (y : Int), j < k → W[j]? = some y → y < x) → (∀ (j : Nat) (y : Int), k ≤ j → W[j]? = some y → x ≤ y) → W.take k ++ [x] ++ W.drop k = putI W x
  | [], x, k, hk, h1, h2 => by simp [putI]
  | y :: l, x, 0, hk, h1, h2 => by
    have := h2 0 y (by omega) rfl
    simp [putI, show ¬ (y < x) by omega]
  | y :: l, x, k + 1, hk, h1, h2 => by
    have := h1 0 y (by omega) rfl
    have ih := put_eq l x k (by simpa using hk) (fun j z hj hz => h1 (j + 1) z (by omega) (by simpa using hz)) (fun j z hj hz => h2 (j + 1) z (by omega) (by simpa using hz))
    simp only [putI, if_pos this, ← ih]
    simp
theorem putI_len (W : List Int) (x : Int) : (putI W x).length = W.length + 1 := by
  induction W with
  | nil => rfl
  | cons y l ih => unfold putI; split <;> simp [ih]
theorem ints_put (W : List Int) (x : Int) (k : Nat) : (ints W).take (k * 1) ++ (#[Value.int .i64 x] : Array Value).toList ++ (ints W).drop (k * 1) = ints (W.take k ++ [x] ++ W.drop k) := by
  simp [ints, List.map_take, List.map_drop]
def rwP (b : Nat) (W : List Int) (wr : Bool) (L : List Wt) : SP := fun w F => ∃ v u, Blk w b 115 #[v, u, .bool wr] ∧ Row w 119 3 v L.length (wts L) ∧ Row w 3 1 u W.length (ints W) ∧ ∀ k, F k ↔ k = b ∨ v.ownBlock = some k ∨ u.ownBlock = some k
theorem rwP_stable (b : Nat) (W : List Int) (wr : Bool) (L : List Wt) : Stable (rwP b W wr L) where
  keep := fun ⟨v, u, hb, hr, hs, hF⟩ hk hn => ⟨v, u, hb.keep hk (hn b ((hF b).2 (.inl rfl))), hr.keep hk (fun g hg => hn g ((hF g).2 (.inr (.inl hg)))), hs.keep hk (fun g hg => hn g ((hF g).2 (.inr (.inr hg)))), hF⟩
  lt := fun ⟨v, u, hb, hr, hs, hF⟩ hk => by
    rcases (hF _).1 hk with h | h | h
    · rw [h]; exact hb.lt
    · exact hr.lt _ h
    · exact hs.lt _ h
theorem rwP_new (w : World) : rwP w.heap.size [] false [] (w.alloc (.cells #[.slice none 0 0, .slice none 0 0, .bool false] 115)) (fun k => k = w.heap.size) :=
  ⟨.slice none 0 0, .slice none 0 0, Blk.fresh w 115 _, Row.nil _ 119 3, Row.nil _ 3 1, fun k => by simp [Value.ownBlock]⟩
/-- What came of it, in parts. -/
theorem rwP_step {w w' : World} {b : Nat} {W' : List Int} {wr' : Bool} {L' : List Wt} {v u v' u' : Value} {F : Nat → Prop} (hF : ∀ k, F k ↔ k = b ∨ v.ownBlock = some k ∨ u.ownBlock = some k)
    (hk : Keep (fun k => k = b ∨ v.ownBlock = some k ∨ u.ownBlock = some k) w w') (hb : Blk w' b 115 #[v', u', .bool wr']) (hr : Row w' 119 3 v' L'.length (wts L')) (hs : Row w' 3 1 u' W'.length (ints W'))
    (ho : ∀ k, v'.ownBlock = some k → v.ownBlock = some k ∨ w.heap.size ≤ k) (hp : ∀ k, u'.ownBlock = some k → u.ownBlock = some k ∨ w.heap.size ≤ k) : Step w F (rwP b W' wr' L') w' :=
  ⟨fun k => k = b ∨ v'.ownBlock = some k ∨ u'.ownBlock = some k, ⟨v', u', hb, hr, hs, fun _ => Iff.rfl⟩, hk.wider (fun i hi => .inl ((hF i).2 hi)), fun k hk => by
    rcases hk with h | h | h
    · exact .inl ((hF k).2 (.inl h))
    · exact (ho k h).imp (fun h => (hF k).2 (.inr (.inl h))) id
    · exact (hp k h).imp (fun h => (hF k).2 (.inr (.inr h))) id⟩
theorem rwnew_calls (w : World) : Calls Try.prog 19 #[] w (fun e w' => e = .returned (.pointer (some ⟨w.heap.size, 0, none⟩)) ∧ w' = w.alloc (.cells #[.slice none 0 0, .slice none 0 0, .bool false] 115)) := by
  have hu := Try.underlying115
  go_enter Try.func19, Try.ntmps19
  go_wp2_with fail
  go_ret
  exact ⟨rfl, rfl⟩
def openB (W : List Int) (wr r : Bool) : Bool := W.isEmpty || (r && !wr)
theorem open_calls (w : World) (b : Nat) (v u : Value) (W : List Int) (wr : Bool) (hb : Blk w b 115 #[v, u, .bool wr]) (hs : Row w 3 1 u W.length (ints W)) (r : Bool) :
    Calls Try.prog 73 #[.pointer (some ⟨b, 0, none⟩), .bool r] w (fun e w' => e = .returned (.bool (openB W wr r)) ∧ w' = w) := by
  have hu := Try.underlying115
  obtain ⟨A, c, rfl, _, _⟩ := hs.form
  have hc1 := hb.cell 1
  have hc2 := hb.cell 2
  clear hb hs
  cases W with
  | nil =>
    go_enter Try.func73, Try.ntmps73
    go_wp2_with fail
    go_ret
    exact ⟨rfl, rfl⟩
  | cons y W =>
    have g0 : (((W.length + 1 : Nat) : Int) == 0) = false := by rw [beq_eq_false_iff_ne]; omega
    cases r with
    | false =>
      go_enter Try.func73, Try.ntmps73
      go_wp2_with fail
      go_ret
      exact ⟨rfl, rfl⟩
    | true =>
      go_enter Try.func73, Try.ntmps73
      go_wp2_with fail
      go_ret
      exact ⟨by cases wr <;> rfl, rfl⟩
/-- What give makes of the block: the queue as it was. -/
def GivePost (w : World) (b : Nat) (v u : Value) (W : List Int) (x : Int) (r : Bool) (e : Ending) (w' : World) : Prop :=
  e = .returned (.tuple #[]) ∧ ∃ u', Blk w' b 115 #[v, u', .bool (!r)] ∧ Row w' 3 1 u' (putI W x).length (ints (putI W x)) ∧ Keep (fun k => k = b ∨ u.ownBlock = some k) w w' ∧ ∀ k, u'.ownBlock = some k → u.ownBlock = some k ∨ w.heap.size ≤ k
set_option maxHeartbeats 3200000 in
theorem give_calls (w : World) (b : Nat) (v u : Value) (W : List Int) (wr : Bool) (hb : Blk w b 115 #[v, u, .bool wr]) (hs : Row w 3 1 u W.length (ints W)) (hW : W.length ≤ 1000000) (hri : Rising W) (x : Int) (r : Bool) :
    Calls Try.prog 75 #[.pointer (some ⟨b, 0, none⟩), .int .i64 x, .bool r] w (GivePost w b v u W x r) := by
  have hu := Try.underlying115
  obtain ⟨A, c, rfl, _, _⟩ := hs.form
  have hc1 := hb.cell 1
  have hc1a := (hb.alloc (.cells #[.int .i64 x] 3)).cell 1
  have B := Lib.hid hb
  have S := Lib.hid hs
  have AP := Lib.hid (hs.apart hb (by decide))
  have HB := Lib.hid (search_calls w A W.length c W x hs.src hW hri)
  clear hb hs hri
  go_enter Try.func75, Try.ntmps75
  go_wp2_with fail
  refine HB.out.mono ?_
  rintro e w1 ⟨k, bb, rfl, hk, hlo, hhi, rfl⟩
  have PE := Lib.hid (put_eq W x k hk hlo hhi)
  have HI := Lib.hid (ii_insert (w1.alloc (.cells #[.int .i64 x] 3)) (.slice A W.length c) W.length (ints W) (S.out.alloc _) k hk w1.heap.size #[.int .i64 x] (Blk.fresh w1 3 _) rfl
    (fun h => by have := S.out.lt _ h; omega) (ints_one W) (by simp [Value.oneCell']) hW)
  clear hk hlo hhi
  go_wp2_with fail
  refine HI.out.mono ?_
  rintro e w2 ⟨u2, rfl, hr2, hg2, ho2⟩
  rw [ints_put, PE.out] at hr2
  obtain ⟨A2, c2, rfl, _, _⟩ := hr2.form
  have R2 := Lib.hid hr2
  have G2 := Lib.hid hg2
  have O2 := Lib.hid (show ∀ k, (Value.slice A2 (W.length + 1) c2).ownBlock = some k → (Value.slice A W.length c).ownBlock = some k ∨ w1.heap.size ≤ k from fun k hk => by
    rcases ho2 with h | ⟨g, h, h'⟩
    · exact .inl (by rw [← h]; exact hk)
    · rw [h] at hk
      injection hk with hk
      simp at h'
      right; omega)
  have B2 := Lib.hid ((B.out.alloc (.cells #[.int .i64 x] 3)).grown hg2 AP.out)
  have f1 := B2.out.free 1
  have f2 := B2.out.free 2
  have e1 := B2.out.cell 1
  have e2 := B2.out.cell 2
  have B3 := Lib.hid (B2.out.put 1 (.slice A2 (W.length + 1) c2))
  have f3 := B3.out.free 2
  have e3 := B3.out.cell 2
  clear hr2 hg2 ho2
  go_wp2_with fail
  go_end0
  have hne : (Value.slice A2 (W.length + 1) c2).ownBlock ≠ some b := fun e => by
    rcases O2.out b e with h | h
    · exact AP.out h
    · have := B.out.lt; omega
  refine ⟨rfl, .slice A2 (W.length + 1) c2, B3.out.put 2 _, ?_, ?_, O2.out⟩
  · rw [putI_len]
    exact (R2.out.far (p := ⟨b, 1, none⟩) hne _).far (p := ⟨b, 2, none⟩) hne _
  · exact ((((Keep.same _ w1).alloc _).grown G2.out (fun i hi => .inl (.inr hi))).set (p := ⟨b, 1, none⟩) (.inl (.inl rfl)) _).set (p := ⟨b, 2, none⟩) (.inl (.inl rfl)) _
end Go.Proofs.Ytmohpjkbhpgidaa.A
