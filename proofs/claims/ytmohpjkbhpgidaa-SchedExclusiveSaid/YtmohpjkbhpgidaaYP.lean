/-
  Rows of operations that a law makes; SchedOnce. Printed by gen_yp.py.
-/
import Derived.Test.YtmohpjkbhpgidaaYO
import Derived.Test.YtmohpjkbhpgidaaR
namespace Go.Proofs.Ytmohpjkbhpgidaa.A
open Go.ChangeShapes Go.WideShapes Go.ChangeAt Go.RowKit Go.Joins Go.Proofs.Ytmohpjkbhpgidaa.U
set_option linter.unusedVariables false
set_option linter.unusedSimpArgs false
set_option maxRecDepth 100000
set_option maxHeartbeats 800000

theorem E89 : Elem Try.prog 89 99 1 24 (.slice none 0 0) := ⟨Try.underlying89, by kernel_rfl, by rfl, by decide⟩
def innP : List (Value × List Op3) → SP
  | [] => none_
  | z :: Z => star (rowP 97 3 z.1 z.2.length (opsV z.2)) (innP Z)
theorem innP_stable : ∀ Z, Stable (innP Z)
  | [] => none_stable
  | z :: Z => (rowP_stable _ _ _ _ _).star (innP_stable Z)
theorem innP_push : ∀ (Z : List (Value × List Op3)) (z : Value × List Op3), innP (Z ++ [z]) = star (rowP 97 3 z.1 z.2.length (opsV z.2)) (innP Z)
  | [], z => rfl
  | y :: Z, z => by
    show star _ (innP (Z ++ [z])) = star _ (star _ (innP Z))
    rw [innP_push Z z]; ac_rfl
theorem meas_next {n j : Nat} (h : j < n) (hn : n ≤ 9223372036854775807) : n - (intOf (.int .i64 (wrap64 ((j : Int) + 1)))).toNat < n - (intOf (.int .i64 (j : Int))).toNat := by
  rw [wrap64_in (by omega) (by omega)]
  simp only [intOf]
  omega
/-- A row of rows of operations. -/
abbrev orows (v : Value) (Z : List (Value × List Op3)) : SP := rowP 99 1 v Z.length (Z.map (·.1))
def tksP (v : Value) (Z : List (Value × List Op3)) : SP := star (orows v Z) (innP Z)
theorem tksP_stable (v : Value) (Z : List (Value × List Op3)) : Stable (tksP v Z) := (rowP_stable _ _ _ _ _).star (innP_stable Z)
theorem one_vals (Z : List (Value × List Op3)) (h : ∀ z ∈ Z, z.1.oneCell' = true) : ∀ u ∈ Z.map (·.1), u.oneCell' = true := fun u hu => by
  obtain ⟨z, hz, rfl⟩ := List.mem_map.1 hu
  exact h z hz
section
variable {B : Nat} {w0 w : World} {Q : SP}
theorem inn_rows : ∀ {Z : List (Value × List Op3)} {Q : SP}, Holds B w0 w (star (innP Z) Q) → ∀ z ∈ Z, Row w 97 3 z.1 z.2.length (opsV z.2)
  | [], Q, h, z, hz => by cases hz
  | y :: Z, Q, h, z, hz => by
    have g : Holds B w0 w (star (rowP 97 3 y.1 y.2.length (opsV y.2)) (star (innP Z) Q)) := h.perm (by
      show star (star (rowP 97 3 y.1 y.2.length (opsV y.2)) (innP Z)) Q = _
      ac_rfl)
    rcases List.mem_cons.1 hz with rfl | hz
    · exact g.row
    · exact inn_rows (show Holds B w0 w (star (innP Z) (star (rowP 97 3 y.1 y.2.length (opsV y.2)) Q)) from g.perm (by ac_rfl)) z hz
theorem tks_args {Z : List (Value × List Op3)} {A : Option Addr} {c : Nat} (h : Holds B w0 w (star (tksP (.slice A Z.length c) Z) Q)) (hs : ∀ z ∈ Z, z.2.length ≤ 1000000) : ArgOps w A (Z.map (·.2)) := by
  have h1 : Holds B w0 w (star (orows (.slice A Z.length c) Z) (star (innP Z) Q)) := h.perm (by unfold tksP; ac_rfl)
  have h2 : Holds B w0 w (star (innP Z) (star (orows (.slice A Z.length c) Z) Q)) := h.perm (by unfold tksP; ac_rfl)
  intro k L hk
  rw [List.getElem?_map] at hk
  cases hz : Z[k]? with
  | none => rw [hz] at hk; cases hk
  | some z =>
    rw [hz] at hk
    injection hk with hk
    subst hk
    have hr := inn_rows h2 z (List.mem_of_getElem? hz)
    obtain ⟨Ak, ck, e, _, _⟩ := hr.form
    obtain ⟨ad, rfl, hc⟩ := h1.row.src.2 (by have := (List.getElem?_eq_some_iff.1 hz).1; omega)
    refine ⟨ad, Ak, ck, rfl, ?_, ?_, hs z (List.mem_of_getElem? hz)⟩
    · rw [← e]
      exact hc k z.1 (by rw [List.getElem?_map, hz]; rfl)
    · rw [e] at hr
      exact hr.src
/-- A row of operations that is made beside the rows, and appended to them. -/
theorem tks_made {v : Value} {Z : List (Value × List Op3)} (h : Holds B w0 w (star (tksP v Z) Q)) (hQ : Stable Q) (L : List Op3) (n : Nat) (hn : L.length = n) (hm : n ≤ maxLen) (o : Obj) :
    Holds B w0 ((w.alloc (.cells (opsV L).toArray 97)).alloc o) (star (orows v Z) (star (rowP 97 3 (.slice (some ⟨w.heap.size, 0, none⟩) n n) n (opsV L)) (star (innP Z) Q))) := by
  have h1 := h.newRow ((tksP_stable v Z).star hQ) (Row.fresh w 97 3 n (opsV L).toArray (by simp [opsV_len, hn]) hm) ((Keep.same _ _).alloc _) (fun k hk => by simp [Value.ownBlock] at hk; omega)
  have h2 := h1.alloc ((rowP_stable _ _ _ _ _).star ((tksP_stable v Z).star hQ)) o
  exact h2.perm (by
    unfold tksP
    show star (rowP 97 3 (.slice (some ⟨w.heap.size, 0, none⟩) n n) n (opsV L).toArray.toList) _ = _
    rw [List.toList_toArray]
    ac_rfl)
theorem tks_push {v' u : Value} {Z : List (Value × List Op3)} {L : List Op3} {n m : Nat} (hn : L.length = n) (hm : Z.length + 1 = m) (h : Holds B w0 w (star (rowP 99 1 v' m (Z.map (·.1) ++ [u])) (star (rowP 97 3 u n (opsV L)) (star (innP Z) Q)))) : Holds B w0 w (star (tksP v' (Z ++ [(u, L)])) Q) := by
  subst hn hm
  exact h.perm (by
    unfold tksP orows
    rw [innP_push, List.length_append, List.map_append]
    show star (rowP 99 1 v' (Z.length + 1) (Z.map (·.1) ++ [u])) _ = star (star (rowP 99 1 v' (Z.length + 1) (Z.map (·.1) ++ [u])) _) Q
    ac_rfl)
end
theorem tks_none (w : World) : Holds w.heap.size w w (star (tksP (.slice none 0 0) []) none_) := by
  exact ((Holds.start w).newRow none_stable (Row.nil w 99 1) (Keep.same _ _) (fun k hk => by simp [Value.ownBlock] at hk)).perm (by
      unfold tksP orows
      show star (rowP 99 1 (.slice none 0 0) 0 []) none_ = star (star (rowP 99 1 (.slice none 0 0) 0 []) none_) none_
      have e1 : star none_ none_ = none_ := by
        funext w F
        apply propext
        constructor
        · rintro ⟨F1, F2, h1, h2, h3, h4⟩ k hk
          rcases (h4 k).1 hk with h | h
          · exact h1 k h
          · exact h2 k h
        · intro h
          exact ⟨F, F, h, h, fun k hk => absurd hk (h k), fun k => by simp⟩
      rw [star_assoc', e1])
end Go.Proofs.Ytmohpjkbhpgidaa.A
