/-
  The scheduler: its objects, of all four kinds. Printed by gen_ya.py.
-/
import Derived.Test.YtmohpjkbhpgidaaVD
import Derived.Test.YtmohpjkbhpgidaaMC
import Derived.Test.YtmohpjkbhpgidaaRF
import Derived.Test.YtmohpjkbhpgidaaC
import Derived.Test.YtmohpjkbhpgidaaE
namespace Go.Proofs.Ytmohpjkbhpgidaa.A
open Go.RowKit Go.Proofs.Ytmohpjkbhpgidaa.U
set_option linter.unusedVariables false
set_option linter.unusedSimpArgs false
set_option maxRecDepth 100000
set_option maxHeartbeats 1600000

/-- What an object is: a mutex, an rwlock, a group, a once. -/
inductive OS where
  | m (h : Bool) (who : Int) (L : List Wt)
  | r (W : List Int) (wr : Bool) (L : List Wt)
  | g (n : Int) (L : List Int)
  | o (W : Int) (ov : Bool) (L : List Int)
def OS.kd : OS → Int
  | .m .. => 109
  | .r .. => 119
  | .g .. => 103
  | .o .. => 111
def tyOf (kd : Int) : Nat := if kd = 109 then 172 else if kd = 119 then 174 else if kd = 103 then 176 else 178
def fresh (kd : Int) : OS := if kd = 109 then .m false 0 [] else if kd = 119 then .r [] false [] else if kd = 103 then .g 0 [] else .o (-1) false []
def OS.P (b : Nat) : OS → SP
  | .m h who L => mP b h who L
  | .r W wr L => rwP b W wr L
  | .g n L => qP 135 b [.int .i64 n] L
  | .o W ov L => oP b W ov L
theorem OS.P_stable (b : Nat) : ∀ s, Stable (OS.P b s)
  | .m .. => mP_stable _ _ _ _
  | .r .. => rwP_stable _ _ _ _
  | .g .. => qP_stable _ _ _ _
  | .o .. => oP_stable _ _ _ _
/-- An object of the scheduler: its number, its block, its state. -/
structure Ob where
  num : Int
  g : Nat
  st : OS
abbrev Ob.key (o : Ob) : Int × Int := (o.st.kd, o.num)
abbrev Ob.v (o : Ob) : Value := .iface (tyOf o.st.kd) (.agg #[.pointer (some ⟨o.g, 0, none⟩)])
abbrev Ob.P (o : Ob) : SP := OS.P o.g o.st
theorem Ob.P_stable (o : Ob) : Stable o.P := OS.P_stable _ _
def obM (O : List Ob) : List ((Int × Int) × Value) := O.map fun o => (o.key, o.v)
def obsP : List Ob → SP
  | [] => none_
  | o :: O => star o.P (obsP O)
theorem obsP_stable : ∀ O, Stable (obsP O)
  | [] => none_stable
  | o :: O => o.P_stable.star (obsP_stable O)
theorem obsP_take : ∀ (O : List Ob) (i : Nat) (o : Ob), O[i]? = some o → ∃ R, Stable R ∧ obsP O = star o.P R ∧ ∀ o', obsP (O.set i o') = star o'.P R
  | [], i, x, h => by simp at h
  | y :: l, 0, x, h => by
    simp only [List.getElem?_cons_zero, Option.some.injEq] at h
    subst h
    exact ⟨obsP l, obsP_stable l, rfl, fun o' => rfl⟩
  | y :: l, i + 1, x, h => by
    obtain ⟨R, hR, e1, e2⟩ := obsP_take l i x (by simpa using h)
    refine ⟨star y.P R, y.P_stable.star hR, ?_, fun o' => ?_⟩
    · show star y.P (obsP l) = _
      rw [e1]; ac_rfl
    · show star y.P (obsP (l.set i o')) = _
      rw [e2]; ac_rfl
theorem obsP_push : ∀ (O : List Ob) (o : Ob), obsP (O ++ [o]) = star o.P (obsP O)
  | [], o => rfl
  | y :: l, o => by
    show star y.P (obsP (l ++ [o])) = star o.P (star y.P (obsP l))
    rw [obsP_push l o]; ac_rfl
theorem look_ob : ∀ (O : List Ob) (n : Int × Int), (lookM (obM O) n = none ∧ ∀ o ∈ O, o.key ≠ n) ∨ ∃ (i : Nat) (o : Ob), O[i]? = some o ∧ o.key = n ∧ lookM (obM O) n = some o.v ∧ ∀ (j : Nat) (o' : Ob), j < i → O[j]? = some o' → o'.key ≠ n
  | [], n => .inl ⟨rfl, fun o h => by cases h⟩
  | y :: O, n => by
    have hc : lookM (obM (y :: O)) n = if n = y.key then some y.v else lookM (obM O) n := rfl
    by_cases hy : y.key = n
    · exact .inr ⟨0, y, rfl, hy, by rw [hc, if_pos hy.symm], fun j o' hj => by omega⟩
    · rw [hc, if_neg (fun e => hy e.symm)]
      rcases look_ob O n with ⟨h1, h2⟩ | ⟨i, o, h1, h2, h3, h4⟩
      · exact .inl ⟨h1, fun o ho => by
          rcases List.mem_cons.1 ho with rfl | ho
          · exact hy
          · exact h2 o ho⟩
      · refine .inr ⟨i + 1, o, by simpa using h1, h2, h3, fun j o' hj ho' => ?_⟩
        cases j with
        | zero => simp at ho'; subst ho'; exact hy
        | succ j => exact h4 j o' (by omega) (by simpa using ho')
theorem make104 (w : World) : Calls Try.prog 104 #[] w (fun e w' => e = .returned (.iface 172 (.agg #[.pointer (some ⟨w.heap.size, 0, none⟩)])) ∧ w' = w.alloc (.cells #[.slice none 0 0, .bool false, .int .i64 0] 128)) := by
  have H := Lib.hid (mnew_calls w)
  have hu := Try.underlying172
  go_enter Try.func104, Try.ntmps104
  go_wp2_with fail
  refine H.out.mono ?_
  rintro e w1 ⟨rfl, rfl⟩
  go_wp2_with fail
  go_ret
  exact ⟨rfl, rfl⟩
theorem make105 (w : World) : Calls Try.prog 105 #[] w (fun e w' => e = .returned (.iface 174 (.agg #[.pointer (some ⟨w.heap.size, 0, none⟩)])) ∧ w' = w.alloc (.cells #[.slice none 0 0, .slice none 0 0, .bool false] 115)) := by
  have H := Lib.hid (rwnew_calls w)
  have hu := Try.underlying174
  go_enter Try.func105, Try.ntmps105
  go_wp2_with fail
  refine H.out.mono ?_
  rintro e w1 ⟨rfl, rfl⟩
  go_wp2_with fail
  go_ret
  exact ⟨rfl, rfl⟩
theorem make106 (w : World) : Calls Try.prog 106 #[] w (fun e w' => e = .returned (.iface 174 (.agg #[.pointer (some ⟨w.heap.size, 0, none⟩)])) ∧ w' = w.alloc (.cells #[.slice none 0 0, .slice none 0 0, .bool false] 115)) := by
  have H := Lib.hid (rwnew_calls w)
  have hu := Try.underlying174
  go_enter Try.func106, Try.ntmps106
  go_wp2_with fail
  refine H.out.mono ?_
  rintro e w1 ⟨rfl, rfl⟩
  go_wp2_with fail
  go_ret
  exact ⟨rfl, rfl⟩
theorem make107 (w : World) : Calls Try.prog 107 #[] w (fun e w' => e = .returned (.iface 176 (.agg #[.pointer (some ⟨w.heap.size, 0, none⟩)])) ∧ w' = w.alloc (.cells #[.int .i64 0, .slice none 0 0] 135)) := by
  have H := Lib.hid (gnew_calls w)
  have hu := Try.underlying176
  go_enter Try.func107, Try.ntmps107
  go_wp2_with fail
  refine H.out.mono ?_
  rintro e w1 ⟨rfl, rfl⟩
  go_wp2_with fail
  go_ret
  exact ⟨rfl, rfl⟩
theorem make108 (w : World) : Calls Try.prog 108 #[] w (fun e w' => e = .returned (.iface 178 (.agg #[.pointer (some ⟨w.heap.size, 0, none⟩)])) ∧ w' = w.alloc (.cells #[.bool false, .bool false, .int .i64 0, .slice none 0 0] 132)) := by
  have H := Lib.hid (onew_calls w)
  have hu := Try.underlying178
  go_enter Try.func108, Try.ntmps108
  go_wp2_with fail
  refine H.out.mono ?_
  rintro e w1 ⟨rfl, rfl⟩
  go_wp2_with fail
  go_ret
  exact ⟨rfl, rfl⟩
theorem new_m (w : World) : OS.P w.heap.size (.m false 0 []) (w.alloc (.cells #[.slice none 0 0, .bool false, .int .i64 0] 128)) (fun k => k = w.heap.size) := mP_new w
theorem new_r (w : World) : OS.P w.heap.size (.r [] false []) (w.alloc (.cells #[.slice none 0 0, .slice none 0 0, .bool false] 115)) (fun k => k = w.heap.size) := rwP_new w
theorem new_g (w : World) : OS.P w.heap.size (.g 0 []) (w.alloc (.cells #[.int .i64 0, .slice none 0 0] 135)) (fun k => k = w.heap.size) := q_new w 135 [.int .i64 0]
theorem new_o (w : World) : OS.P w.heap.size (.o (-1) false []) (w.alloc (.cells #[.bool false, .bool false, .int .i64 0, .slice none 0 0] 132)) (fun k => k = w.heap.size) := ⟨false, 0, fun _ => rfl, fun h => absurd h (by decide), fun _ => rfl, q_new w 132 [.bool false, .bool false, .int .i64 0]⟩
theorem step_putN {ops : Array Oper} {o : Oper} {a : Act} {w : World} {K : Act → World → Prop} {Q : Exit → Act → World → Prop} {F : Prop} (hgd : o.guard = none) (m x v : Operand) (ho : o.op = .mapUpdate 136 m x v)
    {bm : Nat} {M : List ((Int × Int) × Value)} (hm : MapN w bm M) (k : Int × Int) (hk : lookM M k = none) (u : Value) (h1 : a.eval m = .map (some bm)) (h2 : a.eval x = nkV k) (h3 : a.eval v = u)
    (h : ∀ w', MapN w' bm (M ++ [(k, u)]) → Keep (fun k => k = bm) w w' → K (a.put o.dst undef) w') :
    if Region.wanted o (yielded ops a.tmps) = true then Oper.wp Try.prog o a w K Q else F := by
  have hw : Region.wanted o (yielded ops a.tmps) = true := by simp [Region.wanted, hgd]
  rw [if_pos hw]
  obtain ⟨w', hrun, hm', hk'⟩ := run_putN hm k hk u
  unfold Oper.wp
  simp [execOp, ho, h1, h2, h3, hrun, Result.andThen]
  exact h w' hm' hk'
section
variable {B : Nat} {w0 w : World} {Q : SP} {b bm : Nat} {X : List (Nat × Tk)} {O : List Ob}
theorem map_at {M : List ((Int × Int) × Value)} (h : Holds B w0 w (star (mapP bm M) Q)) : MapN w bm M := by
  obtain ⟨F, hm, _⟩ := h.left
  exact hm
theorem map_put {M : List ((Int × Int) × Value)} {M' : List ((Int × Int) × Value)} {w' : World} (h : Holds B w0 w (star (mapP bm M) Q)) (hQ : Stable Q) (hm : MapN w' bm M') (hk : Keep (fun k => k = bm) w w') : Holds B w0 w' (star (mapP bm M') Q) :=
  h.did_left hQ fun F ⟨_, hF⟩ => ⟨F, ⟨hm, hF⟩, ⟨hk.os, hk.tape, hk.output, hk.size, fun i hlt hi => hk.block i hlt (fun h => hi ((hF i).2 h))⟩, fun k hk => .inl hk⟩
/-- The scheduler, whole. -/
abbrev schP (b : Nat) (X : List (Nat × Tk)) (bm : Nat) (O : List Ob) : SP := star (coreP b X bm) (star (mapP bm (obM O)) (obsP O))
theorem schP_stable : Stable (schP b X bm O) := (coreP_stable _ _ _).star ((mapP_stable _ _).star (obsP_stable _))
theorem core_blk (h : Holds B w0 w (star (coreP b X bm) Q)) : ∃ A c, Blk w b 139 #[.slice A X.length c, .map (some bm)] := by
  obtain ⟨A, c, h1⟩ := core_open h
  exact ⟨A, c, blk_at' h1⟩
def FindPost (B : Nat) (w0 : World) (b : Nat) (X : List (Nat × Tk)) (bm : Nat) (O : List Ob) (n : Int × Int) (Q : SP) (e : Ending) (w' : World) : Prop :=
  ∃ (O' : List Ob) (i : Nat) (o : Ob), e = .returned o.v ∧ O'[i]? = some o ∧ o.key = n ∧ (∀ (j : Nat) (o' : Ob), j < i → O'[j]? = some o' → o'.key ≠ n) ∧ (O' = O ∨ (O' = O ++ [o] ∧ o.st = fresh n.1 ∧ ∀ o ∈ O, o.key ≠ n)) ∧ Holds B w0 w' (star (schP b X bm O') Q)
end
/-- The kind of object that an operation means. -/
def kindO (k n : Int) : Option Int :=
  if k = 1 ∨ k = 2 then (if n = 0 then some 109 else if n = 1 then some 119 else none) else if k = 3 ∨ k = 4 then some 119 else if k = 5 ∨ k = 6 then some 103 else if k = 7 ∨ k = 8 then some 111 else none
theorem find_nil (w : World) (b : Nat) (x : Op3) (h : kindO x.k x.n = none) : Calls Try.prog 91 #[.pointer (some ⟨b, 0, none⟩), x.val] w (fun e w' => e = .returned .nilIface ∧ Keep Nothing w w') := by
  have hu2 := Try.underlying97
  have X1 := Blk.fresh w 97 x.cs
  have x0 := X1.cell 0
  have x1 := X1.cell 1
  have x2 := X1.cell 2
  clear X1
  have K := Lib.hid ((Keep.same Nothing w).alloc (.cells x.cs 97))
  have hc : ((x.k = 1 ∨ x.k = 2) ∧ x.n ≠ 0 ∧ x.n ≠ 1) ∨ (x.k ≠ 1 ∧ x.k ≠ 2 ∧ x.k ≠ 3 ∧ x.k ≠ 4 ∧ x.k ≠ 5 ∧ x.k ≠ 6 ∧ x.k ≠ 7 ∧ x.k ≠ 8) := by
    unfold kindO at h
    split at h
    · rename_i h1
      split at h
      · cases h
      · split at h
        · cases h
        · rename_i h2 h3
          exact .inl ⟨h1, h2, h3⟩
    · split at h
      · cases h
      · split at h
        · cases h
        · split at h
          · cases h
          · exact .inr (by omega)
  unfold Op3.val Op3.cs
  rcases hc with ⟨h1 | h1, n0, n1⟩ | ⟨h1, h2, h3, h4, h5, h6, h7, h8⟩
  · have D1 : (x.k == 1) = true := by simp [h1]
    have e0 : (x.n == 0) = false := by simp [n0]
    have e1 : (x.n == 1) = false := by simp [n1]
    clear h h1 n0 n1
    go_enter Try.func91, Try.ntmps91
    go_wp2_with fail
    go_ret
    exact ⟨rfl, K.out⟩
  · have D1 : (x.k == 1) = false := by simp [h1]
    have D2 : (x.k == 2) = true := by simp [h1]
    have e0 : (x.n == 0) = false := by simp [n0]
    have e1 : (x.n == 1) = false := by simp [n1]
    clear h h1 n0 n1
    go_enter Try.func91, Try.ntmps91
    go_wp2_with fail
    go_ret
    exact ⟨rfl, K.out⟩
  · have D1 : (x.k == 1) = false := by simp [h1]
    have D2 : (x.k == 2) = false := by simp [h2]
    have D3 : (x.k == 3) = false := by simp [h3]
    have D4 : (x.k == 4) = false := by simp [h4]
    have D5 : (x.k == 5) = false := by simp [h5]
    have D6 : (x.k == 6) = false := by simp [h6]
    have D7 : (x.k == 7) = false := by simp [h7]
    have D8 : (x.k == 8) = false := by simp [h8]
    clear h h1 h2 h3 h4 h5 h6 h7 h8
    go_enter Try.func91, Try.ntmps91
    go_wp2_with fail
    go_ret
    exact ⟨rfl, K.out⟩
end Go.Proofs.Ytmohpjkbhpgidaa.A
