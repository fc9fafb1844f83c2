/-
  The scheduler: its objects (mutexes), find. Printed by gen_ve.py.
-/
import Derived.Test.YtmohpjkbhpgidaaVD
import Derived.Test.YtmohpjkbhpgidaaMC
namespace Go.Proofs.Ytmohpjkbhpgidaa.A
open Go.RowKit Go.Proofs.Ytmohpjkbhpgidaa.U
set_option linter.unusedVariables false
set_option linter.unusedSimpArgs false
set_option maxRecDepth 100000
set_option maxHeartbeats 1600000

section
variable {B : Nat} {w0 w : World} {Q : SP} {b : Nat}
theorem s_mlock {h : Bool} {who : Int} {L : List Wt} (hh : Holds B w0 w (star (mP b h who L) Q)) (hQ : Stable Q) (hL : L.length ≤ 1000000) (x : Int) :
    Calls Try.prog 30 #[.pointer (some ⟨b, 0, none⟩), .int .i64 x] w (fun e w' => e = .returned (.tuple #[.bool (mLock h who L x).1, .int .i64 (mLock h who L x).2.1]) ∧
      Holds B w0 w' (star (mP b (mLock h who L x).2.2.1 (mLock h who L x).2.2.2.1 (mLock h who L x).2.2.2.2) Q)) :=
  hh.on_left hQ (post := fun e => e = .returned (.tuple #[.bool (mLock h who L x).1, .int .i64 (mLock h who L x).2.1])) fun F hm => mlock_calls w b F h who L hm hL x
theorem s_munlock {h : Bool} {who : Int} {L : List Wt} (hh : Holds B w0 w (star (mP b h who L) Q)) (hQ : Stable Q) (hL : L.length ≤ 1000000) (x : Int) :
    Calls Try.prog 32 #[.pointer (some ⟨b, 0, none⟩), .int .i64 x] w (fun e w' => e = .returned (.tuple #[.int .i64 (mUnlock h who L x).1, .int .i64 (mUnlock h who L x).2.1]) ∧
      Holds B w0 w' (star (mP b (mUnlock h who L x).2.2.1 (mUnlock h who L x).2.2.2.1 (mUnlock h who L x).2.2.2.2) Q)) :=
  hh.on_left hQ (post := fun e => e = .returned (.tuple #[.int .i64 (mUnlock h who L x).1, .int .i64 (mUnlock h who L x).2.1])) fun F hm => munlock_calls w b F h who L hm hL x
end
/-- A mutex of the scheduler: its number, its block, its state. -/
structure Ob where
  num : Int
  g : Nat
  h : Bool
  who : Int
  L : List Wt
abbrev Ob.v (o : Ob) : Value := .iface 172 (.agg #[.pointer (some ⟨o.g, 0, none⟩)])
abbrev Ob.P (o : Ob) : SP := mP o.g o.h o.who o.L
def obM (O : List Ob) : List ((Int × Int) × Value) := O.map fun o => ((109, o.num), o.v)
def obsP : List Ob → SP
  | [] => none_
  | o :: O => star o.P (obsP O)
theorem obsP_stable : ∀ O, Stable (obsP O)
  | [] => none_stable
  | o :: O => (mP_stable _ _ _ _).star (obsP_stable O)
theorem obsP_take : ∀ (O : List Ob) (i : Nat) (o : Ob), O[i]? = some o → ∃ R, Stable R ∧ obsP O = star o.P R ∧ ∀ o', obsP (O.set i o') = star o'.P R
  | [], i, x, h => by simp at h
  | y :: l, 0, x, h => by
    simp only [List.getElem?_cons_zero, Option.some.injEq] at h
    subst h
    exact ⟨obsP l, obsP_stable l, rfl, fun o' => rfl⟩
  | y :: l, i + 1, x, h => by
    obtain ⟨R, hR, e1, e2⟩ := obsP_take l i x (by simpa using h)
    refine ⟨star y.P R, (mP_stable _ _ _ _).star hR, ?_, fun o' => ?_⟩
    · show star y.P (obsP l) = _
      rw [e1]; ac_rfl
    · show star y.P (obsP (l.set i o')) = _
      rw [e2]; ac_rfl
theorem obsP_push : ∀ (O : List Ob) (o : Ob), obsP (O ++ [o]) = star o.P (obsP O)
  | [], o => rfl
  | y :: l, o => by
    show star y.P (obsP (l ++ [o])) = star o.P (star y.P (obsP l))
    rw [obsP_push l o]; ac_rfl
theorem look_ob : ∀ (O : List Ob) (n : Int), (lookM (obM O) (109, n) = none ∧ ∀ o ∈ O, o.num ≠ n) ∨ ∃ (i : Nat) (o : Ob), O[i]? = some o ∧ o.num = n ∧ lookM (obM O) (109, n) = some o.v ∧ ∀ (j : Nat) (o' : Ob), j < i → O[j]? = some o' → o'.num ≠ n
  | [], n => .inl ⟨rfl, fun o h => by cases h⟩
  | y :: O, n => by
    have hc : lookM (obM (y :: O)) (109, n) = if ((109 : Int), n) = (109, y.num) then some y.v else lookM (obM O) (109, n) := rfl
    by_cases hy : y.num = n
    · exact .inr ⟨0, y, rfl, hy, by rw [hc, if_pos (by rw [hy])], fun j o' hj => by omega⟩
    · have hne : ((109 : Int), n) ≠ (109, y.num) := fun e => hy (Prod.mk.inj e).2.symm
      rw [hc, if_neg hne]
      rcases look_ob O n with ⟨h1, h2⟩ | ⟨i, o, h1, h2, h3, h4⟩
      · exact .inl ⟨h1, fun o ho => by
          rcases List.mem_cons.1 ho with rfl | ho
          · exact hy
          · exact h2 o ho⟩
      · refine .inr ⟨i + 1, o, by simpa using h1, h2, h3, fun j o' hj ho' => ?_⟩
        cases j with
        | zero => simp at ho'; subst ho'; exact hy
        | succ j => exact h4 j o' (by omega) (by simpa using ho')
theorem find1_calls (w : World) : Calls Try.prog 104 #[] w (fun e w' => e = .returned (.iface 172 (.agg #[.pointer (some ⟨w.heap.size, 0, none⟩)])) ∧ w' = w.alloc (.cells #[.slice none 0 0, .bool false, .int .i64 0] 128)) := by
  have H := Lib.hid (mnew_calls w)
  have hu := Try.underlying172
  go_enter Try.func104, Try.ntmps104
  go_wp2_with fail
  refine H.out.mono ?_
  rintro e w1 ⟨rfl, rfl⟩
  go_wp2_with fail
  go_ret
  exact ⟨rfl, rfl⟩
theorem step_putN {ops : Array Oper} {o : Oper} {a : Act} {w : World} {K : Act → World → Prop} {Q : Exit → Act → World → Prop} {F : Prop} (hgd : o.guard = none) (m x v : Operand) (ho : o.op = .mapUpdate 136 m x v)
    {bm : Nat} {M : List ((Int × Int) × Value)} (hm : MapN w bm M) (k : Int × Int) (hk : lookM M k = none) (u : Value) (h1 : a.eval m = .map (some bm)) (h2 : a.eval x = nkV k) (h3 : a.eval v = u)
    (h : ∀ w', MapN w' bm (M ++ [(k, u)]) → Keep (fun k => k = bm) w w' → K (a.put o.dst undef) w') :
    if Region.wanted o (yielded ops a.tmps) = true then Oper.wp Try.prog o a w K Q else F := by
  have hw : Region.wanted o (yielded ops a.tmps) = true := by simp [Region.wanted, hgd]
  rw [if_pos hw]
  obtain ⟨w', hrun, hm', hk'⟩ := run_putN hm k hk u
  unfold Oper.wp
  simp [execOp, ho, h1, h2, h3, hrun, Result.andThen]
  exact h w' hm' hk'
section
variable {B : Nat} {w0 w : World} {Q : SP} {b bm : Nat} {X : List (Nat × Tk)} {O : List Ob}
theorem map_at {M : List ((Int × Int) × Value)} (h : Holds B w0 w (star (mapP bm M) Q)) : MapN w bm M := by
  obtain ⟨F, hm, _⟩ := h.left
  exact hm
theorem map_put {M : List ((Int × Int) × Value)} {M' : List ((Int × Int) × Value)} {w' : World} (h : Holds B w0 w (star (mapP bm M) Q)) (hQ : Stable Q) (hm : MapN w' bm M') (hk : Keep (fun k => k = bm) w w') : Holds B w0 w' (star (mapP bm M') Q) :=
  h.did_left hQ fun F ⟨_, hF⟩ => ⟨F, ⟨hm, hF⟩, ⟨hk.os, hk.tape, hk.output, hk.size, fun i hlt hi => hk.block i hlt (fun h => hi ((hF i).2 h))⟩, fun k hk => .inl hk⟩
/-- The scheduler, whole. -/
abbrev schP (b : Nat) (X : List (Nat × Tk)) (bm : Nat) (O : List Ob) : SP := star (coreP b X bm) (star (mapP bm (obM O)) (obsP O))
theorem schP_stable : Stable (schP b X bm O) := (coreP_stable _ _ _).star ((mapP_stable _ _).star (obsP_stable _))
theorem core_blk (h : Holds B w0 w (star (coreP b X bm) Q)) : ∃ A c, Blk w b 139 #[.slice A X.length c, .map (some bm)] := by
  obtain ⟨A, c, h1⟩ := core_open h
  exact ⟨A, c, blk_at' h1⟩
def FindPost (B : Nat) (w0 : World) (b : Nat) (X : List (Nat × Tk)) (bm : Nat) (O : List Ob) (n : Int) (Q : SP) (e : Ending) (w' : World) : Prop :=
  ∃ (O' : List Ob) (i : Nat) (o : Ob), e = .returned o.v ∧ O'[i]? = some o ∧ o.num = n ∧ (∀ (j : Nat) (o' : Ob), j < i → O'[j]? = some o' → o'.num ≠ n) ∧ (O' = O ∨ (O' = O ++ [o] ∧ o.h = false ∧ o.who = 0 ∧ o.L = [] ∧ ∀ o ∈ O, o.num ≠ n)) ∧ Holds B w0 w' (star (schP b X bm O') Q)
theorem find_old1 (h : Holds B w0 w (star (schP b X bm O) Q)) (hQ : Stable Q) (x : Op3) (hn : x.n = 0) (hk : x.k = 1) (i : Nat) (o : Ob) (ho : O[i]? = some o) (hon : o.num = x.obj) (hl : lookM (obM O) (109, x.obj) = some o.v) (hf : ∀ (j : Nat) (o' : Ob), j < i → O[j]? = some o' → o'.num ≠ x.obj) :
    Calls Try.prog 91 #[.pointer (some ⟨b, 0, none⟩), x.val] w (FindPost B w0 b X bm O x.obj Q) := by
  have hu := Try.underlying139
  have hu2 := Try.underlying97
  have hu3 := Try.underlying180
  have HQ := Lib.hid hQ
  have SQ := Lib.hid (show Stable (star (schP b X bm O) Q) from schP_stable.star hQ)
  have h1 := h.newBlk SQ.out 97 x.cs
  have h2 := h1.newBlk ((blkP_stable _ _ _).star SQ.out) 180 #[.int .u8 109, .int .i64 x.obj]
  rw [size_alloc] at h2
  have H2 := Lib.hid h2
  have X1 := blk_at' h1
  have K2 := Lib.hid (blk_at' h2)
  have h3 : Holds B w0 ((w.alloc (.cells x.cs 97)).alloc (.cells #[.int .u8 109, .int .i64 x.obj] 180)) (star (coreP b X bm) (star (mapP bm (obM O)) (star (obsP O) (star (blkP (w.heap.size + 1) 180 #[.int .u8 109, .int .i64 x.obj]) (star (blkP w.heap.size 97 x.cs) Q))))) := h2.perm (by unfold schP; ac_rfl)
  have h4 : Holds B w0 ((w.alloc (.cells x.cs 97)).alloc (.cells #[.int .u8 109, .int .i64 x.obj] 180)) (star (mapP bm (obM O)) (star (coreP b X bm) (star (obsP O) (star (blkP (w.heap.size + 1) 180 #[.int .u8 109, .int .i64 x.obj]) (star (blkP w.heap.size 97 x.cs) Q))))) := h2.perm (by unfold schP; ac_rfl)
  obtain ⟨A1, c1, Z⟩ := core_blk h3
  have H3 := Lib.hid h3
  have H4 := Lib.hid h4
  have x0 := X1.cell 0
  have x1 := X1.cell 1
  have x2 := X1.cell 2
  have hH : (fun w' => MapN w' bm (obM O) ∧ w'.cell? ⟨b, 1, none⟩ = some (.map (some bm)) ∧ w'.cell? ⟨w.heap.size + 1, 0, none⟩ = some (.int .u8 109) ∧ w'.cell? ⟨w.heap.size + 1, 1, none⟩ = some (.int .i64 x.obj)) ((w.alloc (.cells x.cs 97)).alloc (.cells #[.int .u8 109, .int .i64 x.obj] 180)) := ⟨map_at h4, Z.cell 1, K2.out.cell 0, K2.out.cell 1⟩
  dsimp only at hH
  clear h1 h2 h3 h4 Z X1
  have D1 : (x.k == 1) = true := by simp [hk]
  have D2 : (x.k == 2) = false := by simp [hk]
  have DN : (x.n == 0) = true := by simp [hn]
  have LK := Lib.hid hl
  have HO := Lib.hid ho
  have HON := Lib.hid hon
  have HF := Lib.hid hf
  have hH2 := hH
  clear h hQ hn hk hl ho hon hf
  unfold Op3.val Op3.cs
  go_enter Try.func91, Try.ntmps91
  go_wp2_with fail
  refine wp_region_noPanic ?_
  refine wp_region_held_drew (S := (fun w' => MapN w' bm (obM O) ∧ w'.cell? ⟨b, 1, none⟩ = some (.map (some bm)) ∧ w'.cell? ⟨w.heap.size + 1, 0, none⟩ = some (.int .u8 109) ∧ w'.cell? ⟨w.heap.size + 1, 1, none⟩ = some (.int .i64 x.obj))) (by kernel_rfl) hH (fun hHeld => ?_)
  refine wpAnyH_take (i := 0) (oi := _) (v := ?_) (by simp only [List.getElem?_toArray, List.getElem?_cons_succ, List.getElem?_cons_zero]; rfl) (by kernel_rfl) (by kernel_rfl) (by kernel_rfl) (fun _ _ _ h => h) (Or.inl ⟨by rfl, ?_⟩) (by assumption) ?_
  rotate_left
  · (intro w hSw; (try dsimp only at hSw); go_simp; (try with_reducible rfl))
  (try simp only [Act.put, List.setIfInBounds_toArray, List.set_cons_zero, List.set_cons_succ])
  refine wpAnyH_take (i := 1) (oi := _) (v := ?_) (by simp only [List.getElem?_toArray, List.getElem?_cons_succ, List.getElem?_cons_zero]; rfl) (by kernel_rfl) (by kernel_rfl) (by kernel_rfl) (fun _ _ _ h => h) (Or.inl ⟨by rfl, ?_⟩) (by assumption) ?_
  rotate_left
  · (intro w hSw; (try dsimp only at hSw); go_simp; (try with_reducible rfl))
  (try simp only [Act.put, List.setIfInBounds_toArray, List.set_cons_zero, List.set_cons_succ])
  refine wpAnyH_take (i := 2) (oi := _) (v := ?_) (by simp only [List.getElem?_toArray, List.getElem?_cons_succ, List.getElem?_cons_zero]; rfl) (by kernel_rfl) (by kernel_rfl) (by kernel_rfl) (fun _ _ _ h => h) (Or.inl ⟨by rfl, ?_⟩) (by assumption) ?_
  rotate_left
  · (intro w hSw; (try dsimp only at hSw); go_simp; (try with_reducible rfl))
  (try simp only [Act.put, List.setIfInBounds_toArray, List.set_cons_zero, List.set_cons_succ])
  refine wpAnyH_take (i := 3) (oi := _) (v := ?_) (by simp only [List.getElem?_toArray, List.getElem?_cons_succ, List.getElem?_cons_zero]; rfl) (by kernel_rfl) (by kernel_rfl) (by kernel_rfl) (fun _ _ _ h => h) (Or.inl ⟨by rfl, ?_⟩) (by assumption) ?_
  rotate_left
  · (intro w hSw; (try dsimp only at hSw); go_simp; (try with_reducible rfl))
  (try simp only [Act.put, List.setIfInBounds_toArray, List.set_cons_zero, List.set_cons_succ])
  refine wpAnyH_take (i := 4) (oi := _) (v := ?_) (by simp only [List.getElem?_toArray, List.getElem?_cons_succ, List.getElem?_cons_zero]; rfl) (by kernel_rfl) (by kernel_rfl) (by kernel_rfl) (fun _ _ _ h => h) (Or.inl ⟨by rfl, ?_⟩) (by assumption) ?_
  rotate_left
  · (intro w hSw; (try dsimp only at hSw); go_simp; (try with_reducible rfl))
  (try simp only [Act.put, List.setIfInBounds_toArray, List.set_cons_zero, List.set_cons_succ])
  refine wpAnyH_take (i := 5) (oi := _) (v := ?_) (by simp only [List.getElem?_toArray, List.getElem?_cons_succ, List.getElem?_cons_zero]; rfl) (by kernel_rfl) (by kernel_rfl) (by kernel_rfl) (fun _ _ _ h => h) (Or.inl ⟨by rfl, ?_⟩) (by assumption) ?_
  rotate_left
  · (intro w hSw; (try dsimp only at hSw); have hlk := run_lookN hSw.1 (109, x.obj); rw [LK.out] at hlk; simp only [Option.getD_some, Option.getD_none] at hlk; go_simp; (try with_reducible rfl))
  (try simp only [Act.put, List.setIfInBounds_toArray, List.set_cons_zero, List.set_cons_succ])
  refine wpAnyH_take (i := 6) (oi := _) (v := ?_) (by simp only [List.getElem?_toArray, List.getElem?_cons_succ, List.getElem?_cons_zero]; rfl) (by kernel_rfl) (by kernel_rfl) (by kernel_rfl) (fun _ _ _ h => h) (Or.inl ⟨by rfl, ?_⟩) (by assumption) ?_
  rotate_left
  · (intro w hSw; (try dsimp only at hSw); go_simp; (try with_reducible rfl))
  (try simp only [Act.put, List.setIfInBounds_toArray, List.set_cons_zero, List.set_cons_succ])
  refine wpAnyH_done (by kernel_rfl) ?_ _
  refine NoPanic.normal ?_
  clear hH
  go_wp2_with fail
  refine wp_region_noPanic ?_
  refine wp_region_held_drew (S := (fun w' => MapN w' bm (obM O) ∧ w'.cell? ⟨b, 1, none⟩ = some (.map (some bm)) ∧ w'.cell? ⟨w.heap.size + 1, 0, none⟩ = some (.int .u8 109) ∧ w'.cell? ⟨w.heap.size + 1, 1, none⟩ = some (.int .i64 x.obj))) (by kernel_rfl) hH2 (fun hHeld => ?_)
  refine wpAnyH_take (i := 0) (oi := _) (v := ?_) (by simp only [List.getElem?_toArray, List.getElem?_cons_succ, List.getElem?_cons_zero]; rfl) (by kernel_rfl) (by kernel_rfl) (by kernel_rfl) (fun _ _ _ h => h) (Or.inl ⟨by rfl, ?_⟩) (by assumption) ?_
  rotate_left
  · (intro w hSw; (try dsimp only at hSw); go_simp; (try with_reducible rfl))
  (try simp only [Act.put, List.setIfInBounds_toArray, List.set_cons_zero, List.set_cons_succ])
  refine wpAnyH_take (i := 1) (oi := _) (v := ?_) (by simp only [List.getElem?_toArray, List.getElem?_cons_succ, List.getElem?_cons_zero]; rfl) (by kernel_rfl) (by kernel_rfl) (by kernel_rfl) (fun _ _ _ h => h) (Or.inl ⟨by rfl, ?_⟩) (by assumption) ?_
  rotate_left
  · (intro w hSw; (try dsimp only at hSw); go_simp; (try with_reducible rfl))
  (try simp only [Act.put, List.setIfInBounds_toArray, List.set_cons_zero, List.set_cons_succ])
  refine wpAnyH_take (i := 2) (oi := _) (v := ?_) (by simp only [List.getElem?_toArray, List.getElem?_cons_succ, List.getElem?_cons_zero]; rfl) (by kernel_rfl) (by kernel_rfl) (by kernel_rfl) (fun _ _ _ h => h) (Or.inl ⟨by rfl, ?_⟩) (by assumption) ?_
  rotate_left
  · (intro w hSw; (try dsimp only at hSw); go_simp; (try with_reducible rfl))
  (try simp only [Act.put, List.setIfInBounds_toArray, List.set_cons_zero, List.set_cons_succ])
  refine wpAnyH_take (i := 3) (oi := _) (v := ?_) (by simp only [List.getElem?_toArray, List.getElem?_cons_succ, List.getElem?_cons_zero]; rfl) (by kernel_rfl) (by kernel_rfl) (by kernel_rfl) (fun _ _ _ h => h) (Or.inl ⟨by rfl, ?_⟩) (by assumption) ?_
  rotate_left
  · (intro w hSw; (try dsimp only at hSw); go_simp; (try with_reducible rfl))
  (try simp only [Act.put, List.setIfInBounds_toArray, List.set_cons_zero, List.set_cons_succ])
  refine wpAnyH_take (i := 4) (oi := _) (v := ?_) (by simp only [List.getElem?_toArray, List.getElem?_cons_succ, List.getElem?_cons_zero]; rfl) (by kernel_rfl) (by kernel_rfl) (by kernel_rfl) (fun _ _ _ h => h) (Or.inl ⟨by rfl, ?_⟩) (by assumption) ?_
  rotate_left
  · (intro w hSw; (try dsimp only at hSw); go_simp; (try with_reducible rfl))
  (try simp only [Act.put, List.setIfInBounds_toArray, List.set_cons_zero, List.set_cons_succ])
  refine wpAnyH_take (i := 5) (oi := _) (v := ?_) (by simp only [List.getElem?_toArray, List.getElem?_cons_succ, List.getElem?_cons_zero]; rfl) (by kernel_rfl) (by kernel_rfl) (by kernel_rfl) (fun _ _ _ h => h) (Or.inl ⟨by rfl, ?_⟩) (by assumption) ?_
  rotate_left
  · (intro w hSw; (try dsimp only at hSw); have hlk := run_lookN hSw.1 (109, x.obj); rw [LK.out] at hlk; simp only [Option.getD_some, Option.getD_none] at hlk; go_simp; (try with_reducible rfl))
  (try simp only [Act.put, List.setIfInBounds_toArray, List.set_cons_zero, List.set_cons_succ])
  refine wpAnyH_take (i := 6) (oi := _) (v := ?_) (by simp only [List.getElem?_toArray, List.getElem?_cons_succ, List.getElem?_cons_zero]; rfl) (by kernel_rfl) (by kernel_rfl) (by kernel_rfl) (fun _ _ _ h => h) (Or.inl ⟨by rfl, ?_⟩) (by assumption) ?_
  rotate_left
  · (intro w hSw; (try dsimp only at hSw); go_simp; (try with_reducible rfl))
  (try simp only [Act.put, List.setIfInBounds_toArray, List.set_cons_zero, List.set_cons_succ])
  refine wpAnyH_done (by kernel_rfl) ?_ _
  refine NoPanic.normal ?_
  clear hH2
  go_wp2_with fail
  go_ret
  refine ⟨O, i, o, rfl, HO.out, HON.out, HF.out, .inl rfl, ?_⟩
  have g : Holds B w0 ((w.alloc (.cells x.cs 97)).alloc (.cells #[.int .u8 109, .int .i64 x.obj] 180)) (star (blkP (w.heap.size + 1) 180 #[.int .u8 109, .int .i64 x.obj]) (star (blkP w.heap.size 97 x.cs) (star (schP b X bm O) Q))) := H2.out
  exact g.drop.drop.kept SQ.out (by repeat (first | with_reducible (exact Keep.same _ _) | with_reducible (apply Keep.drew) | with_reducible (apply Keep.alloc)))
theorem find_old2 (h : Holds B w0 w (star (schP b X bm O) Q)) (hQ : Stable Q) (x : Op3) (hn : x.n = 0) (hk : x.k = 2) (i : Nat) (o : Ob) (ho : O[i]? = some o) (hon : o.num = x.obj) (hl : lookM (obM O) (109, x.obj) = some o.v) (hf : ∀ (j : Nat) (o' : Ob), j < i → O[j]? = some o' → o'.num ≠ x.obj) :
    Calls Try.prog 91 #[.pointer (some ⟨b, 0, none⟩), x.val] w (FindPost B w0 b X bm O x.obj Q) := by
  have hu := Try.underlying139
  have hu2 := Try.underlying97
  have hu3 := Try.underlying180
  have HQ := Lib.hid hQ
  have SQ := Lib.hid (show Stable (star (schP b X bm O) Q) from schP_stable.star hQ)
  have h1 := h.newBlk SQ.out 97 x.cs
  have h2 := h1.newBlk ((blkP_stable _ _ _).star SQ.out) 180 #[.int .u8 109, .int .i64 x.obj]
  rw [size_alloc] at h2
  have H2 := Lib.hid h2
  have X1 := blk_at' h1
  have K2 := Lib.hid (blk_at' h2)
  have h3 : Holds B w0 ((w.alloc (.cells x.cs 97)).alloc (.cells #[.int .u8 109, .int .i64 x.obj] 180)) (star (coreP b X bm) (star (mapP bm (obM O)) (star (obsP O) (star (blkP (w.heap.size + 1) 180 #[.int .u8 109, .int .i64 x.obj]) (star (blkP w.heap.size 97 x.cs) Q))))) := h2.perm (by unfold schP; ac_rfl)
  have h4 : Holds B w0 ((w.alloc (.cells x.cs 97)).alloc (.cells #[.int .u8 109, .int .i64 x.obj] 180)) (star (mapP bm (obM O)) (star (coreP b X bm) (star (obsP O) (star (blkP (w.heap.size + 1) 180 #[.int .u8 109, .int .i64 x.obj]) (star (blkP w.heap.size 97 x.cs) Q))))) := h2.perm (by unfold schP; ac_rfl)
  obtain ⟨A1, c1, Z⟩ := core_blk h3
  have H3 := Lib.hid h3
  have H4 := Lib.hid h4
  have x0 := X1.cell 0
  have x1 := X1.cell 1
  have x2 := X1.cell 2
  have hH : (fun w' => MapN w' bm (obM O) ∧ w'.cell? ⟨b, 1, none⟩ = some (.map (some bm)) ∧ w'.cell? ⟨w.heap.size + 1, 0, none⟩ = some (.int .u8 109) ∧ w'.cell? ⟨w.heap.size + 1, 1, none⟩ = some (.int .i64 x.obj)) ((w.alloc (.cells x.cs 97)).alloc (.cells #[.int .u8 109, .int .i64 x.obj] 180)) := ⟨map_at h4, Z.cell 1, K2.out.cell 0, K2.out.cell 1⟩
  dsimp only at hH
  clear h1 h2 h3 h4 Z X1
  have D1 : (x.k == 1) = false := by simp [hk]
  have D2 : (x.k == 2) = true := by simp [hk]
  have DN : (x.n == 0) = true := by simp [hn]
  have LK := Lib.hid hl
  have HO := Lib.hid ho
  have HON := Lib.hid hon
  have HF := Lib.hid hf
  have hH2 := hH
  clear h hQ hn hk hl ho hon hf
  unfold Op3.val Op3.cs
  go_enter Try.func91, Try.ntmps91
  go_wp2_with fail
  refine wp_region_noPanic ?_
  refine wp_region_held_drew (S := (fun w' => MapN w' bm (obM O) ∧ w'.cell? ⟨b, 1, none⟩ = some (.map (some bm)) ∧ w'.cell? ⟨w.heap.size + 1, 0, none⟩ = some (.int .u8 109) ∧ w'.cell? ⟨w.heap.size + 1, 1, none⟩ = some (.int .i64 x.obj))) (by kernel_rfl) hH (fun hHeld => ?_)
  refine wpAnyH_take (i := 0) (oi := _) (v := ?_) (by simp only [List.getElem?_toArray, List.getElem?_cons_succ, List.getElem?_cons_zero]; rfl) (by kernel_rfl) (by kernel_rfl) (by kernel_rfl) (fun _ _ _ h => h) (Or.inl ⟨by rfl, ?_⟩) (by assumption) ?_
  rotate_left
  · (intro w hSw; (try dsimp only at hSw); go_simp; (try with_reducible rfl))
  (try simp only [Act.put, List.setIfInBounds_toArray, List.set_cons_zero, List.set_cons_succ])
  refine wpAnyH_take (i := 1) (oi := _) (v := ?_) (by simp only [List.getElem?_toArray, List.getElem?_cons_succ, List.getElem?_cons_zero]; rfl) (by kernel_rfl) (by kernel_rfl) (by kernel_rfl) (fun _ _ _ h => h) (Or.inl ⟨by rfl, ?_⟩) (by assumption) ?_
  rotate_left
  · (intro w hSw; (try dsimp only at hSw); go_simp; (try with_reducible rfl))
  (try simp only [Act.put, List.setIfInBounds_toArray, List.set_cons_zero, List.set_cons_succ])
  refine wpAnyH_take (i := 2) (oi := _) (v := ?_) (by simp only [List.getElem?_toArray, List.getElem?_cons_succ, List.getElem?_cons_zero]; rfl) (by kernel_rfl) (by kernel_rfl) (by kernel_rfl) (fun _ _ _ h => h) (Or.inl ⟨by rfl, ?_⟩) (by assumption) ?_
  rotate_left
  · (intro w hSw; (try dsimp only at hSw); go_simp; (try with_reducible rfl))
  (try simp only [Act.put, List.setIfInBounds_toArray, List.set_cons_zero, List.set_cons_succ])
  refine wpAnyH_take (i := 3) (oi := _) (v := ?_) (by simp only [List.getElem?_toArray, List.getElem?_cons_succ, List.getElem?_cons_zero]; rfl) (by kernel_rfl) (by kernel_rfl) (by kernel_rfl) (fun _ _ _ h => h) (Or.inl ⟨by rfl, ?_⟩) (by assumption) ?_
  rotate_left
  · (intro w hSw; (try dsimp only at hSw); go_simp; (try with_reducible rfl))
  (try simp only [Act.put, List.setIfInBounds_toArray, List.set_cons_zero, List.set_cons_succ])
  refine wpAnyH_take (i := 4) (oi := _) (v := ?_) (by simp only [List.getElem?_toArray, List.getElem?_cons_succ, List.getElem?_cons_zero]; rfl) (by kernel_rfl) (by kernel_rfl) (by kernel_rfl) (fun _ _ _ h => h) (Or.inl ⟨by rfl, ?_⟩) (by assumption) ?_
  rotate_left
  · (intro w hSw; (try dsimp only at hSw); go_simp; (try with_reducible rfl))
  (try simp only [Act.put, List.setIfInBounds_toArray, List.set_cons_zero, List.set_cons_succ])
  refine wpAnyH_take (i := 5) (oi := _) (v := ?_) (by simp only [List.getElem?_toArray, List.getElem?_cons_succ, List.getElem?_cons_zero]; rfl) (by kernel_rfl) (by kernel_rfl) (by kernel_rfl) (fun _ _ _ h => h) (Or.inl ⟨by rfl, ?_⟩) (by assumption) ?_
  rotate_left
  · (intro w hSw; (try dsimp only at hSw); have hlk := run_lookN hSw.1 (109, x.obj); rw [LK.out] at hlk; simp only [Option.getD_some, Option.getD_none] at hlk; go_simp; (try with_reducible rfl))
  (try simp only [Act.put, List.setIfInBounds_toArray, List.set_cons_zero, List.set_cons_succ])
  refine wpAnyH_take (i := 6) (oi := _) (v := ?_) (by simp only [List.getElem?_toArray, List.getElem?_cons_succ, List.getElem?_cons_zero]; rfl) (by kernel_rfl) (by kernel_rfl) (by kernel_rfl) (fun _ _ _ h => h) (Or.inl ⟨by rfl, ?_⟩) (by assumption) ?_
  rotate_left
  · (intro w hSw; (try dsimp only at hSw); go_simp; (try with_reducible rfl))
  (try simp only [Act.put, List.setIfInBounds_toArray, List.set_cons_zero, List.set_cons_succ])
  refine wpAnyH_done (by kernel_rfl) ?_ _
  refine NoPanic.normal ?_
  clear hH
  go_wp2_with fail
  refine wp_region_noPanic ?_
  refine wp_region_held_drew (S := (fun w' => MapN w' bm (obM O) ∧ w'.cell? ⟨b, 1, none⟩ = some (.map (some bm)) ∧ w'.cell? ⟨w.heap.size + 1, 0, none⟩ = some (.int .u8 109) ∧ w'.cell? ⟨w.heap.size + 1, 1, none⟩ = some (.int .i64 x.obj))) (by kernel_rfl) hH2 (fun hHeld => ?_)
  refine wpAnyH_take (i := 0) (oi := _) (v := ?_) (by simp only [List.getElem?_toArray, List.getElem?_cons_succ, List.getElem?_cons_zero]; rfl) (by kernel_rfl) (by kernel_rfl) (by kernel_rfl) (fun _ _ _ h => h) (Or.inl ⟨by rfl, ?_⟩) (by assumption) ?_
  rotate_left
  · (intro w hSw; (try dsimp only at hSw); go_simp; (try with_reducible rfl))
  (try simp only [Act.put, List.setIfInBounds_toArray, List.set_cons_zero, List.set_cons_succ])
  refine wpAnyH_take (i := 1) (oi := _) (v := ?_) (by simp only [List.getElem?_toArray, List.getElem?_cons_succ, List.getElem?_cons_zero]; rfl) (by kernel_rfl) (by kernel_rfl) (by kernel_rfl) (fun _ _ _ h => h) (Or.inl ⟨by rfl, ?_⟩) (by assumption) ?_
  rotate_left
  · (intro w hSw; (try dsimp only at hSw); go_simp; (try with_reducible rfl))
  (try simp only [Act.put, List.setIfInBounds_toArray, List.set_cons_zero, List.set_cons_succ])
  refine wpAnyH_take (i := 2) (oi := _) (v := ?_) (by simp only [List.getElem?_toArray, List.getElem?_cons_succ, List.getElem?_cons_zero]; rfl) (by kernel_rfl) (by kernel_rfl) (by kernel_rfl) (fun _ _ _ h => h) (Or.inl ⟨by rfl, ?_⟩) (by assumption) ?_
  rotate_left
  · (intro w hSw; (try dsimp only at hSw); go_simp; (try with_reducible rfl))
  (try simp only [Act.put, List.setIfInBounds_toArray, List.set_cons_zero, List.set_cons_succ])
  refine wpAnyH_take (i := 3) (oi := _) (v := ?_) (by simp only [List.getElem?_toArray, List.getElem?_cons_succ, List.getElem?_cons_zero]; rfl) (by kernel_rfl) (by kernel_rfl) (by kernel_rfl) (fun _ _ _ h => h) (Or.inl ⟨by rfl, ?_⟩) (by assumption) ?_
  rotate_left
  · (intro w hSw; (try dsimp only at hSw); go_simp; (try with_reducible rfl))
  (try simp only [Act.put, List.setIfInBounds_toArray, List.set_cons_zero, List.set_cons_succ])
  refine wpAnyH_take (i := 4) (oi := _) (v := ?_) (by simp only [List.getElem?_toArray, List.getElem?_cons_succ, List.getElem?_cons_zero]; rfl) (by kernel_rfl) (by kernel_rfl) (by kernel_rfl) (fun _ _ _ h => h) (Or.inl ⟨by rfl, ?_⟩) (by assumption) ?_
  rotate_left
  · (intro w hSw; (try dsimp only at hSw); go_simp; (try with_reducible rfl))
  (try simp only [Act.put, List.setIfInBounds_toArray, List.set_cons_zero, List.set_cons_succ])
  refine wpAnyH_take (i := 5) (oi := _) (v := ?_) (by simp only [List.getElem?_toArray, List.getElem?_cons_succ, List.getElem?_cons_zero]; rfl) (by kernel_rfl) (by kernel_rfl) (by kernel_rfl) (fun _ _ _ h => h) (Or.inl ⟨by rfl, ?_⟩) (by assumption) ?_
  rotate_left
  · (intro w hSw; (try dsimp only at hSw); have hlk := run_lookN hSw.1 (109, x.obj); rw [LK.out] at hlk; simp only [Option.getD_some, Option.getD_none] at hlk; go_simp; (try with_reducible rfl))
  (try simp only [Act.put, List.setIfInBounds_toArray, List.set_cons_zero, List.set_cons_succ])
  refine wpAnyH_take (i := 6) (oi := _) (v := ?_) (by simp only [List.getElem?_toArray, List.getElem?_cons_succ, List.getElem?_cons_zero]; rfl) (by kernel_rfl) (by kernel_rfl) (by kernel_rfl) (fun _ _ _ h => h) (Or.inl ⟨by rfl, ?_⟩) (by assumption) ?_
  rotate_left
  · (intro w hSw; (try dsimp only at hSw); go_simp; (try with_reducible rfl))
  (try simp only [Act.put, List.setIfInBounds_toArray, List.set_cons_zero, List.set_cons_succ])
  refine wpAnyH_done (by kernel_rfl) ?_ _
  refine NoPanic.normal ?_
  clear hH2
  go_wp2_with fail
  go_ret
  refine ⟨O, i, o, rfl, HO.out, HON.out, HF.out, .inl rfl, ?_⟩
  have g : Holds B w0 ((w.alloc (.cells x.cs 97)).alloc (.cells #[.int .u8 109, .int .i64 x.obj] 180)) (star (blkP (w.heap.size + 1) 180 #[.int .u8 109, .int .i64 x.obj]) (star (blkP w.heap.size 97 x.cs) (star (schP b X bm O) Q))) := H2.out
  exact g.drop.drop.kept SQ.out (by repeat (first | with_reducible (exact Keep.same _ _) | with_reducible (apply Keep.drew) | with_reducible (apply Keep.alloc)))
theorem find_new1 (h : Holds B w0 w (star (schP b X bm O) Q)) (hQ : Stable Q) (x : Op3) (hn : x.n = 0) (hk : x.k = 1) (hl : lookM (obM O) (109, x.obj) = none) (hf : ∀ o ∈ O, o.num ≠ x.obj) :
    Calls Try.prog 91 #[.pointer (some ⟨b, 0, none⟩), x.val] w (FindPost B w0 b X bm O x.obj Q) := by
  have hu := Try.underlying139
  have hu2 := Try.underlying97
  have hu3 := Try.underlying180
  have HQ := Lib.hid hQ
  have SQ := Lib.hid (show Stable (star (schP b X bm O) Q) from schP_stable.star hQ)
  have h1 := h.newBlk SQ.out 97 x.cs
  have h2 := h1.newBlk ((blkP_stable _ _ _).star SQ.out) 180 #[.int .u8 109, .int .i64 x.obj]
  rw [size_alloc] at h2
  have H2 := Lib.hid h2
  have X1 := blk_at' h1
  have K2 := Lib.hid (blk_at' h2)
  have h3 : Holds B w0 ((w.alloc (.cells x.cs 97)).alloc (.cells #[.int .u8 109, .int .i64 x.obj] 180)) (star (coreP b X bm) (star (mapP bm (obM O)) (star (obsP O) (star (blkP (w.heap.size + 1) 180 #[.int .u8 109, .int .i64 x.obj]) (star (blkP w.heap.size 97 x.cs) Q))))) := h2.perm (by unfold schP; ac_rfl)
  have h4 : Holds B w0 ((w.alloc (.cells x.cs 97)).alloc (.cells #[.int .u8 109, .int .i64 x.obj] 180)) (star (mapP bm (obM O)) (star (coreP b X bm) (star (obsP O) (star (blkP (w.heap.size + 1) 180 #[.int .u8 109, .int .i64 x.obj]) (star (blkP w.heap.size 97 x.cs) Q))))) := h2.perm (by unfold schP; ac_rfl)
  obtain ⟨A1, c1, Z⟩ := core_blk h3
  have H3 := Lib.hid h3
  have H4 := Lib.hid h4
  have x0 := X1.cell 0
  have x1 := X1.cell 1
  have x2 := X1.cell 2
  have hH : (fun w' => MapN w' bm (obM O) ∧ w'.cell? ⟨b, 1, none⟩ = some (.map (some bm)) ∧ w'.cell? ⟨w.heap.size + 1, 0, none⟩ = some (.int .u8 109) ∧ w'.cell? ⟨w.heap.size + 1, 1, none⟩ = some (.int .i64 x.obj)) ((w.alloc (.cells x.cs 97)).alloc (.cells #[.int .u8 109, .int .i64 x.obj] 180)) := ⟨map_at h4, Z.cell 1, K2.out.cell 0, K2.out.cell 1⟩
  dsimp only at hH
  clear h1 h2 h3 h4 Z X1
  have D1 : (x.k == 1) = true := by simp [hk]
  have D2 : (x.k == 2) = false := by simp [hk]
  have DN : (x.n == 0) = true := by simp [hn]
  have LK := Lib.hid hl
  have LN := LK
  have HF := Lib.hid hf
  have SM := Lib.hid (show Stable (star (mP (w.heap.size + 1 + 1) false 0 []) (star (coreP b X bm) (star (obsP O) (star (blkP (w.heap.size + 1) 180 #[.int .u8 109, .int .i64 x.obj]) (star (blkP w.heap.size 97 x.cs) Q))))) from (mP_stable _ _ _ _).star ((coreP_stable _ _ _).star ((obsP_stable _).star ((blkP_stable _ _ _).star ((blkP_stable _ _ _).star hQ)))))
  have n1 := H4.out.more ((mapP_stable bm (obM O)).star ((coreP_stable b X bm).star ((obsP_stable O).star ((blkP_stable (w.heap.size + 1) 180 #[.int .u8 109, .int .i64 x.obj]).star ((blkP_stable w.heap.size 97 x.cs).star hQ))))) (F := fun k => k = ((w.alloc (.cells x.cs 97)).alloc (.cells #[.int .u8 109, .int .i64 x.obj] 180)).heap.size) (mP_new ((w.alloc (.cells x.cs 97)).alloc (.cells #[.int .u8 109, .int .i64 x.obj] 180))) ((Keep.same _ _).alloc _) (fun k hk => by omega)
  rw [size_alloc, size_alloc] at n1
  have NM := Lib.hid (show Holds B w0 (((w.alloc (.cells x.cs 97)).alloc (.cells #[.int .u8 109, .int .i64 x.obj] 180)).alloc (.cells #[.slice none 0 0, .bool false, .int .i64 0] 128)) (star (mapP bm (obM O)) (star (mP (w.heap.size + 1 + 1) false 0 []) (star (coreP b X bm) (star (obsP O) (star (blkP (w.heap.size + 1) 180 #[.int .u8 109, .int .i64 x.obj]) (star (blkP w.heap.size 97 x.cs) Q)))))) from n1.perm (by ac_rfl))
  have SA := Lib.hid (show ∀ X', (fun w' => w'.cell? ⟨b, 1, none⟩ = some (.map (some bm)) ∧ w'.cell? ⟨w.heap.size + 1, 0, none⟩ = some (.int .u8 109) ∧ w'.cell? ⟨w.heap.size + 1, 1, none⟩ = some (.int .i64 x.obj)) X' → (fun w' => w'.cell? ⟨b, 1, none⟩ = some (.map (some bm)) ∧ w'.cell? ⟨w.heap.size + 1, 0, none⟩ = some (.int .u8 109) ∧ w'.cell? ⟨w.heap.size + 1, 1, none⟩ = some (.int .i64 x.obj)) (X'.alloc (.cells #[.slice none 0 0, .bool false, .int .i64 0] 128)) from fun X' hx => ⟨((Keep.same Nothing X').alloc _).cell hx.1 (fun h => h), ((Keep.same Nothing X').alloc _).cell hx.2.1 (fun h => h), ((Keep.same Nothing X').alloc _).cell hx.2.2 (fun h => h)⟩)
  clear h hQ hn hk hl hf n1
  unfold Op3.val Op3.cs
  go_enter Try.func91, Try.ntmps91
  go_wp2_with fail
  refine wp_region_noPanic ?_
  refine wp_region_held_drew (S := (fun w' => MapN w' bm (obM O) ∧ w'.cell? ⟨b, 1, none⟩ = some (.map (some bm)) ∧ w'.cell? ⟨w.heap.size + 1, 0, none⟩ = some (.int .u8 109) ∧ w'.cell? ⟨w.heap.size + 1, 1, none⟩ = some (.int .i64 x.obj))) (by kernel_rfl) hH (fun hHeld => ?_)
  refine wpAnyH_take (i := 0) (oi := _) (v := ?_) (by simp only [List.getElem?_toArray, List.getElem?_cons_succ, List.getElem?_cons_zero]; rfl) (by kernel_rfl) (by kernel_rfl) (by kernel_rfl) (fun _ _ _ h => h) (Or.inl ⟨by rfl, ?_⟩) (by assumption) ?_
  rotate_left
  · (intro w hSw; (try dsimp only at hSw); go_simp; (try with_reducible rfl))
  (try simp only [Act.put, List.setIfInBounds_toArray, List.set_cons_zero, List.set_cons_succ])
  refine wpAnyH_take (i := 1) (oi := _) (v := ?_) (by simp only [List.getElem?_toArray, List.getElem?_cons_succ, List.getElem?_cons_zero]; rfl) (by kernel_rfl) (by kernel_rfl) (by kernel_rfl) (fun _ _ _ h => h) (Or.inl ⟨by rfl, ?_⟩) (by assumption) ?_
  rotate_left
  · (intro w hSw; (try dsimp only at hSw); go_simp; (try with_reducible rfl))
  (try simp only [Act.put, List.setIfInBounds_toArray, List.set_cons_zero, List.set_cons_succ])
  refine wpAnyH_take (i := 2) (oi := _) (v := ?_) (by simp only [List.getElem?_toArray, List.getElem?_cons_succ, List.getElem?_cons_zero]; rfl) (by kernel_rfl) (by kernel_rfl) (by kernel_rfl) (fun _ _ _ h => h) (Or.inl ⟨by rfl, ?_⟩) (by assumption) ?_
  rotate_left
  · (intro w hSw; (try dsimp only at hSw); go_simp; (try with_reducible rfl))
  (try simp only [Act.put, List.setIfInBounds_toArray, List.set_cons_zero, List.set_cons_succ])
  refine wpAnyH_take (i := 3) (oi := _) (v := ?_) (by simp only [List.getElem?_toArray, List.getElem?_cons_succ, List.getElem?_cons_zero]; rfl) (by kernel_rfl) (by kernel_rfl) (by kernel_rfl) (fun _ _ _ h => h) (Or.inl ⟨by rfl, ?_⟩) (by assumption) ?_
  rotate_left
  · (intro w hSw; (try dsimp only at hSw); go_simp; (try with_reducible rfl))
  (try simp only [Act.put, List.setIfInBounds_toArray, List.set_cons_zero, List.set_cons_succ])
  refine wpAnyH_take (i := 4) (oi := _) (v := ?_) (by simp only [List.getElem?_toArray, List.getElem?_cons_succ, List.getElem?_cons_zero]; rfl) (by kernel_rfl) (by kernel_rfl) (by kernel_rfl) (fun _ _ _ h => h) (Or.inl ⟨by rfl, ?_⟩) (by assumption) ?_
  rotate_left
  · (intro w hSw; (try dsimp only at hSw); go_simp; (try with_reducible rfl))
  (try simp only [Act.put, List.setIfInBounds_toArray, List.set_cons_zero, List.set_cons_succ])
  refine wpAnyH_take (i := 5) (oi := _) (v := ?_) (by simp only [List.getElem?_toArray, List.getElem?_cons_succ, List.getElem?_cons_zero]; rfl) (by kernel_rfl) (by kernel_rfl) (by kernel_rfl) (fun _ _ _ h => h) (Or.inl ⟨by rfl, ?_⟩) (by assumption) ?_
  rotate_left
  · (intro w hSw; (try dsimp only at hSw); have hlk := run_lookN hSw.1 (109, x.obj); rw [LK.out] at hlk; simp only [Option.getD_some, Option.getD_none] at hlk; go_simp; (try with_reducible rfl))
  (try simp only [Act.put, List.setIfInBounds_toArray, List.set_cons_zero, List.set_cons_succ])
  refine wpAnyH_take (i := 6) (oi := _) (v := ?_) (by simp only [List.getElem?_toArray, List.getElem?_cons_succ, List.getElem?_cons_zero]; rfl) (by kernel_rfl) (by kernel_rfl) (by kernel_rfl) (fun _ _ _ h => h) (Or.inl ⟨by rfl, ?_⟩) (by assumption) ?_
  rotate_left
  · (intro w hSw; (try dsimp only at hSw); go_simp; (try with_reducible rfl))
  (try simp only [Act.put, List.setIfInBounds_toArray, List.set_cons_zero, List.set_cons_succ])
  refine wpAnyH_done (by kernel_rfl) ?_ _
  refine NoPanic.normal ?_
  go_wp2_with fail
  refine wp_region_noPanic ?_
  refine wp_region_held_drew (S := (fun w' => w'.cell? ⟨b, 1, none⟩ = some (.map (some bm)) ∧ w'.cell? ⟨w.heap.size + 1, 0, none⟩ = some (.int .u8 109) ∧ w'.cell? ⟨w.heap.size + 1, 1, none⟩ = some (.int .i64 x.obj))) (by kernel_rfl) hH.2 (fun hHeld => ?_)
  refine wpAnyH_take (i := 0) (oi := _) (v := ?_) (by simp only [List.getElem?_toArray, List.getElem?_cons_succ, List.getElem?_cons_zero]; rfl) (by kernel_rfl) (by kernel_rfl) (by kernel_rfl) (fun _ _ _ h => h) (Or.inl ⟨by rfl, ?_⟩) (by assumption) ?_
  rotate_left
  · (intro w hSw; (try dsimp only at hSw); go_simp; (try with_reducible rfl))
  (try simp only [Act.put, List.setIfInBounds_toArray, List.set_cons_zero, List.set_cons_succ])
  refine wpAnyH_take (i := 1) (oi := _) (v := ?_) (by simp only [List.getElem?_toArray, List.getElem?_cons_succ, List.getElem?_cons_zero]; rfl) (by kernel_rfl) (by kernel_rfl) (by kernel_rfl) (fun _ _ _ h => h) (Or.inl ⟨by rfl, ?_⟩) (by assumption) ?_
  rotate_left
  · (intro w hSw; (try dsimp only at hSw); go_simp; (try with_reducible rfl))
  (try simp only [Act.put, List.setIfInBounds_toArray, List.set_cons_zero, List.set_cons_succ])
  refine wpAnyH_take (i := 2) (oi := _) (v := ?_) (by simp only [List.getElem?_toArray, List.getElem?_cons_succ, List.getElem?_cons_zero]; rfl) (by kernel_rfl) (by kernel_rfl) (by kernel_rfl) (fun _ _ _ h => h) (Or.inl ⟨by rfl, ?_⟩) (by assumption) ?_
  rotate_left
  · (intro w hSw; (try dsimp only at hSw); go_simp; (try with_reducible rfl))
  (try simp only [Act.put, List.setIfInBounds_toArray, List.set_cons_zero, List.set_cons_succ])
  refine wpAnyH_take (i := 3) (oi := _) (v := ?_) (by simp only [List.getElem?_toArray, List.getElem?_cons_succ, List.getElem?_cons_zero]; rfl) (by kernel_rfl) (by kernel_rfl) (by kernel_rfl) (fun _ _ _ h => h) (Or.inl ⟨by rfl, ?_⟩) (by assumption) ?_
  rotate_left
  · (intro w hSw; (try dsimp only at hSw); go_simp; (try with_reducible rfl))
  (try simp only [Act.put, List.setIfInBounds_toArray, List.set_cons_zero, List.set_cons_succ])
  refine wpAnyH_take (i := 4) (oi := _) (v := ?_) (by simp only [List.getElem?_toArray, List.getElem?_cons_succ, List.getElem?_cons_zero]; rfl) (by kernel_rfl) (by kernel_rfl) (by kernel_rfl) (fun _ _ _ h => h) (Or.inl ⟨by rfl, ?_⟩) (by assumption) ?_
  rotate_left
  · (intro w hSw; (try dsimp only at hSw); go_simp; (try with_reducible rfl))
  (try simp only [Act.put, List.setIfInBounds_toArray, List.set_cons_zero, List.set_cons_succ])
  refine wpAnyH_take (i := 5) (oi := _) (v := ?_) (by simp only [List.getElem?_toArray, List.getElem?_cons_succ, List.getElem?_cons_zero]; rfl) (by kernel_rfl) (by kernel_rfl) (by kernel_rfl) (fun _ _ _ h => h) (Or.inl ⟨by rfl, ?_⟩) (by assumption) ?_
  rotate_left
  · (intro w hSw; (try dsimp only at hSw); go_simp; (try with_reducible rfl))
  (try simp only [Act.put, List.setIfInBounds_toArray, List.set_cons_zero, List.set_cons_succ])
  refine wpAnyH_ready (rs := [6]) (by kernel_rfl) (by simp) ?_
  refine AllReadyH.cons (o := _) (by simp only [List.getElem?_toArray, List.getElem?_cons_succ, List.getElem?_cons_zero]; rfl) (fun K hK => ?_) AllReadyH.nil
  go_simp
  refine (find1_calls _).mono ?_
  rintro e w6 ⟨rfl, rfl⟩
  (try go_wp2_with fail)
  refine hK.out _ _ (SA.out _ hHeld) (fun hHeld => ?_)
  clear hK K
  (try simp only [Act.put, List.setIfInBounds_toArray, List.set_cons_zero, List.set_cons_succ])
  refine wpAnyH_ready (rs := [7]) (by kernel_rfl) (by simp) ?_
  refine AllReadyH.cons (o := _) (by simp only [List.getElem?_toArray, List.getElem?_cons_succ, List.getElem?_cons_zero]; rfl) (fun K hK => ?_) AllReadyH.nil
  have NK := Lib.hid (NM.out.kept ((mapP_stable _ _).star SM.out) (by repeat (first | with_reducible (exact Keep.same _ _) | with_reducible (apply Keep.drew) | with_reducible (apply Keep.alloc))) : Holds B w0 ((((w.alloc (.cells x.cs 97)).alloc (.cells #[.int .u8 109, .int .i64 x.obj] 180)).alloc (.cells #[.slice none 0 0, .bool false, .int .i64 0] 128)).drew.drew) (star (mapP bm (obM O)) (star (mP (w.heap.size + 1 + 1) false 0 []) (star (coreP b X bm) (star (obsP O) (star (blkP (w.heap.size + 1) 180 #[.int .u8 109, .int .i64 x.obj]) (star (blkP w.heap.size 97 x.cs) Q)))))))
  refine step_putN (by rfl) (.tmp 42) (.tmp 43) (.tmp 45) (by rfl) (map_at NK.out) (109, x.obj) LN.out (Value.iface 172 (Value.agg #[Value.pointer (some (⟨w.heap.size + 1 + 1, 0, none⟩ : Addr))])) (by simp [Act.eval, Act.put]) (by simp [Act.eval, Act.put]) (by simp [Act.eval, Act.put]) ?_
  intro w7 hm7 hk7
  have N7 := Lib.hid (map_put NK.out SM.out hm7 hk7)
  have n7 : Holds B w0 w7 (star (coreP b X bm) (star (mapP bm (obM O ++ [((109, x.obj), Value.iface 172 (Value.agg #[Value.pointer (some (⟨w.heap.size + 1 + 1, 0, none⟩ : Addr))]))])) (star (mP (w.heap.size + 1 + 1) false 0 []) (star (obsP O) (star (blkP (w.heap.size + 1) 180 #[.int .u8 109, .int .i64 x.obj]) (star (blkP w.heap.size 97 x.cs) Q)))))) := N7.out.perm (by ac_rfl)
  have n8 : Holds B w0 w7 (star (blkP (w.heap.size + 1) 180 #[.int .u8 109, .int .i64 x.obj]) (star (coreP b X bm) (star (mapP bm (obM O ++ [((109, x.obj), Value.iface 172 (Value.agg #[Value.pointer (some (⟨w.heap.size + 1 + 1, 0, none⟩ : Addr))]))])) (star (mP (w.heap.size + 1 + 1) false 0 []) (star (obsP O) (star (blkP w.heap.size 97 x.cs) Q)))))) := N7.out.perm (by ac_rfl)
  obtain ⟨A7, c7, Z7⟩ := core_blk n7
  have K7 := blk_at' n8
  have LK := Lib.hid (show lookM (obM O ++ [((109, x.obj), Value.iface 172 (Value.agg #[Value.pointer (some (⟨w.heap.size + 1 + 1, 0, none⟩ : Addr))]))]) (109, x.obj) = some (Ob.v ⟨x.obj, w.heap.size + 1 + 1, false, 0, []⟩) by rw [lookM_app, LN.out]; simp)
  have hH2 : (fun w' => MapN w' bm (obM O ++ [((109, x.obj), Value.iface 172 (Value.agg #[Value.pointer (some (⟨w.heap.size + 1 + 1, 0, none⟩ : Addr))]))]) ∧ w'.cell? ⟨b, 1, none⟩ = some (.map (some bm)) ∧ w'.cell? ⟨w.heap.size + 1, 0, none⟩ = some (.int .u8 109) ∧ w'.cell? ⟨w.heap.size + 1, 1, none⟩ = some (.int .i64 x.obj)) w7 := ⟨hm7, Z7.cell 1, K7.cell 0, K7.cell 1⟩
  have hHS := hH2.2
  dsimp only at hH2
  clear hm7 hk7 n7 n8 Z7 K7
  refine hK.out _ _ hHS (fun hHeld => ?_)
  clear hK K
  (try simp only [Act.put, List.setIfInBounds_toArray, List.set_cons_zero, List.set_cons_succ])
  refine wpAnyH_done (by kernel_rfl) ?_ _
  refine NoPanic.normal ?_
  clear hH hHS
  go_wp2_with fail
  refine wp_region_noPanic ?_
  refine wp_region_held_drew (S := (fun w' => MapN w' bm (obM O ++ [((109, x.obj), Value.iface 172 (Value.agg #[Value.pointer (some (⟨w.heap.size + 1 + 1, 0, none⟩ : Addr))]))]) ∧ w'.cell? ⟨b, 1, none⟩ = some (.map (some bm)) ∧ w'.cell? ⟨w.heap.size + 1, 0, none⟩ = some (.int .u8 109) ∧ w'.cell? ⟨w.heap.size + 1, 1, none⟩ = some (.int .i64 x.obj))) (by kernel_rfl) hH2 (fun hHeld => ?_)
  refine wpAnyH_take (i := 0) (oi := _) (v := ?_) (by simp only [List.getElem?_toArray, List.getElem?_cons_succ, List.getElem?_cons_zero]; rfl) (by kernel_rfl) (by kernel_rfl) (by kernel_rfl) (fun _ _ _ h => h) (Or.inl ⟨by rfl, ?_⟩) (by assumption) ?_
  rotate_left
  · (intro w hSw; (try dsimp only at hSw); go_simp; (try with_reducible rfl))
  (try simp only [Act.put, List.setIfInBounds_toArray, List.set_cons_zero, List.set_cons_succ])
  refine wpAnyH_take (i := 1) (oi := _) (v := ?_) (by simp only [List.getElem?_toArray, List.getElem?_cons_succ, List.getElem?_cons_zero]; rfl) (by kernel_rfl) (by kernel_rfl) (by kernel_rfl) (fun _ _ _ h => h) (Or.inl ⟨by rfl, ?_⟩) (by assumption) ?_
  rotate_left
  · (intro w hSw; (try dsimp only at hSw); go_simp; (try with_reducible rfl))
  (try simp only [Act.put, List.setIfInBounds_toArray, List.set_cons_zero, List.set_cons_succ])
  refine wpAnyH_take (i := 2) (oi := _) (v := ?_) (by simp only [List.getElem?_toArray, List.getElem?_cons_succ, List.getElem?_cons_zero]; rfl) (by kernel_rfl) (by kernel_rfl) (by kernel_rfl) (fun _ _ _ h => h) (Or.inl ⟨by rfl, ?_⟩) (by assumption) ?_
  rotate_left
  · (intro w hSw; (try dsimp only at hSw); go_simp; (try with_reducible rfl))
  (try simp only [Act.put, List.setIfInBounds_toArray, List.set_cons_zero, List.set_cons_succ])
  refine wpAnyH_take (i := 3) (oi := _) (v := ?_) (by simp only [List.getElem?_toArray, List.getElem?_cons_succ, List.getElem?_cons_zero]; rfl) (by kernel_rfl) (by kernel_rfl) (by kernel_rfl) (fun _ _ _ h => h) (Or.inl ⟨by rfl, ?_⟩) (by assumption) ?_
  rotate_left
  · (intro w hSw; (try dsimp only at hSw); go_simp; (try with_reducible rfl))
  (try simp only [Act.put, List.setIfInBounds_toArray, List.set_cons_zero, List.set_cons_succ])
  refine wpAnyH_take (i := 4) (oi := _) (v := ?_) (by simp only [List.getElem?_toArray, List.getElem?_cons_succ, List.getElem?_cons_zero]; rfl) (by kernel_rfl) (by kernel_rfl) (by kernel_rfl) (fun _ _ _ h => h) (Or.inl ⟨by rfl, ?_⟩) (by assumption) ?_
  rotate_left
  · (intro w hSw; (try dsimp only at hSw); go_simp; (try with_reducible rfl))
  (try simp only [Act.put, List.setIfInBounds_toArray, List.set_cons_zero, List.set_cons_succ])
  refine wpAnyH_take (i := 5) (oi := _) (v := ?_) (by simp only [List.getElem?_toArray, List.getElem?_cons_succ, List.getElem?_cons_zero]; rfl) (by kernel_rfl) (by kernel_rfl) (by kernel_rfl) (fun _ _ _ h => h) (Or.inl ⟨by rfl, ?_⟩) (by assumption) ?_
  rotate_left
  · (intro w hSw; (try dsimp only at hSw); have hlk := run_lookN hSw.1 (109, x.obj); rw [LK.out] at hlk; simp only [Option.getD_some, Option.getD_none] at hlk; go_simp; (try with_reducible rfl))
  (try simp only [Act.put, List.setIfInBounds_toArray, List.set_cons_zero, List.set_cons_succ])
  refine wpAnyH_take (i := 6) (oi := _) (v := ?_) (by simp only [List.getElem?_toArray, List.getElem?_cons_succ, List.getElem?_cons_zero]; rfl) (by kernel_rfl) (by kernel_rfl) (by kernel_rfl) (fun _ _ _ h => h) (Or.inl ⟨by rfl, ?_⟩) (by assumption) ?_
  rotate_left
  · (intro w hSw; (try dsimp only at hSw); go_simp; (try with_reducible rfl))
  (try simp only [Act.put, List.setIfInBounds_toArray, List.set_cons_zero, List.set_cons_succ])
  refine wpAnyH_done (by kernel_rfl) ?_ _
  refine NoPanic.normal ?_
  clear hH2
  go_wp2_with fail
  go_ret
  refine ⟨O ++ [⟨x.obj, w.heap.size + 1 + 1, false, 0, []⟩], O.length, ⟨x.obj, w.heap.size + 1 + 1, false, 0, []⟩, rfl, by simp, rfl, fun j o' hj ho' => HF.out o' (List.mem_of_getElem? (by rw [List.getElem?_append_left hj] at ho'; exact ho')), .inr ⟨rfl, rfl, rfl, rfl, HF.out⟩, ?_⟩
  have g : Holds B w0 w7 (star (blkP (w.heap.size + 1) 180 #[.int .u8 109, .int .i64 x.obj]) (star (blkP w.heap.size 97 x.cs) (star (schP b X bm (O ++ [⟨x.obj, w.heap.size + 1 + 1, false, 0, []⟩])) Q))) := N7.out.perm (by
    unfold schP
    rw [obsP_push, show obM (O ++ [⟨x.obj, w.heap.size + 1 + 1, false, 0, []⟩]) = obM O ++ [((109, x.obj), Value.iface 172 (Value.agg #[Value.pointer (some (⟨w.heap.size + 1 + 1, 0, none⟩ : Addr))]))] by simp [obM]]
    show star (mapP bm _) (star (mP (w.heap.size + 1 + 1) false 0 []) (star (coreP b X bm) (star (obsP O) (star (blkP (w.heap.size + 1) 180 #[.int .u8 109, .int .i64 x.obj]) (star (blkP w.heap.size 97 x.cs) Q))))) = star _ (star _ (star (star (coreP b X bm) (star (mapP bm _) (star (mP (w.heap.size + 1 + 1) false 0 []) (obsP O)))) Q))
    ac_rfl)
  exact g.drop.drop.kept (schP_stable.star HQ.out) (by repeat (first | with_reducible (exact Keep.same _ _) | with_reducible (apply Keep.drew) | with_reducible (apply Keep.alloc)))
theorem find_new2 (h : Holds B w0 w (star (schP b X bm O) Q)) (hQ : Stable Q) (x : Op3) (hn : x.n = 0) (hk : x.k = 2) (hl : lookM (obM O) (109, x.obj) = none) (hf : ∀ o ∈ O, o.num ≠ x.obj) :
    Calls Try.prog 91 #[.pointer (some ⟨b, 0, none⟩), x.val] w (FindPost B w0 b X bm O x.obj Q) := by
  have hu := Try.underlying139
  have hu2 := Try.underlying97
  have hu3 := Try.underlying180
  have HQ := Lib.hid hQ
  have SQ := Lib.hid (show Stable (star (schP b X bm O) Q) from schP_stable.star hQ)
  have h1 := h.newBlk SQ.out 97 x.cs
  have h2 := h1.newBlk ((blkP_stable _ _ _).star SQ.out) 180 #[.int .u8 109, .int .i64 x.obj]
  rw [size_alloc] at h2
  have H2 := Lib.hid h2
  have X1 := blk_at' h1
  have K2 := Lib.hid (blk_at' h2)
  have h3 : Holds B w0 ((w.alloc (.cells x.cs 97)).alloc (.cells #[.int .u8 109, .int .i64 x.obj] 180)) (star (coreP b X bm) (star (mapP bm (obM O)) (star (obsP O) (star (blkP (w.heap.size + 1) 180 #[.int .u8 109, .int .i64 x.obj]) (star (blkP w.heap.size 97 x.cs) Q))))) := h2.perm (by unfold schP; ac_rfl)
  have h4 : Holds B w0 ((w.alloc (.cells x.cs 97)).alloc (.cells #[.int .u8 109, .int .i64 x.obj] 180)) (star (mapP bm (obM O)) (star (coreP b X bm) (star (obsP O) (star (blkP (w.heap.size + 1) 180 #[.int .u8 109, .int .i64 x.obj]) (star (blkP w.heap.size 97 x.cs) Q))))) := h2.perm (by unfold schP; ac_rfl)
  obtain ⟨A1, c1, Z⟩ := core_blk h3
  have H3 := Lib.hid h3
  have H4 := Lib.hid h4
  have x0 := X1.cell 0
  have x1 := X1.cell 1
  have x2 := X1.cell 2
  have hH : (fun w' => MapN w' bm (obM O) ∧ w'.cell? ⟨b, 1, none⟩ = some (.map (some bm)) ∧ w'.cell? ⟨w.heap.size + 1, 0, none⟩ = some (.int .u8 109) ∧ w'.cell? ⟨w.heap.size + 1, 1, none⟩ = some (.int .i64 x.obj)) ((w.alloc (.cells x.cs 97)).alloc (.cells #[.int .u8 109, .int .i64 x.obj] 180)) := ⟨map_at h4, Z.cell 1, K2.out.cell 0, K2.out.cell 1⟩
  dsimp only at hH
  clear h1 h2 h3 h4 Z X1
  have D1 : (x.k == 1) = false := by simp [hk]
  have D2 : (x.k == 2) = true := by simp [hk]
  have DN : (x.n == 0) = true := by simp [hn]
  have LK := Lib.hid hl
  have LN := LK
  have HF := Lib.hid hf
  have SM := Lib.hid (show Stable (star (mP (w.heap.size + 1 + 1) false 0 []) (star (coreP b X bm) (star (obsP O) (star (blkP (w.heap.size + 1) 180 #[.int .u8 109, .int .i64 x.obj]) (star (blkP w.heap.size 97 x.cs) Q))))) from (mP_stable _ _ _ _).star ((coreP_stable _ _ _).star ((obsP_stable _).star ((blkP_stable _ _ _).star ((blkP_stable _ _ _).star hQ)))))
  have n1 := H4.out.more ((mapP_stable bm (obM O)).star ((coreP_stable b X bm).star ((obsP_stable O).star ((blkP_stable (w.heap.size + 1) 180 #[.int .u8 109, .int .i64 x.obj]).star ((blkP_stable w.heap.size 97 x.cs).star hQ))))) (F := fun k => k = ((w.alloc (.cells x.cs 97)).alloc (.cells #[.int .u8 109, .int .i64 x.obj] 180)).heap.size) (mP_new ((w.alloc (.cells x.cs 97)).alloc (.cells #[.int .u8 109, .int .i64 x.obj] 180))) ((Keep.same _ _).alloc _) (fun k hk => by omega)
  rw [size_alloc, size_alloc] at n1
  have NM := Lib.hid (show Holds B w0 (((w.alloc (.cells x.cs 97)).alloc (.cells #[.int .u8 109, .int .i64 x.obj] 180)).alloc (.cells #[.slice none 0 0, .bool false, .int .i64 0] 128)) (star (mapP bm (obM O)) (star (mP (w.heap.size + 1 + 1) false 0 []) (star (coreP b X bm) (star (obsP O) (star (blkP (w.heap.size + 1) 180 #[.int .u8 109, .int .i64 x.obj]) (star (blkP w.heap.size 97 x.cs) Q)))))) from n1.perm (by ac_rfl))
  have SA := Lib.hid (show ∀ X', (fun w' => w'.cell? ⟨b, 1, none⟩ = some (.map (some bm)) ∧ w'.cell? ⟨w.heap.size + 1, 0, none⟩ = some (.int .u8 109) ∧ w'.cell? ⟨w.heap.size + 1, 1, none⟩ = some (.int .i64 x.obj)) X' → (fun w' => w'.cell? ⟨b, 1, none⟩ = some (.map (some bm)) ∧ w'.cell? ⟨w.heap.size + 1, 0, none⟩ = some (.int .u8 109) ∧ w'.cell? ⟨w.heap.size + 1, 1, none⟩ = some (.int .i64 x.obj)) (X'.alloc (.cells #[.slice none 0 0, .bool false, .int .i64 0] 128)) from fun X' hx => ⟨((Keep.same Nothing X').alloc _).cell hx.1 (fun h => h), ((Keep.same Nothing X').alloc _).cell hx.2.1 (fun h => h), ((Keep.same Nothing X').alloc _).cell hx.2.2 (fun h => h)⟩)
  clear h hQ hn hk hl hf n1
  unfold Op3.val Op3.cs
  go_enter Try.func91, Try.ntmps91
  go_wp2_with fail
  refine wp_region_noPanic ?_
  refine wp_region_held_drew (S := (fun w' => MapN w' bm (obM O) ∧ w'.cell? ⟨b, 1, none⟩ = some (.map (some bm)) ∧ w'.cell? ⟨w.heap.size + 1, 0, none⟩ = some (.int .u8 109) ∧ w'.cell? ⟨w.heap.size + 1, 1, none⟩ = some (.int .i64 x.obj))) (by kernel_rfl) hH (fun hHeld => ?_)
  refine wpAnyH_take (i := 0) (oi := _) (v := ?_) (by simp only [List.getElem?_toArray, List.getElem?_cons_succ, List.getElem?_cons_zero]; rfl) (by kernel_rfl) (by kernel_rfl) (by kernel_rfl) (fun _ _ _ h => h) (Or.inl ⟨by rfl, ?_⟩) (by assumption) ?_
  rotate_left
  · (intro w hSw; (try dsimp only at hSw); go_simp; (try with_reducible rfl))
  (try simp only [Act.put, List.setIfInBounds_toArray, List.set_cons_zero, List.set_cons_succ])
  refine wpAnyH_take (i := 1) (oi := _) (v := ?_) (by simp only [List.getElem?_toArray, List.getElem?_cons_succ, List.getElem?_cons_zero]; rfl) (by kernel_rfl) (by kernel_rfl) (by kernel_rfl) (fun _ _ _ h => h) (Or.inl ⟨by rfl, ?_⟩) (by assumption) ?_
  rotate_left
  · (intro w hSw; (try dsimp only at hSw); go_simp; (try with_reducible rfl))
  (try simp only [Act.put, List.setIfInBounds_toArray, List.set_cons_zero, List.set_cons_succ])
  refine wpAnyH_take (i := 2) (oi := _) (v := ?_) (by simp only [List.getElem?_toArray, List.getElem?_cons_succ, List.getElem?_cons_zero]; rfl) (by kernel_rfl) (by kernel_rfl) (by kernel_rfl) (fun _ _ _ h => h) (Or.inl ⟨by rfl, ?_⟩) (by assumption) ?_
  rotate_left
  · (intro w hSw; (try dsimp only at hSw); go_simp; (try with_reducible rfl))
  (try simp only [Act.put, List.setIfInBounds_toArray, List.set_cons_zero, List.set_cons_succ])
  refine wpAnyH_take (i := 3) (oi := _) (v := ?_) (by simp only [List.getElem?_toArray, List.getElem?_cons_succ, List.getElem?_cons_zero]; rfl) (by kernel_rfl) (by kernel_rfl) (by kernel_rfl) (fun _ _ _ h => h) (Or.inl ⟨by rfl, ?_⟩) (by assumption) ?_
  rotate_left
  · (intro w hSw; (try dsimp only at hSw); go_simp; (try with_reducible rfl))
  (try simp only [Act.put, List.setIfInBounds_toArray, List.set_cons_zero, List.set_cons_succ])
  refine wpAnyH_take (i := 4) (oi := _) (v := ?_) (by simp only [List.getElem?_toArray, List.getElem?_cons_succ, List.getElem?_cons_zero]; rfl) (by kernel_rfl) (by kernel_rfl) (by kernel_rfl) (fun _ _ _ h => h) (Or.inl ⟨by rfl, ?_⟩) (by assumption) ?_
  rotate_left
  · (intro w hSw; (try dsimp only at hSw); go_simp; (try with_reducible rfl))
  (try simp only [Act.put, List.setIfInBounds_toArray, List.set_cons_zero, List.set_cons_succ])
  refine wpAnyH_take (i := 5) (oi := _) (v := ?_) (by simp only [List.getElem?_toArray, List.getElem?_cons_succ, List.getElem?_cons_zero]; rfl) (by kernel_rfl) (by kernel_rfl) (by kernel_rfl) (fun _ _ _ h => h) (Or.inl ⟨by rfl, ?_⟩) (by assumption) ?_
  rotate_left
  · (intro w hSw; (try dsimp only at hSw); have hlk := run_lookN hSw.1 (109, x.obj); rw [LK.out] at hlk; simp only [Option.getD_some, Option.getD_none] at hlk; go_simp; (try with_reducible rfl))
  (try simp only [Act.put, List.setIfInBounds_toArray, List.set_cons_zero, List.set_cons_succ])
  refine wpAnyH_take (i := 6) (oi := _) (v := ?_) (by simp only [List.getElem?_toArray, List.getElem?_cons_succ, List.getElem?_cons_zero]; rfl) (by kernel_rfl) (by kernel_rfl) (by kernel_rfl) (fun _ _ _ h => h) (Or.inl ⟨by rfl, ?_⟩) (by assumption) ?_
  rotate_left
  · (intro w hSw; (try dsimp only at hSw); go_simp; (try with_reducible rfl))
  (try simp only [Act.put, List.setIfInBounds_toArray, List.set_cons_zero, List.set_cons_succ])
  refine wpAnyH_done (by kernel_rfl) ?_ _
  refine NoPanic.normal ?_
  go_wp2_with fail
  refine wp_region_noPanic ?_
  refine wp_region_held_drew (S := (fun w' => w'.cell? ⟨b, 1, none⟩ = some (.map (some bm)) ∧ w'.cell? ⟨w.heap.size + 1, 0, none⟩ = some (.int .u8 109) ∧ w'.cell? ⟨w.heap.size + 1, 1, none⟩ = some (.int .i64 x.obj))) (by kernel_rfl) hH.2 (fun hHeld => ?_)
  refine wpAnyH_take (i := 0) (oi := _) (v := ?_) (by simp only [List.getElem?_toArray, List.getElem?_cons_succ, List.getElem?_cons_zero]; rfl) (by kernel_rfl) (by kernel_rfl) (by kernel_rfl) (fun _ _ _ h => h) (Or.inl ⟨by rfl, ?_⟩) (by assumption) ?_
  rotate_left
  · (intro w hSw; (try dsimp only at hSw); go_simp; (try with_reducible rfl))
  (try simp only [Act.put, List.setIfInBounds_toArray, List.set_cons_zero, List.set_cons_succ])
  refine wpAnyH_take (i := 1) (oi := _) (v := ?_) (by simp only [List.getElem?_toArray, List.getElem?_cons_succ, List.getElem?_cons_zero]; rfl) (by kernel_rfl) (by kernel_rfl) (by kernel_rfl) (fun _ _ _ h => h) (Or.inl ⟨by rfl, ?_⟩) (by assumption) ?_
  rotate_left
  · (intro w hSw; (try dsimp only at hSw); go_simp; (try with_reducible rfl))
  (try simp only [Act.put, List.setIfInBounds_toArray, List.set_cons_zero, List.set_cons_succ])
  refine wpAnyH_take (i := 2) (oi := _) (v := ?_) (by simp only [List.getElem?_toArray, List.getElem?_cons_succ, List.getElem?_cons_zero]; rfl) (by kernel_rfl) (by kernel_rfl) (by kernel_rfl) (fun _ _ _ h => h) (Or.inl ⟨by rfl, ?_⟩) (by assumption) ?_
  rotate_left
  · (intro w hSw; (try dsimp only at hSw); go_simp; (try with_reducible rfl))
  (try simp only [Act.put, List.setIfInBounds_toArray, List.set_cons_zero, List.set_cons_succ])
  refine wpAnyH_take (i := 3) (oi := _) (v := ?_) (by simp only [List.getElem?_toArray, List.getElem?_cons_succ, List.getElem?_cons_zero]; rfl) (by kernel_rfl) (by kernel_rfl) (by kernel_rfl) (fun _ _ _ h => h) (Or.inl ⟨by rfl, ?_⟩) (by assumption) ?_
  rotate_left
  · (intro w hSw; (try dsimp only at hSw); go_simp; (try with_reducible rfl))
  (try simp only [Act.put, List.setIfInBounds_toArray, List.set_cons_zero, List.set_cons_succ])
  refine wpAnyH_take (i := 4) (oi := _) (v := ?_) (by simp only [List.getElem?_toArray, List.getElem?_cons_succ, List.getElem?_cons_zero]; rfl) (by kernel_rfl) (by kernel_rfl) (by kernel_rfl) (fun _ _ _ h => h) (Or.inl ⟨by rfl, ?_⟩) (by assumption) ?_
  rotate_left
  · (intro w hSw; (try dsimp only at hSw); go_simp; (try with_reducible rfl))
  (try simp only [Act.put, List.setIfInBounds_toArray, List.set_cons_zero, List.set_cons_succ])
  refine wpAnyH_take (i := 5) (oi := _) (v := ?_) (by simp only [List.getElem?_toArray, List.getElem?_cons_succ, List.getElem?_cons_zero]; rfl) (by kernel_rfl) (by kernel_rfl) (by kernel_rfl) (fun _ _ _ h => h) (Or.inl ⟨by rfl, ?_⟩) (by assumption) ?_
  rotate_left
  · (intro w hSw; (try dsimp only at hSw); go_simp; (try with_reducible rfl))
  (try simp only [Act.put, List.setIfInBounds_toArray, List.set_cons_zero, List.set_cons_succ])
  refine wpAnyH_ready (rs := [6]) (by kernel_rfl) (by simp) ?_
  refine AllReadyH.cons (o := _) (by simp only [List.getElem?_toArray, List.getElem?_cons_succ, List.getElem?_cons_zero]; rfl) (fun K hK => ?_) AllReadyH.nil
  go_simp
  refine (find1_calls _).mono ?_
  rintro e w6 ⟨rfl, rfl⟩
  (try go_wp2_with fail)
  refine hK.out _ _ (SA.out _ hHeld) (fun hHeld => ?_)
  clear hK K
  (try simp only [Act.put, List.setIfInBounds_toArray, List.set_cons_zero, List.set_cons_succ])
  refine wpAnyH_ready (rs := [7]) (by kernel_rfl) (by simp) ?_
  refine AllReadyH.cons (o := _) (by simp only [List.getElem?_toArray, List.getElem?_cons_succ, List.getElem?_cons_zero]; rfl) (fun K hK => ?_) AllReadyH.nil
  have NK := Lib.hid (NM.out.kept ((mapP_stable _ _).star SM.out) (by repeat (first | with_reducible (exact Keep.same _ _) | with_reducible (apply Keep.drew) | with_reducible (apply Keep.alloc))) : Holds B w0 ((((w.alloc (.cells x.cs 97)).alloc (.cells #[.int .u8 109, .int .i64 x.obj] 180)).alloc (.cells #[.slice none 0 0, .bool false, .int .i64 0] 128)).drew.drew) (star (mapP bm (obM O)) (star (mP (w.heap.size + 1 + 1) false 0 []) (star (coreP b X bm) (star (obsP O) (star (blkP (w.heap.size + 1) 180 #[.int .u8 109, .int .i64 x.obj]) (star (blkP w.heap.size 97 x.cs) Q)))))))
  refine step_putN (by rfl) (.tmp 42) (.tmp 43) (.tmp 45) (by rfl) (map_at NK.out) (109, x.obj) LN.out (Value.iface 172 (Value.agg #[Value.pointer (some (⟨w.heap.size + 1 + 1, 0, none⟩ : Addr))])) (by simp [Act.eval, Act.put]) (by simp [Act.eval, Act.put]) (by simp [Act.eval, Act.put]) ?_
  intro w7 hm7 hk7
  have N7 := Lib.hid (map_put NK.out SM.out hm7 hk7)
  have n7 : Holds B w0 w7 (star (coreP b X bm) (star (mapP bm (obM O ++ [((109, x.obj), Value.iface 172 (Value.agg #[Value.pointer (some (⟨w.heap.size + 1 + 1, 0, none⟩ : Addr))]))])) (star (mP (w.heap.size + 1 + 1) false 0 []) (star (obsP O) (star (blkP (w.heap.size + 1) 180 #[.int .u8 109, .int .i64 x.obj]) (star (blkP w.heap.size 97 x.cs) Q)))))) := N7.out.perm (by ac_rfl)
  have n8 : Holds B w0 w7 (star (blkP (w.heap.size + 1) 180 #[.int .u8 109, .int .i64 x.obj]) (star (coreP b X bm) (star (mapP bm (obM O ++ [((109, x.obj), Value.iface 172 (Value.agg #[Value.pointer (some (⟨w.heap.size + 1 + 1, 0, none⟩ : Addr))]))])) (star (mP (w.heap.size + 1 + 1) false 0 []) (star (obsP O) (star (blkP w.heap.size 97 x.cs) Q)))))) := N7.out.perm (by ac_rfl)
  obtain ⟨A7, c7, Z7⟩ := core_blk n7
  have K7 := blk_at' n8
  have LK := Lib.hid (show lookM (obM O ++ [((109, x.obj), Value.iface 172 (Value.agg #[Value.pointer (some (⟨w.heap.size + 1 + 1, 0, none⟩ : Addr))]))]) (109, x.obj) = some (Ob.v ⟨x.obj, w.heap.size + 1 + 1, false, 0, []⟩) by rw [lookM_app, LN.out]; simp)
  have hH2 : (fun w' => MapN w' bm (obM O ++ [((109, x.obj), Value.iface 172 (Value.agg #[Value.pointer (some (⟨w.heap.size + 1 + 1, 0, none⟩ : Addr))]))]) ∧ w'.cell? ⟨b, 1, none⟩ = some (.map (some bm)) ∧ w'.cell? ⟨w.heap.size + 1, 0, none⟩ = some (.int .u8 109) ∧ w'.cell? ⟨w.heap.size + 1, 1, none⟩ = some (.int .i64 x.obj)) w7 := ⟨hm7, Z7.cell 1, K7.cell 0, K7.cell 1⟩
  have hHS := hH2.2
  dsimp only at hH2
  clear hm7 hk7 n7 n8 Z7 K7
  refine hK.out _ _ hHS (fun hHeld => ?_)
  clear hK K
  (try simp only [Act.put, List.setIfInBounds_toArray, List.set_cons_zero, List.set_cons_succ])
  refine wpAnyH_done (by kernel_rfl) ?_ _
  refine NoPanic.normal ?_
  clear hH hHS
  go_wp2_with fail
  refine wp_region_noPanic ?_
  refine wp_region_held_drew (S := (fun w' => MapN w' bm (obM O ++ [((109, x.obj), Value.iface 172 (Value.agg #[Value.pointer (some (⟨w.heap.size + 1 + 1, 0, none⟩ : Addr))]))]) ∧ w'.cell? ⟨b, 1, none⟩ = some (.map (some bm)) ∧ w'.cell? ⟨w.heap.size + 1, 0, none⟩ = some (.int .u8 109) ∧ w'.cell? ⟨w.heap.size + 1, 1, none⟩ = some (.int .i64 x.obj))) (by kernel_rfl) hH2 (fun hHeld => ?_)
  refine wpAnyH_take (i := 0) (oi := _) (v := ?_) (by simp only [List.getElem?_toArray, List.getElem?_cons_succ, List.getElem?_cons_zero]; rfl) (by kernel_rfl) (by kernel_rfl) (by kernel_rfl) (fun _ _ _ h => h) (Or.inl ⟨by rfl, ?_⟩) (by assumption) ?_
  rotate_left
  · (intro w hSw; (try dsimp only at hSw); go_simp; (try with_reducible rfl))
  (try simp only [Act.put, List.setIfInBounds_toArray, List.set_cons_zero, List.set_cons_succ])
  refine wpAnyH_take (i := 1) (oi := _) (v := ?_) (by simp only [List.getElem?_toArray, List.getElem?_cons_succ, List.getElem?_cons_zero]; rfl) (by kernel_rfl) (by kernel_rfl) (by kernel_rfl) (fun _ _ _ h => h) (Or.inl ⟨by rfl, ?_⟩) (by assumption) ?_
  rotate_left
  · (intro w hSw; (try dsimp only at hSw); go_simp; (try with_reducible rfl))
  (try simp only [Act.put, List.setIfInBounds_toArray, List.set_cons_zero, List.set_cons_succ])
  refine wpAnyH_take (i := 2) (oi := _) (v := ?_) (by simp only [List.getElem?_toArray, List.getElem?_cons_succ, List.getElem?_cons_zero]; rfl) (by kernel_rfl) (by kernel_rfl) (by kernel_rfl) (fun _ _ _ h => h) (Or.inl ⟨by rfl, ?_⟩) (by assumption) ?_
  rotate_left
  · (intro w hSw; (try dsimp only at hSw); go_simp; (try with_reducible rfl))
  (try simp only [Act.put, List.setIfInBounds_toArray, List.set_cons_zero, List.set_cons_succ])
  refine wpAnyH_take (i := 3) (oi := _) (v := ?_) (by simp only [List.getElem?_toArray, List.getElem?_cons_succ, List.getElem?_cons_zero]; rfl) (by kernel_rfl) (by kernel_rfl) (by kernel_rfl) (fun _ _ _ h => h) (Or.inl ⟨by rfl, ?_⟩) (by assumption) ?_
  rotate_left
  · (intro w hSw; (try dsimp only at hSw); go_simp; (try with_reducible rfl))
  (try simp only [Act.put, List.setIfInBounds_toArray, List.set_cons_zero, List.set_cons_succ])
  refine wpAnyH_take (i := 4) (oi := _) (v := ?_) (by simp only [List.getElem?_toArray, List.getElem?_cons_succ, List.getElem?_cons_zero]; rfl) (by kernel_rfl) (by kernel_rfl) (by kernel_rfl) (fun _ _ _ h => h) (Or.inl ⟨by rfl, ?_⟩) (by assumption) ?_
  rotate_left
  · (intro w hSw; (try dsimp only at hSw); go_simp; (try with_reducible rfl))
  (try simp only [Act.put, List.setIfInBounds_toArray, List.set_cons_zero, List.set_cons_succ])
  refine wpAnyH_take (i := 5) (oi := _) (v := ?_) (by simp only [List.getElem?_toArray, List.getElem?_cons_succ, List.getElem?_cons_zero]; rfl) (by kernel_rfl) (by kernel_rfl) (by kernel_rfl) (fun _ _ _ h => h) (Or.inl ⟨by rfl, ?_⟩) (by assumption) ?_
  rotate_left
  · (intro w hSw; (try dsimp only at hSw); have hlk := run_lookN hSw.1 (109, x.obj); rw [LK.out] at hlk; simp only [Option.getD_some, Option.getD_none] at hlk; go_simp; (try with_reducible rfl))
  (try simp only [Act.put, List.setIfInBounds_toArray, List.set_cons_zero, List.set_cons_succ])
  refine wpAnyH_take (i := 6) (oi := _) (v := ?_) (by simp only [List.getElem?_toArray, List.getElem?_cons_succ, List.getElem?_cons_zero]; rfl) (by kernel_rfl) (by kernel_rfl) (by kernel_rfl) (fun _ _ _ h => h) (Or.inl ⟨by rfl, ?_⟩) (by assumption) ?_
  rotate_left
  · (intro w hSw; (try dsimp only at hSw); go_simp; (try with_reducible rfl))
  (try simp only [Act.put, List.setIfInBounds_toArray, List.set_cons_zero, List.set_cons_succ])
  refine wpAnyH_done (by kernel_rfl) ?_ _
  refine NoPanic.normal ?_
  clear hH2
  go_wp2_with fail
  go_ret
  refine ⟨O ++ [⟨x.obj, w.heap.size + 1 + 1, false, 0, []⟩], O.length, ⟨x.obj, w.heap.size + 1 + 1, false, 0, []⟩, rfl, by simp, rfl, fun j o' hj ho' => HF.out o' (List.mem_of_getElem? (by rw [List.getElem?_append_left hj] at ho'; exact ho')), .inr ⟨rfl, rfl, rfl, rfl, HF.out⟩, ?_⟩
  have g : Holds B w0 w7 (star (blkP (w.heap.size + 1) 180 #[.int .u8 109, .int .i64 x.obj]) (star (blkP w.heap.size 97 x.cs) (star (schP b X bm (O ++ [⟨x.obj, w.heap.size + 1 + 1, false, 0, []⟩])) Q))) := N7.out.perm (by
    unfold schP
    rw [obsP_push, show obM (O ++ [⟨x.obj, w.heap.size + 1 + 1, false, 0, []⟩]) = obM O ++ [((109, x.obj), Value.iface 172 (Value.agg #[Value.pointer (some (⟨w.heap.size + 1 + 1, 0, none⟩ : Addr))]))] by simp [obM]]
    show star (mapP bm _) (star (mP (w.heap.size + 1 + 1) false 0 []) (star (coreP b X bm) (star (obsP O) (star (blkP (w.heap.size + 1) 180 #[.int .u8 109, .int .i64 x.obj]) (star (blkP w.heap.size 97 x.cs) Q))))) = star _ (star _ (star (star (coreP b X bm) (star (mapP bm _) (star (mP (w.heap.size + 1 + 1) false 0 []) (obsP O)))) Q))
    ac_rfl)
  exact g.drop.drop.kept (schP_stable.star HQ.out) (by repeat (first | with_reducible (exact Keep.same _ _) | with_reducible (apply Keep.drew) | with_reducible (apply Keep.alloc)))
end
end Go.Proofs.Ytmohpjkbhpgidaa.A
