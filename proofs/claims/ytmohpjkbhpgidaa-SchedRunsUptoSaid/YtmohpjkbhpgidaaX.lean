/-
  What the walks of slices.Insert and slices.Delete need: copy, append of make, clear, at elements of any size.
-/
import Derived.Test.YtmohpjkbhpgidaaS
import Derived.Lib.AppendZerosOnto
import Derived.Lib.Overlaps
import Derived.Laws.Externs
namespace Go.Proofs.Ytmohpjkbhpgidaa.U
open Go.RowKit
set_option linter.unusedVariables false
set_option linter.unusedSimpArgs false

section
variable {P : Program} (w : World)
theorem run_copyN {t e : TypeId} {size bytes : Nat} {z : Value} (E : Elem P t e size bytes z) (ty : TypeId) (g o dLen dCap : Nat) (cur : Array Value) (hb : Blk w g e cur)
    (A : Option Addr) (m c : Nat) (xs : List Value) (hs : Src w A size m xs) (k : Nat) (hk : Nat.min m dLen = k) (hfit : o + k * size ≤ cur.size) (h1 : ∀ u ∈ xs.take (k * size), u.oneCell' = true) :
    (Builtin.copy_ #[t, t] ty #[.slice (some ⟨g, o, none⟩) dLen dCap, .slice A m c]).run P w =
      .ok (goInt (k : Int)) (w.setRow g (cur.toList.take o ++ xs.take (k * size) ++ cur.toList.drop (o + k * size)).toArray) := by
  obtain ⟨i, hi, _, hsize, _⟩ := info_parts E.info
  have hkm : k ≤ m := by rw [← hk]; exact Nat.min_le_left _ _
  have hkl : k * size ≤ m * size := Nat.mul_le_mul_right _ hkm
  have hl : (xs.take (k * size)).length = k * size := by rw [List.length_take, hs.1]; omega
  have hst := run_storeCells_at P g o e (xs.take (k * size)) 0 cur w hb (by rw [hl]; omega) h1
  simp only [Nat.add_zero, hl] at hst
  cases A with
  | some ad =>
    have hsrc : ∀ j v, (xs.take (k * size))[j]? = some v → w.cell? (ad.add j) = some v := by
      intro j v hj
      have hj' : j < (xs.take (k * size)).length := (List.getElem?_eq_some_iff.1 hj).1
      have hm0 : 0 < m := by
        rcases Nat.eq_zero_or_pos m with h0 | h0
        · subst h0; simp at hkl; rw [hl, hkl] at hj'; omega
        · exact h0
      obtain ⟨ad', he, hc⟩ := hs.2 hm0
      injection he with he
      subst he
      refine hc j v ?_
      rw [List.getElem?_take, if_pos (by omega)] at hj
      exact hj
    have hf := run_firstCells_some (P := P) w size k ad m c (xs.take (k * size)) hl hsrc
    simp [Builtin.copy_, run_underlying E.slice, Builtin.lenOf, sizeOf, typeInfo, hi, hsize, hk, hf, hst]
  | none =>
    have hm : m = 0 := by
      rcases Nat.eq_zero_or_pos m with h0 | h0
      · exact h0
      · obtain ⟨ad, he, _⟩ := hs.2 h0
        cases he
    subst hm
    obtain rfl : k = 0 := by omega
    have hself := setRow_self w g cur e (0, 0) hb
    simp only [Nat.zero_mul, List.take_zero, List.append_nil, Nat.add_zero, List.take_append_drop, Array.toArray_toList, hself]
    simp [Builtin.copy_, run_underlying E.slice, Builtin.lenOf, Builtin.firstCells, sizeOf, typeInfo, hi, storeCells]
/-- The operation 'copy', its run at hand. -/
theorem wp_copy_run {o : Oper} {a : Act} {K : Act → World → Prop} {Q : Exit → Act → World → Prop} (d s : Operand) (t t' : TypeId)
    (ho : o.op = .call { callee := .builtin .copy, args := #[d, s], argTypes := #[t, t'] }) (v u : Value) (hd : a.eval d = v) (hs : a.eval s = u) {v' : Value} {w' : World}
    (hr : ∀ ty, (Builtin.copy_ #[t, t'] ty #[v, u]).run P w = .ok v' w') (h : K (a.put o.dst v') w') : o.wp P a w K Q := by
  unfold Oper.wp execOp
  simp only [ho, resolve, invoke, builtin, Sem.run_bind, Sem.run_pure, Result.andThen_ok, List.map_toArray, List.map_cons, List.map_nil, hd, hs, hr]
  exact h
theorem wpList_copy_run {ops : Array Oper} {rest : List Oper} {o : Oper} {a : Act} {Q : Exit → Act → World → Prop} (hgd : o.guard = none) (d s : Operand) (t t' : TypeId)
    (ho : o.op = .call { callee := .builtin .copy, args := #[d, s], argTypes := #[t, t'] }) (v u : Value) (hd : a.eval d = v) (hs : a.eval s = u) {v' : Value} {w' : World}
    (hr : ∀ ty, (Builtin.copy_ #[t, t'] ty #[v, u]).run P w = .ok v' w') (h : wpList P ops Q rest (a.put o.dst v') w') : wpList P ops Q (o :: rest) a w :=
  wpList_plain hgd fun _ hK => wp_copy_run w d s t t' ho v u hd hs hr (hK _ _ h)
theorem step_copy_run {ops : Array Oper} {o : Oper} {a : Act} {K : Act → World → Prop} {Q : Exit → Act → World → Prop} {F : Prop} (hgd : o.guard = none) (d s : Operand) (t t' : TypeId)
    (ho : o.op = .call { callee := .builtin .copy, args := #[d, s], argTypes := #[t, t'] }) (v u : Value) (hd : a.eval d = v) (hs : a.eval s = u) {v' : Value} {w' : World}
    (hr : ∀ ty, (Builtin.copy_ #[t, t'] ty #[v, u]).run P w = .ok v' w') (h : K (a.put o.dst v') w') :
    if Region.wanted o (yielded ops a.tmps) = true then Oper.wp P o a w K Q else F := by
  have hw : Region.wanted o (yielded ops a.tmps) = true := by simp [Region.wanted, hgd]
  rw [if_pos hw]
  exact wp_copy_run w d s t t' ho v u hd hs hr h
theorem step_append_run {ops : Array Oper} {o : Oper} {a : Act} {K : Act → World → Prop} {Q : Exit → Act → World → Prop} {F : Prop} (hgd : o.guard = none) (d s : Operand) (t t' : TypeId)
    (ho : o.op = .call { callee := .builtin .append, args := #[d, s], argTypes := #[t, t'] }) (v u : Value) (hd : a.eval d = v) (hs : a.eval s = u) {v' : Value} {w' : World}
    (hr : ∀ ty, (Builtin.append_ #[t, t'] ty #[v, u]).run P w = .ok v' w') (h : K (a.put o.dst v') w') :
    if Region.wanted o (yielded ops a.tmps) = true then Oper.wp P o a w K Q else F := by
  have hw : Region.wanted o (yielded ops a.tmps) = true := by simp [Region.wanted, hgd]
  rw [if_pos hw]
  exact Lib.wp_append_run w d s t t' ho v u hd hs v' w' (hr _) h
end

theorem ins_parts (A X1 Y X2 R news : List Value) (o I s N : Nat) (hA : A.length = o) (hX : X1.length = I) (hY : Y.length = s) (hn : news.length = s) (hN : I + s + X2.length = N) :
    ((((A ++ X1) ++ (Y ++ (X2 ++ R))).take (o + I) ++ news ++ ((A ++ X1 ++ Y) ++ (X2 ++ R)).drop (o + I + s)).drop o).take N = X1 ++ news ++ X2 := by
  have a1 : ((A ++ X1) ++ (Y ++ (X2 ++ R))).take (o + I) = A ++ X1 := List.take_left' (by rw [List.length_append]; omega)
  have a2 : ((A ++ X1 ++ Y) ++ (X2 ++ R)).drop (o + I + s) = X2 ++ R := List.drop_left' (by simp only [List.length_append]; omega)
  rw [a1, a2]
  have e : A ++ X1 ++ news ++ (X2 ++ R) = A ++ ((X1 ++ news ++ X2) ++ R) := by simp only [List.append_assoc]
  rw [e, List.drop_left' hA]
  exact List.take_left' (by simp only [List.length_append]; omega)
/-- In place: what is read behind the two copies. -/
theorem ins_list (C : List Value) (o I N s : Nat) (xs news : List Value) (hx : (C.drop o).take N = xs) (hN : o + N + s ≤ C.length) (hI : I ≤ N) (hn : news.length = s) :
    ((((C.take (o + I + s) ++ xs.drop I ++ C.drop (o + N + s)).take (o + I) ++ news ++ (C.take (o + I + s) ++ xs.drop I ++ C.drop (o + N + s)).drop (o + I + s)).drop o).take (N + s)) = xs.take I ++ news ++ xs.drop I := by
  have hl : xs.length = N := by rw [← hx, List.length_take, List.length_drop]; omega
  have h1 : C.take (o + I + s) = C.take o ++ xs.take I ++ (C.drop (o + I)).take s := by
    rw [List.take_add, List.take_add, ← hx, List.take_take, Nat.min_eq_left hI]
  have e1 : C.take (o + I + s) ++ xs.drop I ++ C.drop (o + N + s) = (C.take o ++ xs.take I) ++ ((C.drop (o + I)).take s ++ (xs.drop I ++ C.drop (o + N + s))) := by
    rw [h1]; simp only [List.append_assoc]
  have e2 : C.take (o + I + s) ++ xs.drop I ++ C.drop (o + N + s) = (C.take o ++ xs.take I ++ (C.drop (o + I)).take s) ++ (xs.drop I ++ C.drop (o + N + s)) := by
    rw [h1]; simp only [List.append_assoc]
  have := ins_parts (C.take o) (xs.take I) ((C.drop (o + I)).take s) (xs.drop I) (C.drop (o + N + s)) news o I s (N + s) (by rw [List.length_take]; omega) (by rw [List.length_take]; omega) (by rw [List.length_take, List.length_drop]; omega) hn (by rw [List.length_drop]; omega)
  rw [← e1, ← e2] at this
  exact this
section
variable {P : Program} (w : World)
theorem ins_room {t e : TypeId} {size bytes : Nat} {z : Value} (E : Elem P t e size bytes z) {g o n cap i : Nat} {cur : Array Value} (hb : Blk w g e cur) (hroom : n + 1 ≤ cap) (hcm : cap ≤ maxLen) (hfit : o + cap * size ≤ cur.size)
    {xs : List Value} (hx : (cur.toList.drop o).take (n * size) = xs) (hi : i < n) {vb : Nat} {news : Array Value} (hv : Blk w vb e news) (hns : news.size = size) (hne : vb ≠ g) (h1x : ∀ u ∈ xs, u.oneCell' = true) (h1n : ∀ u ∈ news.toList, u.oneCell' = true) :
    ∃ w1 w2, (∀ ty, (Builtin.copy_ #[t, t] ty #[.slice (some ⟨g, o + (i + 1) * size, none⟩) (n + 1 - (i + 1)) (cap - (i + 1)), .slice (some ⟨g, o + i * size, none⟩) (n + 1 - i) (cap - i)]).run P w = .ok (goInt ((n - i : Nat) : Int)) w1) ∧
      (∀ ty, (Builtin.copy_ #[t, t] ty #[.slice (some ⟨g, o + i * size, none⟩) (n + 1 - i) (cap - i), .slice (some ⟨vb, 0, none⟩) 1 1]).run P w1 = .ok (goInt ((1 : Nat) : Int)) w2) ∧
      Row w2 e size (.slice (some ⟨g, o, none⟩) (n + 1) cap) (n + 1) (xs.take (i * size) ++ news.toList ++ xs.drop (i * size)) ∧ Keep (fun k => k = g) w w2 := by
  have hps := E.pos
  have m1 : (n + 1) * size ≤ cap * size := Nat.mul_le_mul_right _ hroom
  have m2 : (i + 1) * size ≤ n * size := Nat.mul_le_mul_right _ hi
  have m3 : (n + 1) * size = n * size + size := by rw [Nat.add_mul, Nat.one_mul]
  have m4 : (i + 1) * size = i * size + size := by rw [Nat.add_mul, Nat.one_mul]
  have m5 : (n + 1 - i) * size = (n + 1) * size - i * size := Nat.sub_mul ..
  have m6 : (n - i) * size = n * size - i * size := Nat.sub_mul ..
  have hcl : cur.toList.length = cur.size := by simp
  have hs : Src w (some ⟨g, o + i * size, none⟩) size (n + 1 - i) ((cur.toList.drop (o + i * size)).take ((n + 1 - i) * size)) := by
    refine ⟨by rw [List.length_take, List.length_drop]; omega, fun _ => ⟨_, rfl, fun j u hu => ?_⟩⟩
    have hj := (List.getElem?_eq_some_iff.1 hu).1
    rw [List.length_take] at hj
    rw [List.getElem?_take, if_pos (by omega), List.getElem?_drop] at hu
    rw [addAt, hb.cell, ← hu]
    simp
  have hq : ((cur.toList.drop (o + i * size)).take ((n + 1 - i) * size)).take ((n - i) * size) = xs.drop (i * size) := by
    rw [List.take_take, Nat.min_eq_left (by omega), ← hx, List.drop_take, List.drop_drop, m6]
  have C1 := fun ty => run_copyN w E ty g (o + (i + 1) * size) (n + 1 - (i + 1)) (cap - (i + 1)) cur hb _ (n + 1 - i) (cap - i) _ hs (n - i) (by simp only [Nat.min_def]; split <;> omega) (by omega) (by rw [hq]; exact fun u hu => h1x u (List.mem_of_mem_drop hu))
  rw [hq] at C1
  have B1 := hb.setRow ((cur.toList.take (o + (i + 1) * size) ++ xs.drop (i * size) ++ cur.toList.drop (o + (i + 1) * size + (n - i) * size)).toArray)
  have K1 : Keep (fun k => k = g) w _ := (Keep.same (fun k => k = g) w).setRow (g := g) (.inl rfl) ((cur.toList.take (o + (i + 1) * size) ++ xs.drop (i * size) ++ cur.toList.drop (o + (i + 1) * size + (n - i) * size)).toArray)
  have hxl : xs.length = n * size := by rw [← hx, List.length_take, List.length_drop]; omega
  have V1 := hv.keep K1 hne
  have hs2 : Src (w.setRow g ((cur.toList.take (o + (i + 1) * size) ++ xs.drop (i * size) ++ cur.toList.drop (o + (i + 1) * size + (n - i) * size)).toArray)) (some ⟨vb, 0, none⟩) size 1 news.toList := by
    refine ⟨by simp [hns], fun _ => ⟨_, rfl, fun j u hu => ?_⟩⟩
    rw [addAt, V1.cell, Nat.zero_add]
    simpa using hu
  have hsz : ((cur.toList.take (o + (i + 1) * size) ++ xs.drop (i * size) ++ cur.toList.drop (o + (i + 1) * size + (n - i) * size)).toArray).size = cur.size := by
    simp only [List.size_toArray, List.length_append, List.length_take, List.length_drop, hcl, hxl]
    omega
  have C2 := fun ty => run_copyN _ E ty g (o + i * size) (n + 1 - i) (cap - i) _ B1 _ 1 1 _ hs2 1 (by simp only [Nat.min_def]; split <;> omega) (by rw [hsz]; omega) (fun u hu => h1n u (List.mem_of_mem_take hu))
  refine ⟨_, _, C1, C2, ⟨?_, .inr ⟨g, o, cap, _, rfl, B1.setRow _, hroom, hcm, ?_, ?_⟩⟩, K1.setRow (.inl rfl) _⟩
  · simp only [List.length_append, List.length_take, List.length_drop, Array.length_toList, hns, hxl]
    omega
  · simp only [List.size_toArray, List.length_append, List.length_take, List.length_drop, Array.length_toList, hns, hxl, Nat.one_mul]
    omega
  · have := ins_list cur.toList o (i * size) (n * size) size xs news.toList hx (by omega) (by omega) (by simp [hns])
    have e1 : o + (i + 1) * size = o + i * size + size := by omega
    have e2 : o + i * size + size + (n - i) * size = o + n * size + size := by omega
    have e3 : List.take size news.toList = news.toList := List.take_of_length_le (by simp [hns])
    simp only [e1, e2, Nat.one_mul, m3, e3]
    exact this
theorem ins_grow {t e tn : TypeId} {size bytes : Nat} {z : Value} (E : Elem P t e size bytes z) {kn : IntKind} (htn : P.underlying tn = some (.int kn)) {n cap i : Nat} {A : Option Addr} {xs : List Value} (hrow : Row w e size (.slice A n cap) n xs) (hi : i < n) (hno : cap < n + 1)
    (h63 : n + 1 ≤ maxLen) (hbytes : (n + 1) * bytes ≤ 140737488355328) {vb : Nat} {news : Array Value} (hv : Blk w vb e news) (hns : news.size = size) (h1x : ∀ u ∈ xs, u.oneCell' = true) (h1n : ∀ u ∈ news.toList, u.oneCell' = true) :
    ∃ w1 w2 w3 c', n + 1 ≤ c' ∧ c' ≤ maxLen ∧ (∀ ty, (Builtin.append_ #[t, tn] ty #[.slice A i cap, .int .i64 ((n + 1 - i : Nat) : Int)]).run P w = .ok (.slice (some ⟨w.heap.size, 0, none⟩) (n + 1) c') w1) ∧
      (∀ ty, (Builtin.copy_ #[t, t] ty #[.slice (some ⟨w.heap.size, i * size, none⟩) (n + 1 - i) (c' - i), .slice (some ⟨vb, 0, none⟩) 1 1]).run P w1 = .ok (goInt ((1 : Nat) : Int)) w2) ∧
      (∀ ty, (Builtin.copy_ #[t, t] ty #[.slice (some ⟨w.heap.size, (i + 1) * size, none⟩) (n + 1 - (i + 1)) (c' - (i + 1)), .slice (if cap = i then A else A.map (·.add (i * size))) (n - i) (cap - i)]).run P w2.drew = .ok (goInt ((n - i : Nat) : Int)) w3) ∧
      Row w3 e size (.slice (some ⟨w.heap.size, 0, none⟩) (n + 1) c') (n + 1) (xs.take (i * size) ++ news.toList ++ xs.drop (i * size)) ∧ Keep Nothing w w3 := by
  obtain ⟨ii, hii, hz, hsize, hby⟩ := info_parts E.info
  have hzs := E.zero
  have hps := E.pos
  subst hsize
  subst hby
  have hxl := hrow.1
  have hsmall : n + 1 ≤ 9223372036854775807 := by simp only [maxLen] at h63; omega
  have m2 : (i + 1) * ii.size ≤ n * ii.size := Nat.mul_le_mul_right _ hi
  have m3 : (n + 1) * ii.size = n * ii.size + ii.size := by rw [Nat.add_mul, Nat.one_mul]
  have m4 : (i + 1) * ii.size = i * ii.size + ii.size := by rw [Nat.add_mul, Nat.one_mul]
  have m5 : (n + 1 - i) * ii.size = (n + 1) * ii.size - i * ii.size := Nat.sub_mul ..
  have m6 : (n - i) * ii.size = n * ii.size - i * ii.size := Nat.sub_mul ..
  have hin : i + (n + 1 - i) = n + 1 := by omega
  have hg := grownCap_ge w (n + 1) cap e
  have hcm := grownCap_le_maxLen w (n + 1) cap e h63
  have hic : i ≤ cap := by obtain ⟨_, _, e1, e2, _⟩ := hrow.form; injection e1 with _ _ e3; omega
  have hcut := (hrow.drew.take_ (k := i) (m := cap) (by omega) hic (Nat.le_refl _)).src
  have hold : (Builtin.firstCells ii.size i (.slice A i cap)).run P w.drew = .ok (xs.take (i * ii.size)).toArray w.drew := by
    cases A with
    | some ad => 
      refine run_firstCells_some w.drew ii.size i ad i cap (xs.take (i * ii.size)) hcut.1 fun j v hj => ?_
      have hj' := (List.getElem?_eq_some_iff.1 hj).1
      have hi0 : 0 < i := by
        rcases Nat.eq_zero_or_pos i with h0 | h0
        · subst h0; simp at hj'
        · exact h0
      obtain ⟨ad', he, hc⟩ := hcut.2 hi0
      injection he with he
      subst he
      exact hc j v hj
    | none =>
      have hi0 : i = 0 := by
        rcases Nat.eq_zero_or_pos i with h0 | h0
        · exact h0
        · obtain ⟨_, he, _⟩ := hcut.2 h0
          cases he
      subst hi0
      simp [Builtin.firstCells]
  have AP := fun ty => Lib.run_append_grow_zeros (P := P) w t tn ty e ii z .i64 kn E.slice htn hii hz A i cap (xs.take (i * ii.size)) hold (n + 1 - i) (by omega) hps (by rw [hin]; omega) (by rw [hin]; omega)
    (by have : (n + 1 - i) * ii.bytes ≤ (n + 1) * ii.bytes := Nat.mul_le_mul_right _ (by omega); omega) (by rw [hin]; exact growslice_fits (by omega) hbytes)
  simp only [hin] at AP
  generalize hcc : grownCap w (n + 1) cap e = c' at *
  generalize hD : ((xs.take (i * ii.size)).toArray ++ Builtin.zeroCells z.cells (n + 1 - i) ++ Builtin.zeroCells z.cells (c' - (n + 1))) = D at *
  have hDs : D.size = c' * ii.size := by
    rw [← hD]
    simp only [Array.size_append, List.size_toArray, size_zeroCells, hzs, List.length_take, hxl]
    have : (c' - (n + 1)) * ii.size = c' * ii.size - (n + 1) * ii.size := Nat.sub_mul ..
    have : (n + 1) * ii.size ≤ c' * ii.size := Nat.mul_le_mul_right _ hg
    omega
  have hDt : D.toList.take (i * ii.size) = xs.take (i * ii.size) := by
    rw [← hD]
    simp only [Array.toList_append, List.append_assoc]
    exact List.take_left' (by rw [List.length_take]; omega)
  have m7 : (n + 1) * ii.size ≤ c' * ii.size := Nat.mul_le_mul_right _ hg
  have K1 : Keep Nothing w (w.drew.alloc (.cells D e)) := (Keep.same Nothing w).drew.alloc _
  have B1 : Blk (w.drew.alloc (.cells D e)) w.heap.size e D := Blk.fresh w.drew e D
  have V1 := hv.keep K1 (fun h => h)
  have hs1 : Src (w.drew.alloc (.cells D e)) (some ⟨vb, 0, none⟩) ii.size 1 news.toList := by
    refine ⟨by simp [hns], fun _ => ⟨_, rfl, fun j u hu => ?_⟩⟩
    rw [addAt, V1.cell, Nat.zero_add]
    simpa using hu
  have C1 := fun ty => run_copyN _ E ty w.heap.size (i * ii.size) (n + 1 - i) (c' - i) D B1 _ 1 1 _ hs1 1 (by simp only [Nat.min_def]; split <;> omega) (by rw [hDs]; omega) (fun u hu => h1n u (List.mem_of_mem_take hu))
  have e3 : List.take (1 * ii.size) news.toList = news.toList := List.take_of_length_le (by simp [hns])
  simp only [e3, hDt] at C1
  generalize hD1 : (xs.take (i * ii.size) ++ news.toList ++ D.toList.drop (i * ii.size + 1 * ii.size)).toArray = D1 at *
  have hD1s : D1.size = c' * ii.size := by
    rw [← hD1]
    simp only [List.size_toArray, List.length_append, List.length_take, List.length_drop, Array.length_toList, hns, hDs, hxl]
    omega
  have hD1t : D1.toList.take ((i + 1) * ii.size) = xs.take (i * ii.size) ++ news.toList := by
    rw [← hD1]
    exact List.take_left' (by have hnl : news.toList.length = ii.size := by simp [hns]
                              rw [List.length_append, List.length_take, hnl, hxl]; omega)
  have K2 := K1.setRow (g := w.heap.size) (.inr (Nat.le_refl _)) D1
  have B2 := (B1.setRow D1).drew
  have R2 := ((hrow.keep K2 (fun _ _ h => h)).drew.drop_ (k := i) (by omega)).src
  have C2 := fun ty => run_copyN _ E ty w.heap.size ((i + 1) * ii.size) (n + 1 - (i + 1)) (c' - (i + 1)) D1 B2 _ (n - i) (cap - i) _ R2 (n - i) (by simp only [Nat.min_def]; split <;> omega) (by rw [hD1s]; omega) (fun u hu => h1x u (List.mem_of_mem_drop (List.mem_of_mem_take hu)))
  have e4 : (xs.drop (i * ii.size)).take ((n - i) * ii.size) = xs.drop (i * ii.size) := List.take_of_length_le (by rw [List.length_drop]; omega)
  simp only [e4, hD1t] at C2
  refine ⟨_, _, _, c', hg, hcm, AP, C1, C2, ⟨?_, .inr ⟨w.heap.size, 0, c', _, rfl, B2.setRow _, hg, hcm, ?_, ?_⟩⟩, K2.drew.setRow (.inr (Nat.le_refl _)) _⟩
  · simp only [List.length_append, List.length_take, List.length_drop, Array.length_toList, hns, hxl]
    omega
  · simp only [List.size_toArray, List.length_append, List.length_take, List.length_drop, Array.length_toList, hns, hxl, hD1s]
    omega
  · rw [List.drop_zero]
    exact List.take_left' (by simp only [List.length_append, List.length_take, List.length_drop, Array.length_toList, hns, hxl]; omega)
end
section
variable {P : Program} (w : World)
theorem zero_valueX {t e : TypeId} {size bytes : Nat} {z : Value} (E : Elem P t e size bytes z) : (zeroValue e).run P w = .ok z w := by
  obtain ⟨i, hi, hz, _, _⟩ := info_parts E.info
  simp [zeroValue, typeInfo, hi, hz]
theorem run_clearX {t e : TypeId} {size bytes : Nat} {z : Value} (E : Elem P t e size bytes z) (ty : TypeId) {g o n c : Nat} {cur : Array Value} (hb : Blk w g e cur) (hn : 0 < n) (hfit : o + n * size ≤ cur.size) (h1 : ∀ u ∈ z.cells, u.oneCell' = true) :
    (Builtin.clear_ #[t] ty #[.slice (some ⟨g, o, none⟩) n c]).run P w = .ok (.tuple #[]) (w.setRow g (cur.toList.take o ++ (Builtin.zeroCells z.cells n).toList ++ cur.toList.drop (o + n * size)).toArray) := by
  have hv := zero_valueX (w := w) E
  have hzs : (Builtin.zeroCells z.cells n).toList.length = n * size := by simp [size_zeroCells, E.zero]
  have hone : ∀ v ∈ (Builtin.zeroCells z.cells n).toList, v.oneCell' = true := by
    intro v hv
    simp only [Builtin.zeroCells, Array.toList_map, List.mem_map] at hv
    obtain ⟨i, hi, rfl⟩ := hv
    have hp := E.pos
    have hz := E.zero
    have hlt : i % z.cells.size < z.cells.size := Nat.mod_lt _ (by omega)
    first
      | (rw [getElem!_pos z.cells (i % z.cells.size) hlt]; exact h1 _ (Array.getElem_mem hlt))
      | (rw [Array.getD_eq_getD_getElem?, Array.getElem?_eq_getElem hlt]; exact h1 _ (Array.getElem_mem hlt))
  have hst := run_storeCells_at P g o e (Builtin.zeroCells z.cells n).toList 0 cur w hb (by rw [hzs]; omega) hone
  simp only [Nat.add_zero, hzs] at hst
  obtain ⟨m, rfl⟩ : ∃ m, n = m + 1 := ⟨n - 1, by omega⟩
  simp [Builtin.clear_, run_underlying E.slice, hv, hst]
/-- slices.Delete of one element, in place: the append, the clear. -/
theorem del_place {t e : TypeId} {size bytes : Nat} {z : Value} (E : Elem P t e size bytes z) {g o n cap i : Nat} {cur : Array Value} (hb : Blk w g e cur) (hnc : n ≤ cap) (hcm : cap ≤ maxLen) (hfit : o + cap * size ≤ cur.size)
    {xs : List Value} (hx : (cur.toList.drop o).take (n * size) = xs) (hi : i < n) (h1x : ∀ u ∈ xs, u.oneCell' = true) (h1z : ∀ u ∈ z.cells, u.oneCell' = true) :
    ∃ w1 w2, (∀ ty, (Builtin.append_ #[t, t] ty #[.slice (some ⟨g, o, none⟩) i cap, .slice (if cap = i + 1 then some ⟨g, o, none⟩ else some ⟨g, o + (i + 1) * size, none⟩) (n - (i + 1)) (cap - (i + 1))]).run P w = .ok (.slice (some ⟨g, o, none⟩) (n - 1) cap) w1) ∧
      (∀ ty, (Builtin.clear_ #[t] ty #[.slice (some ⟨g, o + (n - 1) * size, none⟩) 1 (cap - (n - 1))]).run P w1 = .ok (.tuple #[]) w2) ∧
      Row w2 e size (.slice (some ⟨g, o, none⟩) (n - 1) cap) (n - 1) (xs.take (i * size) ++ xs.drop ((i + 1) * size)) ∧ Keep (fun k => k = g) w w2 := by
  obtain ⟨ii, hii, hz, hsize, hby⟩ := info_parts E.info
  have hps := E.pos
  subst hsize
  have m1 : n * ii.size ≤ cap * ii.size := Nat.mul_le_mul_right _ hnc
  have m2 : (i + 1) * ii.size ≤ n * ii.size := Nat.mul_le_mul_right _ hi
  have m4 : (i + 1) * ii.size = i * ii.size + ii.size := by rw [Nat.add_mul, Nat.one_mul]
  have m5 : (n - (i + 1)) * ii.size = n * ii.size - (i + 1) * ii.size := Nat.sub_mul ..
  have m6 : (n - 1) * ii.size = n * ii.size - ii.size := by rw [Nat.sub_mul, Nat.one_mul]
  have hcl : cur.toList.length = cur.size := by simp
  have hxl : xs.length = n * ii.size := by rw [← hx, List.length_take, List.length_drop]; omega
  have hnl : (xs.drop ((i + 1) * ii.size)).length = (n - (i + 1)) * ii.size := by rw [List.length_drop, hxl]; omega
  have hC : cur.toList.take (o + i * ii.size) = cur.toList.take o ++ xs.take (i * ii.size) := by
    rw [List.take_add, ← hx, List.take_take, Nat.min_eq_left (by omega)]
  have hrow : Row w e ii.size (.slice (some ⟨g, o, none⟩) n cap) n xs := ⟨hxl, .inr ⟨g, o, cap, cur, rfl, hb, hnc, hcm, hfit, hx⟩⟩
  obtain ⟨cur1, hcur1, hs1, hL1, hAP⟩ : ∃ cur1 : Array Value, Blk (w.setRow g cur1) g e cur1 ∧ cur1.size = cur.size ∧ (cur1.toList.drop o).take ((n - 1) * ii.size) = xs.take (i * ii.size) ++ xs.drop ((i + 1) * ii.size) ∧
      (∀ ty, (Builtin.append_ #[t, t] ty #[.slice (some ⟨g, o, none⟩) i cap, .slice (if cap = i + 1 then some ⟨g, o, none⟩ else some ⟨g, o + (i + 1) * ii.size, none⟩) (n - (i + 1)) (cap - (i + 1))]).run P w = .ok (.slice (some ⟨g, o, none⟩) (n - 1) cap) (w.setRow g cur1)) := by
    by_cases hm0 : n - (i + 1) = 0
    · have hni : n = i + 1 := by omega
      subst hni
      have hself := setRow_self w g cur e (0, 0) hb
      refine ⟨cur, hb.setRow _, rfl, ?_, fun ty => ?_⟩
      · have e1 : xs.drop ((i + 1) * ii.size) = [] := List.drop_eq_nil_of_le (by omega)
        rw [e1, List.append_nil, ← hx, List.take_take, Nat.min_eq_left (by omega), Nat.add_sub_cancel]
      · rw [hself]
        have hic : i ≤ cap := by omega
        by_cases hcc : cap = i + 1
        · simp [hcc, Builtin.append_, run_underlying E.slice, sizeOf, typeInfo, hii, Builtin.lenOf, Builtin.firstCells, loadCells, loadCellsFrom, storeCells]
        · simp [hcc, hic, Builtin.append_, run_underlying E.slice, sizeOf, typeInfo, hii, Builtin.lenOf, Builtin.firstCells, loadCells, loadCellsFrom, storeCells]
    · have hcc : ¬ (cap = i + 1) := by omega
      have hsrc : ∀ j u, (xs.drop ((i + 1) * ii.size))[j]? = some u → w.cell? ((⟨g, o + (i + 1) * ii.size, none⟩ : Addr).add j) = some u := by
        intro j u hu
        have hj := (List.getElem?_eq_some_iff.1 hu).1
        rw [addAt, hb.cell, ← hu, List.getElem?_drop, ← hx, List.getElem?_take, if_pos (by omega), List.getElem?_drop]
        rw [Array.getElem?_toList, Nat.add_assoc]
      have hf := run_firstCells_some (P := P) w ii.size (n - (i + 1)) ⟨g, o + (i + 1) * ii.size, none⟩ (n - (i + 1)) (cap - (i + 1)) (xs.drop ((i + 1) * ii.size)) hnl hsrc
      have hst := run_storeCells_at P g (o + i * ii.size) e (xs.drop ((i + 1) * ii.size)) 0 cur w hb (by rw [hnl]; omega) (fun v hv => h1x v (List.mem_of_mem_drop hv))
      simp only [Nat.add_zero] at hst
      have hroom : i + (n - (i + 1)) ≤ cap := by omega
      have hin : i + (n - (i + 1)) = n - 1 := by omega
      refine ⟨(cur.toList.take (o + i * ii.size) ++ xs.drop ((i + 1) * ii.size) ++ cur.toList.drop (o + i * ii.size + (xs.drop ((i + 1) * ii.size)).length)).toArray, hb.setRow _, ?_, ?_, fun ty => by
        simp [hcc, Builtin.append_, run_underlying E.slice, sizeOf, typeInfo, hii, Builtin.lenOf, hroom, hf, addAt, hst, hin, show n ≤ cap + 1 by omega]⟩
      · simp only [List.size_toArray, List.length_append, List.length_take, List.length_drop, hcl, hxl]
        omega
      · show List.take _ (List.drop o (_ ++ _ ++ _)) = _
        rw [hC, List.append_assoc, List.append_assoc, List.drop_left' (by rw [List.length_take]; omega), ← List.append_assoc]
        exact List.take_left' (by rw [List.length_append, hnl, List.length_take]; omega)
  have C2 := fun ty => run_clearX (w.setRow g cur1) E ty (o := o + (n - 1) * ii.size) (n := 1) (c := cap - (n - 1)) hcur1 (by omega) (by omega) h1z
  refine ⟨_, _, hAP, C2, ⟨?_, .inr ⟨g, o, cap, _, rfl, hcur1.setRow _, by omega, hcm, ?_, ?_⟩⟩, ((Keep.same (fun k => k = g) w).setRow (g := g) (.inl rfl) _).setRow (.inl rfl) _⟩
  · rw [List.length_append, hnl, List.length_take]; omega
  · have hzl : (Builtin.zeroCells z.cells 1).toList.length = 1 * ii.size := by simp [size_zeroCells, E.zero]
    simp only [List.size_toArray, List.length_append, List.length_take, List.length_drop, Array.length_toList, hs1, hzl] at *
    omega
  · rw [← hL1]
    have e1 : cur1.toList.take (o + (n - 1) * ii.size) = cur1.toList.take o ++ (cur1.toList.drop o).take ((n - 1) * ii.size) := List.take_add ..
    show List.take _ (List.drop o (_ ++ _ ++ _)) = _
    rw [e1, List.append_assoc, List.append_assoc, List.drop_left' (by rw [List.length_take, Array.length_toList]; omega)]
    rw [List.take_left' (by rw [List.length_take, List.length_drop, Array.length_toList]; omega)]
end
/-- A row that a call made of another one: it reads as 'out', in the old block or in a fresh one. -/
def Put1 (e : TypeId) (size : Nat) (w : World) (v : Value) (n : Nat) (out : List Value) (en : Ending) (w' : World) : Prop :=
  ∃ v', en = .returned v' ∧ Row w' e size v' n out ∧ w.grownBy w' v.ownBlock ∧ (v'.ownBlock = v.ownBlock ∨ ∃ g, v'.ownBlock = some g ∧ w.heap.size ≤ g)
end Go.Proofs.Ytmohpjkbhpgidaa.U
