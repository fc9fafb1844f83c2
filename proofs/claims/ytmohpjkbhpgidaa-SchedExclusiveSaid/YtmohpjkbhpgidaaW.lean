/-
  Arguments opened with what they weigh: slices within structs, structs within slices, structs within structs.
-/
import Derived.Test.YtmohpjkbhpgidaaR
namespace Go.Proofs.Ytmohpjkbhpgidaa.R
open Go.ChangeShapes Go.WideShapes Go.ChangeAt Go.RowKit Go.Joins
set_option linter.unusedVariables false
set_option maxRecDepth 100000

theorem wAll_mem {H : Type} {P : Program} {e : TypeId} {d : DataW H} : ∀ {l : List (DataW H)}, d ∈ l → ∀ q ∈ d.weights P e, q ∈ DataW.weightsAll P e l
  | c :: l, h => fun q hq => by
    rw [DataW.weightsAll]
    rcases List.mem_cons.1 h with rfl | h
    · exact List.mem_append_left _ hq
    · exact List.mem_append_right _ (wAll_mem h q hq)
/-- All that a piece of data weighs is within reach. -/
def Light {H : Type} (t : TypeId) (d : DataW H) : Prop := ∀ q ∈ d.weights Try.prog t, q ≤ reachBytes
theorem light_of {H : Type} {ts : List TypeId} {ds : List (DataW H)} (h : (DataW.weightsEach Try.prog ts ds).all (· ≤ reachBytes) = true) {j : Nat} {t : TypeId} {d : DataW H} (ht : ts[j]? = some t) (hd : ds[j]? = some d) : Light t d :=
  fun q hq => of_decide_eq_true (List.all_eq_true.1 h q (DataW.weights_mem_each ht hd q hq))
/-- One cell that is a slice: its elements. -/
theorem open_row {H : Type} {enc : TypeId × Value → H} {W : World} {b0 n0 : Nat} {v : Value} {x : DataW H × List MemPlace} {t e s : Nat} (ht : Try.prog.underlying t = some (.slice e)) (hC : Try.prog.cellsOf e = s)
    (hf : DataW.trod enc Try.prog W b0 (fun _ => true) true n0 t [v] = some x) (hlt : ∀ p ∈ x.2, p.block < W.heap.size) (hw : Light t x.1) (hs : 0 < s) :
    ∃ A len cap, v = .slice A len cap ∧ len ≤ cap ∧ cap ≤ maxLen ∧ cap * Try.prog.bytesOf e ≤ reachBytes ∧ (∀ i, i < len → ∃ ad cs n y, A = some ad ∧ ad.block < W.heap.size ∧ cs.length = s ∧ (∀ j, j < s → W.cell? (ad.add (i * s + j)) = cs[j]?) ∧
      DataW.trod enc Try.prog W b0 (fun _ => true) true n e cs = some y ∧ (∀ p ∈ y.2, p.block < W.heap.size) ∧ Light e y.1) := by
  rcases Go.Deep.open_slice ht hf with ⟨hcs, hx⟩ | ⟨a, len', cap', m, n, D, Pl, hcs, hb, hl, hm, hmm, hx, hi⟩
  · injection hcs with hcs _
    exact ⟨_, _, _, hcs, Nat.le_refl _, Nat.zero_le _, by omega, fun i hi => absurd hi (by omega)⟩
  · injection hcs with hcs _
    simp only [if_true] at hmm
    subst hmm
    subst hx
    refine ⟨_, _, _, hcs, hl, hm, ?_, fun i hil => ?_⟩
    · have := hw (m * Try.prog.bytesOf e) (by
        simp only [DataW.weights, ht, List.mem_cons]
        left
        congr 1
        simp
        omega)
      exact this
    · obtain ⟨cs', hc, ht'⟩ := hi i (by omega)
      rw [hC] at hc
      obtain ⟨_, hcl, hat⟩ := World.cells?_some hc
      have hblk : a.block < W.heap.size := by
        have h0 := hat 0 hs
        have hv0 : cs'[0]? = some (cs'[0]'(by omega)) := List.getElem?_eq_getElem (by omega)
        rw [hv0] at h0
        have := World.block_lt_of_cell? W _ h0
        simpa [U.addBlock] using this
      refine ⟨a, cs', n, _, rfl, hblk, hcl, fun j hj => ?_, ht', fun x hx => hlt x ?_, fun q hq => hw q ?_⟩
      · rw [← U.addAdd]; exact hat j hj
      · exact List.mem_append_right _ (List.mem_flatMap.2 ⟨i, List.mem_range.2 (by omega), hx⟩)
      · simp only [DataW.weights, ht, List.mem_cons, List.mem_append]
        exact .inr (.inl (wAll_mem (List.mem_map.2 ⟨i, List.mem_range.2 (by omega), rfl⟩) q hq))
/-- An argument that is a slice. -/
theorem open_arg {H : Type} {enc : TypeId × Value → H} {W : World} {base b0 : Nat} {v : Value} {d : DataW H} {p : List MemPlace} {t e s : Nat} (ht : Try.prog.underlying t = some (.slice e)) (hC : Try.prog.cellsOf e = s)
    (hv : Value.okWide Try.prog W .any base t v) (h : DataW.Trod enc Try.prog W b0 (fun _ => true) true t v d p) (hlt : ∀ x ∈ p, x.block < W.heap.size) (hw : Light t d) (hs : 0 < s) :
    ∃ A len cap, v = .slice A len cap ∧ len ≤ cap ∧ cap ≤ maxLen ∧ cap * Try.prog.bytesOf e ≤ reachBytes ∧ (∀ i, i < len → ∃ ad cs n y, A = some ad ∧ ad.block < W.heap.size ∧ cs.length = s ∧ (∀ j, j < s → W.cell? (ad.add (i * s + j)) = cs[j]?) ∧
      DataW.trod enc Try.prog W b0 (fun _ => true) true n e cs = some y ∧ (∀ p ∈ y.2, p.block < W.heap.size) ∧ Light e y.1) := by
  obtain ⟨A, len, cap, rfl⟩ := okWide_slice ht hv
  obtain ⟨fuel, hf⟩ := h
  exact open_row (x := (d, p)) ht hC hf hlt hw hs
/-- The parts of a struct that is read. -/
theorem parts {H : Type} {enc : TypeId × Value → H} {W : World} {b0 n t : Nat} {cs : List Value} {x : DataW H × List MemPlace} {fs : Array Field} (hs : Try.prog.underlying t = some (.struct fs))
    (ht : DataW.trod enc Try.prog W b0 (fun _ => true) true n t cs = some x) (hlt : ∀ p ∈ x.2, p.block < W.heap.size) (hw : Light t x.1) : cs.length = Try.prog.cellsOf t ∧ ∃ m, ∀ (i ty off : Nat), (fs[i]?).map (fun f => (f.type, f.offset)) = some (ty, off) →
      ∃ y, DataW.trod enc Try.prog W b0 (fun _ => true) true m ty ((cs.drop off).take (Try.prog.cellsOf ty)) = some y ∧ (∀ p ∈ y.2, p.block < W.heap.size) ∧ Light ty y.1 := by
  obtain ⟨xs, m, _, rfl, hcl, hxl, hf⟩ := DataW.trod_struct hs ht
  refine ⟨hcl, m, fun i ty off hi => ?_⟩
  cases hfi : fs[i]? with
  | none => rw [hfi] at hi; cases hi
  | some f =>
    rw [hfi] at hi
    simp only [Option.map_some, Option.some.injEq, Prod.mk.injEq] at hi
    obtain ⟨rfl, rfl⟩ := hi
    have k := hf i f hfi
    have hil : i < xs.length := by rw [hxl]; exact (Array.getElem?_eq_some_iff.1 hfi).1
    rw [List.getElem?_eq_getElem hil] at k
    refine ⟨_, k, fun p hp => hlt p (List.mem_flatMap.2 ⟨_, List.getElem_mem hil, hp⟩), fun q hq => hw q ?_⟩
    simp only [DataW.weights, hs]
    refine DataW.weights_mem_each (j := i) (t := f.type) (d := (xs[i]).1) ?_ ?_ q hq
    · rw [List.getElem?_map, Array.getElem?_toList, hfi]; rfl
    · rw [List.getElem?_map, List.getElem?_eq_getElem hil]; rfl
/-- A part of one cell. -/
theorem part1 {H : Type} {enc : TypeId × Value → H} {W : World} {b0 m ty off : Nat} {cs : List Value} {y : DataW H × List MemPlace} (h1 : Try.prog.cellsOf ty = 1) (ho : off < cs.length)
    (k : DataW.trod enc Try.prog W b0 (fun _ => true) true m ty ((cs.drop off).take (Try.prog.cellsOf ty)) = some y) : ∃ v, cs[off]? = some v ∧ DataW.trod enc Try.prog W b0 (fun _ => true) true m ty [v] = some y := by
  rw [h1, List.drop_eq_getElem_cons ho, List.take_succ_cons, List.take_zero] at k
  exact ⟨_, List.getElem?_eq_getElem ho, k⟩
theorem wfI {n : Int} (h : (Lit.int .i64 n).wf = true) : -9223372036854775808 ≤ n ∧ n ≤ 9223372036854775807 := by
  simp only [Lit.wf, Bool.and_eq_true, decide_eq_true_eq] at h
  have h1 : IntKind.i64.min = -9223372036854775808 := by rfl
  have h2 : IntKind.i64.max = 9223372036854775807 := by rfl
  rw [h1, h2] at h
  exact h
theorem wfU {n : Int} (h : (Lit.int .u64 n).wf = true) : ∃ m : Nat, n = m ∧ m < 18446744073709551616 := by
  simp only [Lit.wf, Bool.and_eq_true, decide_eq_true_eq] at h
  have h1 : IntKind.u64.min = 0 := by rfl
  have h2 : IntKind.u64.max = 18446744073709551615 := by rfl
  rw [h1, h2] at h
  exact ⟨n.toNat, by omega, by omega⟩
/-- A cell that is a number. -/
theorem cell_int {H : Type} {enc : TypeId × Value → H} {W : World} {b0 m ty : Nat} {v : Value} {y : DataW H × List MemPlace} (hu : Try.prog.underlying ty = some (.int .i64)) (k : DataW.trod enc Try.prog W b0 (fun _ => true) true m ty [v] = some y) :
    ∃ n : Int, v = .int .i64 n ∧ -9223372036854775808 ≤ n ∧ n ≤ 9223372036854775807 := by
  obtain ⟨n, l, _, w⟩ := DataW.trod_int hu k
  injection l with l _
  exact ⟨n, l, wfI w⟩
theorem cell_u64 {H : Type} {enc : TypeId × Value → H} {W : World} {b0 m ty : Nat} {v : Value} {y : DataW H × List MemPlace} (hu : Try.prog.underlying ty = some (.int .u64)) (k : DataW.trod enc Try.prog W b0 (fun _ => true) true m ty [v] = some y) :
    ∃ n : Nat, v = .int .u64 n ∧ n < 18446744073709551616 := by
  obtain ⟨n, l, _, w⟩ := DataW.trod_int hu k
  injection l with l _
  obtain ⟨u, rfl, h⟩ := wfU w
  exact ⟨u, l, h⟩
theorem cell_bool {H : Type} {enc : TypeId × Value → H} {W : World} {b0 m ty : Nat} {v : Value} {y : DataW H × List MemPlace} (hu : Try.prog.underlying ty = some .bool) (k : DataW.trod enc Try.prog W b0 (fun _ => true) true m ty [v] = some y) :
    ∃ b : Bool, v = .bool b := by
  obtain ⟨n, l, _⟩ := DataW.trod_bool hu k
  injection l with l _
  exact ⟨n, l⟩
theorem cell_string {H : Type} {enc : TypeId × Value → H} {W : World} {b0 m ty : Nat} {v : Value} {y : DataW H × List MemPlace} (hu : Try.prog.underlying ty = some .string) (k : DataW.trod enc Try.prog W b0 (fun _ => true) true m ty [v] = some y) (hw : Light ty y.1) :
    ∃ s : ByteArray, v = .string s ∧ s.size ≤ 140737488351232 := by
  obtain ⟨s, l, hy, _⟩ := DataW.trod_string hu k
  injection l with l _
  refine ⟨s, l, ?_⟩
  have h0 : y.1 = .lit (.string s.data.toList) := by rw [hy]
  have := hw s.data.toList.length (by rw [h0]; simp [DataW.weights])
  unfold reachBytes at this
  simpa using this
theorem list3 {α : Type} {a b c : α} {cs : List α} (hl : cs.length = 3) (h0 : cs[0]? = some a) (h1 : cs[1]? = some b) (h2 : cs[2]? = some c) : cs = [a, b, c] := by
  match cs, hl with
  | [x, y, z], _ => simp at h0 h1 h2; rw [h0, h1, h2]
theorem list4 {α : Type} {a b c d : α} {cs : List α} (hl : cs.length = 4) (h0 : cs[0]? = some a) (h1 : cs[1]? = some b) (h2 : cs[2]? = some c) (h3 : cs[3]? = some d) : cs = [a, b, c, d] := by
  match cs, hl with
  | [x, y, z, u], _ => simp at h0 h1 h2 h3; rw [h0, h1, h2, h3]
theorem list5 {α : Type} {a b c d e : α} {cs : List α} (hl : cs.length = 5) (h0 : cs[0]? = some a) (h1 : cs[1]? = some b) (h2 : cs[2]? = some c) (h3 : cs[3]? = some d) (h4 : cs[4]? = some e) : cs = [a, b, c, d, e] := by
  match cs, hl with
  | [x, y, z, u, v], _ => simp at h0 h1 h2 h3 h4; rw [h0, h1, h2, h3, h4]
end Go.Proofs.Ytmohpjkbhpgidaa.R
