/-
  ClientOnce: for all deeds, each call ends at most once, and none begins while one is open.
-/
import Derived.Test.YthlfcinjmljbjaaJ1
import Derived.Test.YthlfcinjmljbjaaK1
import Derived.Test.YthlfcinjmljbjaaI4
namespace Go.Proofs.Ythlfcinjmljbjaa.A
open Go.RowKit Go.Proofs.Ythlfcinjmljbjaa.U
set_option linter.unusedVariables false
set_option linter.unusedSimpArgs false
set_option maxRecDepth 100000
set_option maxHeartbeats 1600000

def Ent.cs (x : Ent) : Array Value := #[.int .i64 x.a, .int .i64 x.b, .int .i64 x.c.k, .int .i64 x.c.s, .int .i64 x.c.q, .string x.c.nm, .int .i64 x.c.n]
theorem cells54 : Try.prog.cellsOf 85 = 7 := by kernel_rfl
theorem wf_i64 {n : Int} (h : (Lit.int .i64 n).wf = true) : I64 n := by
  simp only [Lit.wf, Bool.and_eq_true, decide_eq_true_eq] at h
  have h1 : IntKind.i64.min = -9223372036854775808 := by rfl
  have h2 : IntKind.i64.max = 9223372036854775807 := by rfl
  rw [h1, h2] at h
  exact h
/-- The fields of a struct that is read, each of any size. -/
theorem struct_parts {H : Type} {enc : TypeId × Value → H} {W : World} {b0 n t : Nat} {sp : Nat → Bool} {held : Bool} {cs : List Value} {x : DataW H × List MemPlace} {fs : Array Field} (hs : Try.prog.underlying t = some (.struct fs))
    (ht : DataW.trod enc Try.prog W b0 sp held n t cs = some x) : cs.length = Try.prog.cellsOf t ∧ ∃ m, ∀ (i ty off : Nat), (fs[i]?).map (fun f => (f.type, f.offset)) = some (ty, off) →
      ∃ y, DataW.trod enc Try.prog W b0 sp held m ty ((cs.drop off).take (Try.prog.cellsOf ty)) = some y ∧ ∀ p ∈ y.2, p ∈ x.2 := by
  obtain ⟨xs, m, _, rfl, hcl, hxl, hf⟩ := DataW.trod_struct hs ht
  refine ⟨hcl, m, fun i ty off hi => ?_⟩
  cases hfi : fs[i]? with
  | none => rw [hfi] at hi; cases hi
  | some f =>
    rw [hfi] at hi
    simp only [Option.map_some, Option.some.injEq, Prod.mk.injEq] at hi
    obtain ⟨rfl, rfl⟩ := hi
    have k := hf i f hfi
    have hil : i < xs.length := by rw [hxl]; exact (Array.getElem?_eq_some_iff.1 hfi).1
    rw [List.getElem?_eq_getElem hil] at k
    exact ⟨_, k, fun p hp => List.mem_flatMap.2 ⟨_, List.getElem_mem hil, hp⟩⟩
theorem cmd_cellsM {H : Type} {enc : TypeId × Value → H} {W : World} {b0 n : Nat} {cs : List Value} {y : DataW H × List MemPlace} (ht : DataW.trod enc Try.prog W b0 (fun _ => true) true n 31 cs = some y) :
    ∃ c : Cmd, cs = c.cs.toList ∧ In64 c ∧ c.nm.size ≤ maxLen := by
  obtain ⟨hcl, m, hf⟩ := R.struct_fields Try.underlying31 ht
  rw [cells31] at hcl
  obtain ⟨v0, y0, g0, k0, _⟩ := hf 0 3 0 rfl cells3' (by omega)
  obtain ⟨v1, y1, g1, k1, _⟩ := hf 1 3 1 rfl cells3' (by omega)
  obtain ⟨v2, y2, g2, k2, _⟩ := hf 2 3 2 rfl cells3' (by omega)
  obtain ⟨v3, y3, g3, k3, _⟩ := hf 3 9 3 rfl cells9' (by omega)
  obtain ⟨v4, y4, g4, k4, _⟩ := hf 4 3 4 rfl cells3' (by omega)
  obtain ⟨n0, l0, _, w0⟩ := DataW.trod_int Try.underlying3 k0
  obtain ⟨n1, l1, _, w1⟩ := DataW.trod_int Try.underlying3 k1
  obtain ⟨n2, l2, _, w2⟩ := DataW.trod_int Try.underlying3 k2
  obtain ⟨s, l3, _, hm⟩ := DataW.trod_string Try.underlying9 k3
  obtain ⟨n4, l4, _, w4⟩ := DataW.trod_int Try.underlying3 k4
  injection l0 with l0 _
  injection l1 with l1 _
  injection l2 with l2 _
  injection l3 with l3 _
  injection l4 with l4 _
  subst l0 l1 l2 l3 l4
  refine ⟨⟨n0, n1, n2, s, n4⟩, List.ext_getElem? fun i => ?_, ⟨wf_i64 w0, wf_i64 w1, wf_i64 w2, wf_i64 w4⟩, hm⟩
  match i with
  | 0 => exact g0
  | 1 => exact g1
  | 2 => exact g2
  | 3 => exact g3
  | 4 => exact g4
  | i + 5 => rw [List.getElem?_eq_none (by omega), List.getElem?_eq_none (by simp [Cmd.cs])]
theorem ent_cells {H : Type} {enc : TypeId × Value → H} {W : World} {b0 n : Nat} {cs : List Value} {y : DataW H × List MemPlace} (ht : DataW.trod enc Try.prog W b0 (fun _ => true) true n 85 cs = some y) :
    ∃ x : Ent, cs = x.cs.toList ∧ EIn64 x ∧ x.c.nm.size ≤ maxLen := by
  obtain ⟨hcl, m, hf⟩ := R.struct_fields Try.underlying85 ht
  obtain ⟨_, m', hp⟩ := struct_parts Try.underlying85 ht
  rw [cells54] at hcl
  obtain ⟨v0, y0, g0, k0, _⟩ := hf 0 3 0 rfl cells3' (by omega)
  obtain ⟨v1, y1, g1, k1, _⟩ := hf 1 3 1 rfl cells3' (by omega)
  obtain ⟨y2, k2, _⟩ := hp 2 31 2 rfl
  rw [cells31] at k2
  obtain ⟨n0, l0, _, w0⟩ := DataW.trod_int Try.underlying3 k0
  obtain ⟨n1, l1, _, w1⟩ := DataW.trod_int Try.underlying3 k1
  obtain ⟨c, hc, c64, hn⟩ := cmd_cellsM k2
  injection l0 with l0 _
  injection l1 with l1 _
  subst l0 l1
  refine ⟨⟨n0, n1, c⟩, ?_, ⟨wf_i64 w0, wf_i64 w1, c64⟩, hn⟩
  have e : cs = cs.take 2 ++ (cs.drop 2).take 5 := by
    rw [List.take_of_length_le (l := cs.drop 2) (by rw [List.length_drop]; omega), List.take_append_drop]
  rw [hc] at e
  rw [e]
  have e2 : cs.take 2 = [.int .i64 n0, .int .i64 n1] := by
    match cs, hcl, g0, g1 with
    | a :: b :: r, _, g0, g1 =>
      simp at g0 g1
      subst g0 g1
      rfl
  rw [e2]
  rfl
theorem cells79 : Try.prog.cellsOf 40 = 20 := by kernel_rfl
theorem cells75 : Try.prog.cellsOf 35 = 1 := by kernel_rfl
theorem cells77 : Try.prog.cellsOf 38 = 5 := by kernel_rfl
theorem cells47 : Try.prog.cellsOf 27 = 1 := by kernel_rfl
theorem cells25 : Try.prog.cellsOf 36 = 1 := by kernel_rfl
theorem src_argsM {w : World} {B : Nat} {A : Option Addr} {L : List Ent} (h : R.Args w B A L.length 7 Ent.cl L) : U.Src w A 7 L.length (ents L) := by
  refine ⟨ents_len L, fun h0 => ?_⟩
  obtain ⟨ad, e, _, _⟩ := h.2 0 _ (List.getElem?_eq_getElem h0)
  refine ⟨ad, e, fun j u hu => ?_⟩
  have hj : j < L.length * 7 := by rw [← ents_len]; exact (List.getElem?_eq_some_iff.1 hu).1
  have hi : j / 7 < L.length := by omega
  have hx : L[j / 7]? = some (L[j / 7]'hi) := List.getElem?_eq_getElem hi
  have hr : j % 7 < 7 := Nat.mod_lt _ (by omega)
  have hg := ents_get hx (j % 7) hr
  rw [Nat.div_add_mod' j 7, hu] at hg
  obtain ⟨ad', e', _, hc⟩ := h.2 (j / 7) _ hx
  rw [e] at e'
  injection e' with e'
  subst e'
  have := hc (j % 7) u hg.symm
  rwa [Nat.div_add_mod' j 7] at this
theorem msg_cells {H : Type} {enc : TypeId × Value → H} {W : World} {b0 n : Nat} {cs : List Value} {y : DataW H × List MemPlace} (ht : DataW.trod enc Try.prog W b0 (fun _ => true) true n 40 cs = some y) (hlt : ∀ p ∈ y.2, p.block < W.heap.size) (hw : R.Light 40 y.1) :
    ∃ (m : Msg) (A : Option Addr) (c : Nat), cs = (mcs m A c).toList ∧ MIn m ∧ m.es.length ≤ 4611686018427387904 ∧ U.Src W A 7 m.es.length (ents m.es) := by
  obtain ⟨hcl, m, hf⟩ := R.parts Try.underlying40 ht hlt hw
  rw [cells79] at hcl
  obtain ⟨y0, k0, _⟩ := hf 0 3 0 rfl
  obtain ⟨y1, k1, _⟩ := hf 1 3 1 rfl
  obtain ⟨y2, k2, _⟩ := hf 2 3 2 rfl
  obtain ⟨y3, k3, _⟩ := hf 3 3 3 rfl
  obtain ⟨y4, k4, _⟩ := hf 4 3 4 rfl
  obtain ⟨y5, k5, _⟩ := hf 5 3 5 rfl
  obtain ⟨y6, k6, _⟩ := hf 6 3 6 rfl
  obtain ⟨y7, k7, _⟩ := hf 7 27 7 rfl
  obtain ⟨y8, k8, p8, l8⟩ := hf 8 35 8 rfl
  obtain ⟨y9, k9, p9, l9⟩ := hf 9 31 9 rfl
  obtain ⟨y10, k10, p10, l10⟩ := hf 10 38 14 rfl
  obtain ⟨y11, k11, p11, l11⟩ := hf 11 9 19 rfl
  obtain ⟨v0, g0, k0⟩ := R.part1 cells3' (by omega) k0
  obtain ⟨v1, g1, k1⟩ := R.part1 cells3' (by omega) k1
  obtain ⟨v2, g2, k2⟩ := R.part1 cells3' (by omega) k2
  obtain ⟨v3, g3, k3⟩ := R.part1 cells3' (by omega) k3
  obtain ⟨v4, g4, k4⟩ := R.part1 cells3' (by omega) k4
  obtain ⟨v5, g5, k5⟩ := R.part1 cells3' (by omega) k5
  obtain ⟨v6, g6, k6⟩ := R.part1 cells3' (by omega) k6
  obtain ⟨v7, g7, k7⟩ := R.part1 cells47 (by omega) k7
  obtain ⟨v8, g8, k8⟩ := R.part1 cells75 (by omega) k8
  obtain ⟨v11, g19, k11⟩ := R.part1 cells9' (by omega) k11
  obtain ⟨n0, rfl, w0⟩ := R.cell_int Try.underlying3 k0
  obtain ⟨n1, rfl, w1⟩ := R.cell_int Try.underlying3 k1
  obtain ⟨n2, rfl, w2⟩ := R.cell_int Try.underlying3 k2
  obtain ⟨n3, rfl, w3⟩ := R.cell_int Try.underlying3 k3
  obtain ⟨n4, rfl, w4⟩ := R.cell_int Try.underlying3 k4
  obtain ⟨n5, rfl, w5⟩ := R.cell_int Try.underlying3 k5
  obtain ⟨n6, rfl, w6⟩ := R.cell_int Try.underlying3 k6
  obtain ⟨n7, rfl, w7⟩ := R.cell_int Try.underlying27 k7
  obtain ⟨sx, rfl, _⟩ := R.cell_string Try.underlying9 k11 l11
  obtain ⟨A, len, cap, rfl, hc1, hc2, hc3, hel⟩ := R.open_row Try.underlying35 cells54 k8 p8 l8 (by omega)
  obtain ⟨l, hl, hp⟩ := R.exists_list (p := fun i (x : Ent) => EIn64 x ∧ ∃ ad, A = some ad ∧ ad.block < W.heap.size ∧ ∀ j u, x.cl[j]? = some u → W.cell? (ad.add (i * 7 + j)) = some u) len (fun i hi => by
    obtain ⟨ad, cs, n, y, rfl, hB, hcl, hat, ht, hy, hly⟩ := hel i hi
    obtain ⟨x, rfl, wx, _⟩ := ent_cells ht
    exact ⟨x, wx, ad, rfl, hB, fun j u hu => (hat j (by have := (List.getElem?_eq_some_iff.1 hu).1; simpa using this)).trans hu⟩)
  subst hl
  rw [cells31] at k9
  obtain ⟨c, hc, c64, _⟩ := cmd_cellsM k9
  rw [cells77] at k10
  obtain ⟨hclR, mR, hfR⟩ := R.parts Try.underlying38 k10 p10 l10
  rw [cells77] at hclR
  obtain ⟨z0, q0, _⟩ := hfR 0 3 0 rfl
  obtain ⟨z1, q1, _⟩ := hfR 1 3 1 rfl
  obtain ⟨z2, q2, _⟩ := hfR 2 27 2 rfl
  obtain ⟨z3, q3, _⟩ := hfR 3 36 3 rfl
  obtain ⟨z4, q4, _⟩ := hfR 4 3 4 rfl
  obtain ⟨u0, r0, q0⟩ := R.part1 cells3' (by omega) q0
  obtain ⟨u1, r1, q1⟩ := R.part1 cells3' (by omega) q1
  obtain ⟨u2, r2, q2⟩ := R.part1 cells47 (by omega) q2
  obtain ⟨u3, r3, q3⟩ := R.part1 cells25 (by omega) q3
  obtain ⟨u4, r4, q4⟩ := R.part1 cells3' (by omega) q4
  obtain ⟨e0, rfl, x0⟩ := R.cell_int Try.underlying3 q0
  obtain ⟨e1, rfl, x1⟩ := R.cell_int Try.underlying3 q1
  obtain ⟨e2, rfl, x2⟩ := R.cell_int Try.underlying27 q2
  obtain ⟨e3, rfl, x3⟩ := R.cell_u64 Try.underlying36 q3
  obtain ⟨e4, rfl, x4⟩ := R.cell_int Try.underlying3 q4
  have hAr : R.Args W W.heap.size A l.length 7 Ent.cl l := ⟨rfl, fun i x h => (hp i x h).2⟩
  have hb54 : Try.prog.bytesOf 85 = 64 := by kernel_rfl
  rw [hb54] at hc3
  unfold reachBytes at hc3
  have g9 : cs[9]? = some (.int .i64 c.k) := by rw [← sub_at (o := 9) (n := 5) (j := 0) (by omega), hc]; rfl
  have g10 : cs[10]? = some (.int .i64 c.s) := by rw [← sub_at (o := 9) (n := 5) (j := 1) (by omega), hc]; rfl
  have g11 : cs[11]? = some (.int .i64 c.q) := by rw [← sub_at (o := 9) (n := 5) (j := 2) (by omega), hc]; rfl
  have g12 : cs[12]? = some (.string c.nm) := by rw [← sub_at (o := 9) (n := 5) (j := 3) (by omega), hc]; rfl
  have g13 : cs[13]? = some (.int .i64 c.n) := by rw [← sub_at (o := 9) (n := 5) (j := 4) (by omega), hc]; rfl
  rw [sub_at (by omega)] at r0 r1 r2 r3 r4
  refine ⟨⟨n0, n1, n2, n3, n4, n5, n6, n7, l, c, ⟨e0, e1, e2, e3, e4⟩, sx⟩, A, cap, List.ext_getElem? fun i => ?_, ⟨?_, ?_, x3, c64, ?_⟩, by show l.length ≤ _; omega, src_argsM hAr⟩
  · match i with
    | 0 => exact g0
    | 1 => exact g1
    | 2 => exact g2
    | 3 => exact g3
    | 4 => exact g4
    | 5 => exact g5
    | 6 => exact g6
    | 7 => exact g7
    | 8 => exact g8
    | 9 => exact g9
    | 10 => exact g10
    | 11 => exact g11
    | 12 => exact g12
    | 13 => exact g13
    | 14 => exact r0
    | 15 => exact r1
    | 16 => exact r2
    | 17 => exact r3
    | 18 => exact r4
    | 19 => exact g19
    | i + 20 => rw [List.getElem?_eq_none (by omega), List.getElem?_eq_none (by simp)]
  · intro x hx
    simp only [spansL, List.mem_cons, List.not_mem_nil, or_false] at hx
    rcases hx with rfl | rfl | rfl | rfl | rfl | rfl | rfl | rfl | rfl
    · exact w0
    · exact w1
    · exact w2
    · exact w3
    · exact w4
    · exact w5
    · exact w6
    · exact w7
    · unfold maxLen at hc2
      show I64 (l.length : Int)
      constructor <;> omega
  · intro x hx
    simp only [repliesL, List.mem_cons, List.not_mem_nil, or_false] at hx
    rcases hx with rfl | rfl | rfl | rfl
    · exact x0
    · exact x1
    · exact x2
    · exact x4
  · intro x hx
    obtain ⟨i, hi, e⟩ := List.mem_iff_getElem.1 hx
    exact (hp i x (by rw [List.getElem?_eq_getElem hi, e])).1
/-- A deed. -/
structure Dd where
  k : Int
  now : Int
  c : Cmd
  m : Msg
  A : Option Addr
  cap : Nat
def Dd.cl (x : Dd) : List Value := [.int .i64 x.k, .int .i64 x.now] ++ (x.c.cs.toList ++ (mcs x.m x.A x.cap).toList)
structure Dd.Ok (W : World) (x : Dd) : Prop where
  k : I64 x.k
  now : I64 x.now
  m : MIn x.m
  len : x.m.es.length ≤ 4611686018427387904
  src : U.Src W x.A 7 x.m.es.length (ents x.m.es)
theorem deed_cellsM {H : Type} {enc : TypeId × Value → H} {W : World} {b0 n : Nat} {cs : List Value} {y : DataW H × List MemPlace} (ht : DataW.trod enc Try.prog W b0 (fun _ => true) true n 52 cs = some y) (hlt : ∀ p ∈ y.2, p.block < W.heap.size) (hw : R.Light 52 y.1) :
    ∃ x : Dd, cs = x.cl ∧ x.Ok W := by
  obtain ⟨k, now, c, M, hcs, hM, hMd, hk, hnow, _⟩ := deed_cells ht hlt hw
  obtain ⟨hcl, m, hf⟩ := R.parts Try.underlying52 ht hlt hw
  obtain ⟨y3, k3, p3, l3⟩ := hf 3 40 7 rfl
  rw [cells40, ← hMd] at k3
  obtain ⟨g, A, cap, hg, hin, hlen, hsrc⟩ := msg_cells k3 p3 l3
  exact ⟨⟨k, now, c, g, A, cap⟩, by rw [hcs, hg]; rfl, ⟨hk, hnow, hin, hlen, hsrc⟩⟩
open Go.ChangeShapes Go.WideShapes Go.ChangeAt in
theorem open_deeds {H : Type} {enc : TypeId × Value → H} {W : World} {base : Nat} {v : Value} {d : DataW H} {p : List MemPlace}
    (hv : Value.okWide Try.prog W .any base 50 v) (h : DataW.Trod enc Try.prog W 0 (fun _ => true) true 50 v d p) (hlt : ∀ x ∈ p, x.block < W.heap.size) (hw : R.Light 50 d) :
    ∃ A len cap, ∃ l : List Dd, v = .slice A len cap ∧ len ≤ cap ∧ cap ≤ maxLen ∧ l.length = len ∧ ∀ i x, l[i]? = some x → x.Ok W ∧ ∃ ad, A = some ad ∧ ∀ j u, x.cl[j]? = some u → W.cell? (ad.add (i * 27 + j)) = some u := by
  obtain ⟨A, len, cap, rfl, hc1, hc2, _, hel⟩ := R.open_arg Try.underlying50 cells52 hv h hlt hw (by omega)
  obtain ⟨l, hl, hp⟩ := R.exists_list (p := fun i (x : Dd) => x.Ok W ∧ ∃ ad, A = some ad ∧ ∀ j u, x.cl[j]? = some u → W.cell? (ad.add (i * 27 + j)) = some u) len (fun i hi => by
    obtain ⟨ad, cs, n, y, rfl, hB, hcl, hat, ht, hy, hly⟩ := hel i hi
    obtain ⟨x, rfl, hx⟩ := deed_cellsM ht hy hly
    exact ⟨x, hx, ad, rfl, fun j u hu => (hat j (by have := (List.getElem?_eq_some_iff.1 hu).1; have e : x.cl.length = 27 := (by simp [Dd.cl, Cmd.cs]); omega)).trans hu⟩)
  exact ⟨A, len, cap, l, rfl, hc1, hc2, hl, hp⟩
theorem addAdd (a : Addr) (m j : Nat) : (a.add m).add j = a.add (m + j) := by
  cases j with
  | zero => simp [Addr.add]
  | succ j => rw [addLater a m (j + 1) (by omega)]; rfl
/-- A struct is loaded, whole, from where its cells lie. -/
theorem load_at {ty : TypeId} (w : World) (a : Addr) (cs : List Value) (d : TypeDesc) (hc : ∀ j u, cs[j]? = some u → w.cell? (a.add j) = some u)
    (hu : Try.prog.underlying ty = some d) (hd : (match d with | .struct _ | .array _ _ => true | _ => false) = true) (hi : (Try.prog.info? ty).map (·.size) = some cs.length) :
    (loadVar ty a).run Try.prog w = .ok (.agg cs.toArray) w := by
  have hl := run_loadCells_list (P := Try.prog) w a cs hc
  cases hq : Try.prog.info? ty with
  | none => rw [hq] at hi; cases hi
  | some i =>
    have hs : i.size = cs.length := by rw [hq] at hi; simpa using hi
    have hagg : (isAgg ty).run Try.prog w = .ok true w := by
      unfold isAgg
      rw [Sem.run_bind, run_underlying hu w]
      cases d <;> simp_all
    simp [loadVar, Sem.run_bind, hagg, sizeOf, typeInfo, hq, hs, hl]
/-- A guard: the next operation is this one. -/
theorem at_op {ops : Array Oper} {rest : List Oper} {o : Oper} {a : Act} {w : World} {Q : Exit → Act → World → Prop} (k : Op) (hk : o.op = k) (h : wpList Try.prog ops Q (o :: rest) a w) : wpList Try.prog ops Q (o :: rest) a w := h
theorem wpList_load_at {ops : Array Oper} {rest : List Oper} {o : Oper} {a : Act} {w : World} {Q : Exit → Act → World → Prop} (ty : TypeId) (x : Operand) (ho : o.op = .load ty x) (hw : Region.wanted o (yielded ops a.tmps) = true)
    (p : Addr) (hx : a.eval x = .pointer (some p)) (cs : List Value) (d : TypeDesc) (hc : ∀ j u, cs[j]? = some u → w.cell? (p.add j) = some u)
    (hu : Try.prog.underlying ty = some d) (hd : (match d with | .struct _ | .array _ _ => true | _ => false) = true) (hi : (Try.prog.info? ty).map (·.size) = some cs.length)
    (h : wpList Try.prog ops Q rest (a.put o.dst (.agg cs.toArray)) w) : wpList Try.prog ops Q (o :: rest) a w :=
  wpList_step fun K hK => by
    rw [if_pos hw]
    unfold Oper.wp execOp
    simp only [ho, hx, Instr.loadAt, Instr.sureAddr, Sem.run_bind, Sem.run_pure, Result.andThen_ok, load_at w p cs d hc hu hd hi]
    exact hK _ _ h
theorem fit14 (w : World) (m : Msg) (A : Option Addr) (c : Nat) (hs : U.Src w A 7 m.es.length (ents m.es)) (hm : MIn m) (hlen : m.es.length ≤ 4611686018427387904) :
    Calls Try.prog 14 #[mval m A c] w (fun e w' => ∃ t, e = .returned (.bool t) ∧ Keep Nothing w w') := by
  have X0 := Lib.hid (Blk.fresh w 40 (mcs m A c))
  have K0 := Lib.hid ((Keep.same Nothing w).alloc (.cells (mcs m A c) 40))
  have HE := Lib.hid (mrenc_calls _ m A c (src_kept hs K0.out) hm hlen)
  clear hs hm
  go_enter Try.func14, Try.ntmps14
  go_wp2_with (refine wpList_load_row (by rfl) 40 (.tmp 1) (by rfl) w.heap.size (by rfl) 40 (mcs m A c) (0, 0) _ X0.out Try.underlying40 rfl hi40 ?_)
  refine HE.out.mono ?_
  rintro e w1 ⟨rfl, hk1⟩
  have K1 := Lib.hid (K0.out.then hk1)
  clear hk1
  go_wp2_with fail
  go_ret
  exact ⟨_, rfl, K1.out⟩


/-- What the law's client is like behind k deeds. -/
structure Inv (S : CS) (k : Nat) : Prop where
  id : S.id = 2
  n : S.n = 3
  q : 0 ≤ S.seq ∧ S.seq ≤ k
  len : S.L.length ≤ k
  rise : Rise S.L
  first : ∀ o, S.op = some o → I64 o.first
def busyI (S : CS) : Int := if S.op.isSome then 1 else 0
theorem busy_some {S : CS} (h : S.op.isSome = true) : busyI S = 1 := by unfold busyI; rw [if_pos h]
theorem busy_none {S : CS} (h : S.op.isSome = false) : busyI S = 0 := by unfold busyI; rw [h]; rfl
theorem Inv.up {S : CS} {k : Nat} (h : Inv S k) : Inv S (k + 1) := ⟨h.id, h.n, by have := h.q; omega, by have := h.len; omega, h.rise, h.first⟩
theorem callE_free {S : CS} {x : Cmd} (h : callE S x = 0) : S.op.isSome = false := by
  unfold callE at h
  cases ho : S.op.isSome with
  | false => rfl
  | true =>
    rw [ho] at h
    split at h
    · cases h
    · split at h
      · cases h
      · rw [if_pos (.inl rfl)] at h
        cases h
theorem Inv.call {S : CS} {k : Nat} (h : Inv S k) (x : Cmd) {now : Int} (hn : I64 now) : Inv (callS S x now) (k + 1) ∧ (callS S x now).op.isSome = true := by
  have hL : (callL S x).length ≤ S.L.length ∧ Rise (callL S x) := by
    unfold callL
    split
    · exact ⟨let_len _ _ _, rise_let h.rise _ _⟩
    · split
      · exact ⟨let_len _ _ _, rise_let h.rise _ _⟩
      · split
        · exact ⟨Nat.zero_le _, List.Pairwise.nil⟩
        · exact ⟨Nat.le_refl _, h.rise⟩
  refine ⟨⟨h.id, h.n, ?_, ?_, hL.2, ?_⟩, rfl⟩
  · show 0 ≤ (if x.k = 2 then S.seq else S.seq + 1) ∧ (if x.k = 2 then S.seq else S.seq + 1) ≤ ((k + 1 : Nat) : Int)
    have := h.q
    split <;> omega
  · show (callL S x).length ≤ k + 1
    have := hL.1
    have := h.len
    omega
  · intro o ho
    injection ho with ho
    subst ho
    exact hn
theorem Inv.told {S : CS} {k : Nat} (h : Inv S k) (o : Oc) (r : Rp) : Inv (toldS S o r) (k + 1) ∧ (toldS S o r).op.isSome = false := by
  have hg : Inv (S.withOp none).gone (k + 1) := ⟨h.id, h.n, by show 0 ≤ S.seq ∧ S.seq ≤ _; have := h.q; omega, Nat.zero_le _, List.Pairwise.nil, fun o ho => by cases ho⟩
  have hn : Inv (S.withOp none) (k + 1) := ⟨h.id, h.n, by show 0 ≤ S.seq ∧ S.seq ≤ _; have := h.q; omega, by show S.L.length ≤ _; have := h.len; omega, h.rise, fun o ho => by cases ho⟩
  unfold toldS
  split
  · exact ⟨hg, rfl⟩
  · split
    · unfold okS
      split
      · exact ⟨⟨h.id, h.n, by show 0 ≤ S.seq ∧ S.seq ≤ _; have := h.q; omega, by show S.L.length ≤ _; have := h.len; omega, h.rise, fun o ho => by cases ho⟩, rfl⟩
      · split
        · exact ⟨hg, rfl⟩
        · split
          · exact ⟨⟨h.id, h.n, by show 0 ≤ S.seq ∧ S.seq ≤ _; have := h.q; omega, by show (holdL S.L _).length ≤ _; have := hold_len' S.L ⟨o.cmd.nm, decide (o.cmd.k = 7), r.t⟩; have := h.len; omega, rise_hold h.rise _, fun o ho => by cases ho⟩, rfl⟩
          · exact ⟨hn, rfl⟩
    · exact ⟨hn, rfl⟩
theorem Inv.hand {S : CS} {k : Nat} (h : Inv S k) (m : Mg) (now : Int) : ∃ S' d, handleS S m now = (S', d) ∧ Inv S' (k + 1) ∧ ((d = 0 ∧ S'.op.isSome = S.op.isSome) ∨ (d = 1 ∧ S.op.isSome = true ∧ S'.op.isSome = false)) := by
  unfold handleS
  split
  · exact ⟨S, 0, rfl, h.up, .inl ⟨rfl, rfl⟩⟩
  · split
    · cases ho : S.op with
      | none => exact ⟨S, 0, rfl, h.up, .inl ⟨rfl, by rw [ho]⟩⟩
      | some o =>
        show ∃ S' d, (if o.session = m.r.s ∧ o.cmd.q = m.r.q then (toldS S o m.r, 1) else (S, 0)) = (S', d) ∧ _
        split
        · exact ⟨_, 1, rfl, (h.told o m.r).1, .inr ⟨rfl, rfl, (h.told o m.r).2⟩⟩
        · exact ⟨S, 0, rfl, h.up, .inl ⟨rfl, by rw [ho]⟩⟩
    · split
      · split
        · exact ⟨S, 0, rfl, h.up, .inl ⟨rfl, rfl⟩⟩
        · refine ⟨_, 0, rfl, ⟨h.id, h.n, by show 0 ≤ S.seq ∧ S.seq ≤ _; have := h.q; omega, by show S.L.length ≤ _; have := h.len; omega, h.rise, ?_⟩, .inl ⟨rfl, by show (S.op.map _).isSome = _; rw [Option.isSome_map]⟩⟩
          intro o ho
          obtain ⟨o', ho', rfl⟩ := Option.map_eq_some_iff.1 ho
          exact h.first o' ho'
      · split
        · split
          · exact ⟨S, 0, rfl, h.up, .inl ⟨rfl, rfl⟩⟩
          · split
            · exact ⟨_, 0, rfl, ⟨h.id, h.n, by show 0 ≤ S.seq ∧ S.seq ≤ _; have := h.q; omega, Nat.zero_le _, List.Pairwise.nil, h.first⟩, .inl ⟨rfl, rfl⟩⟩
            · split
              · exact ⟨_, 0, rfl, ⟨h.id, h.n, by show 0 ≤ S.seq ∧ S.seq ≤ _; have := h.q; omega, by show S.L.length ≤ _; have := h.len; omega, h.rise, h.first⟩, .inl ⟨rfl, rfl⟩⟩
              · exact ⟨S, 0, rfl, h.up, .inl ⟨rfl, rfl⟩⟩
        · exact ⟨S, 0, rfl, h.up, .inl ⟨rfl, rfl⟩⟩
theorem Inv.alike {S S' : CS} {k : Nat} (h : Inv S k) (a : Alike S S') : Inv S' (k + 1) ∧ S'.op.isSome = S.op.isSome := by
  refine ⟨⟨a.id.trans h.id, a.n.trans h.n, by rw [a.seq]; have := h.q; omega, by rw [a.L]; have := h.len; omega, by rw [a.L]; exact h.rise, ?_⟩, ?_⟩
  · intro o ho
    cases hs : S.op with
    | none => rw [a.op.1 hs] at ho; cases ho
    | some o' =>
      obtain ⟨t, ht⟩ := a.op.2 o' hs
      rw [ht] at ho
      injection ho with ho
      subst ho
      exact h.first o' hs
  · cases hs : S.op with
    | none => rw [a.op.1 hs]
    | some o' =>
      obtain ⟨t, ht⟩ := a.op.2 o' hs
      rw [ht]; rfl
/-- A message's cells, as Handle takes them. -/
def mgOf (m : Msg) (A : Option Addr) (c : Nat) : Mg := ⟨m.k, m.f, m.t, m.b, m.s, m.r, m.z, m.e, .slice A m.es.length c, m.c, ⟨m.p.s, m.p.q, m.p.e, m.p.k, m.p.n⟩, m.x⟩
theorem mgOf_val (m : Msg) (A : Option Addr) (c : Nat) : (mgOf m A c).val = mval m A c := rfl
theorem dd_cells {w : World} {g : Nat} {x : Dd} (h : Blk w g 52 x.cl.toArray) : w.cell? ⟨g, 0, none⟩ = some (.int .i64 x.k) ∧ w.cell? ⟨g, 1, none⟩ = some (.int .i64 x.now) ∧ w.cell? ⟨g, 2, none⟩ = some (.int .i64 x.c.k) ∧ w.cell? ⟨g, 3, none⟩ = some (.int .i64 x.c.s) ∧ w.cell? ⟨g, 4, none⟩ = some (.int .i64 x.c.q) ∧ w.cell? ⟨g, 5, none⟩ = some (.string x.c.nm) ∧ w.cell? ⟨g, 6, none⟩ = some (.int .i64 x.c.n) :=
  ⟨h.cell 0, h.cell 1, h.cell 2, h.cell 3, h.cell 4, h.cell 5, h.cell 6⟩
theorem dd_msg {w : World} {g : Nat} {x : Dd} (h : Blk w g 52 x.cl.toArray) : ∀ j u, (mcs x.m x.A x.cap).toList[j]? = some u → w.cell? ((⟨g, 7, none⟩ : Addr).add j) = some u := fun j u hu => by
  rw [addAt, h.cell, ← hu, List.getElem?_toArray, Nat.add_comm]
  rfl
theorem dd_len (x : Dd) : x.cl.length = 27 := by simp [Dd.cl, Cmd.cs]
theorem hi52 : (Try.prog.info? 52).map (·.size) = some 27 := by kernel_rfl
theorem dd_one (x : Dd) : x.cl.toArray.all (·.oneCell') = true := by
  simp [Dd.cl, Cmd.cs, Value.oneCell']
abbrev zDd : Array Value := #[.int .i64 0, .int .i64 0, .int .i64 0, .int .i64 0, .int .i64 0, .string ⟨#[]⟩, .int .i64 0, .int .i64 0, .int .i64 0, .int .i64 0, .int .i64 0, .int .i64 0, .int .i64 0, .int .i64 0, .int .i64 0, .slice none 0 0, .int .i64 0, .int .i64 0, .int .i64 0, .string ⟨#[]⟩, .int .i64 0, .int .i64 0, .int .i64 0, .int .i64 0, .int .u64 0, .int .i64 0, .string ⟨#[]⟩]
theorem once_row {B : Nat} {w0 w : World} {b : Nat} {S : CS} (h : Holds B w0 w (star (cliP b S) none_)) (x : Dd) : Holds B w0 ((w.alloc (.cells zDd 52)).setRow w.heap.size x.cl.toArray) (star (cliP b S) (star (blkP w.heap.size 52 x.cl.toArray) none_)) := by
  have h1 := h.newBlk ((cliP_stable _ _).star none_stable) 52 zDd
  have h2 : Holds B w0 ((w.alloc (.cells zDd 52)).setRow w.heap.size x.cl.toArray) (star (blkP w.heap.size 52 x.cl.toArray) (star (cliP b S) none_)) :=
    h1.did_left ((cliP_stable _ _).star none_stable) fun F ⟨hb, hf⟩ => ⟨F, ⟨hb.setRow _, hf⟩, (Keep.same F _).setRow (.inl ((hf _).2 rfl)) _, fun k hk => .inl hk⟩
  exact h2.perm (by ac_rfl)
theorem at_list {ops : Array Oper} {rest : List Oper} {o : Oper} {a : Act} {w : World} {Q : Exit → Act → World → Prop} (h : wpList Try.prog ops Q (o :: rest) a w) : wpList Try.prog ops Q (o :: rest) a w := h
theorem store_deed {ops : Array Oper} {rest : List Oper} {o : Oper} {a : Act} {w : World} {Q : Exit → Act → World → Prop} {B : Nat} {w0 wr : World} {b : Nat} {S : CS} {x : Dd} (p q : Operand) (ho : o.op = .store 52 p q) (hgd : o.guard = none)
    (hx : a.eval p = .pointer (some ⟨wr.heap.size, 0, none⟩)) (hy : a.eval q = .agg x.cl.toArray) (hh : Holds B w0 wr (star (cliP b S) none_)) (hw : w = wr.alloc (.cells zDd 52))
    (h : ∀ w2, Holds B w0 w2 (star (cliP b S) (star (blkP wr.heap.size 52 x.cl.toArray) none_)) → wpList Try.prog ops Q rest (a.put o.dst undef) w2) : wpList Try.prog ops Q (o :: rest) a w := by
  subst hw
  exact wpList_store_row hgd 52 p q ho wr.heap.size x.cl.toArray hx hy 52 zDd (Blk.fresh wr 52 zDd) (by rw [hi52]; simp [dd_len]) (by simp [dd_len]) (dd_one x) (h _ (once_row hh x))
theorem once_blk {B : Nat} {w0 w : World} {b g : Nat} {S : CS} {x : Dd} (h : Holds B w0 w (star (cliP b S) (star (blkP g 52 x.cl.toArray) none_))) : Blk w g 52 x.cl.toArray :=
  blk_at (show Holds B w0 w (star (blkP g 52 x.cl.toArray) (star (cliP b S) none_)) from h.perm (by ac_rfl))
theorem once_drop {B : Nat} {w0 w : World} {b g : Nat} {S : CS} {x : Dd} (h : Holds B w0 w (star (cliP b S) (star (blkP g 52 x.cl.toArray) none_))) : Holds B w0 w (star (cliP b S) none_) :=
  (show Holds B w0 w (star (blkP g 52 x.cl.toArray) (star (cliP b S) none_)) from h.perm (by ac_rfl)).drop
theorem once_calls (w : World) (A : Option Addr) (len cap : Nat) (l : List Dd) (hll : l.length = len) (hA : ∀ i x, l[i]? = some x → x.Ok w ∧ ∃ ad, A = some ad ∧ ∀ j u, x.cl[j]? = some u → w.cell? (ad.add (i * 27 + j)) = some u) (hlen : len ≤ cap) (hcap : cap ≤ maxLen) :
    Calls Try.prog 5 #[.slice A len cap] w (fun e w' => e = .returned (.bool true) ∧ Keep Nothing w w') := by
  have AW := Lib.hid (fun w => awake7 w)
  have hu52 := Try.underlying52
  have hu31 := Try.underlying31
  have hu40 := Try.underlying40
  have HA := Lib.hid hA
  have HLL := Lib.hid hll
  have hb : ∀ w', Below w.heap.size w w' → Keep Nothing w w' := fun w' h => Keep.of_below h _
  have hmax : maxLen = 9223372036854775807 := by rfl
  have HN := Lib.hid (x_new (Holds.start w) none_stable)
  clear hA hll
  go_enter Try.func5, Try.ntmps5
  go_wp2_with fail
  refine HN.out.mono ?_
  rintro e w1 ⟨b, rfl, h⟩
  have H1 := Lib.hid h
  clear h
  go_wp2_with fail
  generalize hg1 : w.heap.size = b1 at *
  clear hg1
  go_loopw [4, 5, 6] (fun ov ev v wr => ∃ (k : Nat) (op en : Int) (S : CS), k ≤ 200 ∧ v = .int .i64 k ∧ ov = .int .i64 op ∧ ev = .int .i64 en ∧ 0 ≤ en ∧ en ≤ k ∧ op = en + busyI S ∧ Inv S k ∧ Holds b1 w wr (star (cliP b S) none_)) (fun _ _ v _ => 200 - (intOf v).toNat)
  case atStart => exact ⟨0, 0, 0, newC 2 3 1, by omega, by simp, rfl, rfl, by omega, by omega, by rfl, ⟨rfl, rfl, by decide, Nat.zero_le _, List.Pairwise.nil, fun o ho => by cases ho⟩, H1.out⟩
  case round =>
    obtain ⟨k, op, en, S, hk, rfl, rfl, rfl, he0, hek, hop, hiv, hh⟩ := hrel
    have H := Lib.hid hh
    have IV := Lib.hid hiv
    have HOP := Lib.hid hop
    clear hh hiv hop
    have hbz : busyI S = 0 ∨ busyI S = 1 := by unfold busyI; split; exact .inr rfl; exact .inl rfl
    have HBZ := Lib.hid (show op = en ∨ op = en + 1 by have := HOP.out; omega)
    clear hbz
    by_cases hin : k < len ∧ k < 200
    · obtain ⟨hkl, hk3⟩ := hin
      obtain ⟨x, hx⟩ : ∃ x, l[k]? = some x := ⟨_, List.getElem?_eq_getElem (by rw [HLL.out]; exact hkl)⟩
      obtain ⟨OK, ad, rfl, hat⟩ := HA.out k x hx
      have KW := Lib.hid (hb _ H.out.below)
      have LD := Lib.hid (show ∀ j u, x.cl[j]? = some u → wr.cell? ((ad.add (k * 27)).add j) = some u from fun j u hu => by rw [addAdd]; exact KW.out.cell (hat j u hu) (fun h => h))
      have XOK := Lib.hid OK
      have SQ := Lib.hid ((blkP_stable wr.heap.size 52 x.cl.toArray).star none_stable)
      clear hx hat OK
      rcases (show x.now < 0 ∨ (¬ x.now < 0 ∧ 1099511627776 < x.now) ∨ (¬ x.now < 0 ∧ ¬ 1099511627776 < x.now) by omega) with h | ⟨h, h'⟩ | ⟨h, h'⟩
      · have d1 := decide_eq_true h
        clear h
        go_wp2_with (first | (with_reducible refine at_list ?_); refine at_op (.load 52 (.tmp 27)) (by rfl) ?_; refine wpList_load_at 52 (.tmp 27) (by rfl) (by rfl) (ad.add (k * 27)) (by rfl) x.cl _ LD.out hu52 rfl (by rw [dd_len]; exact hi52) ?_ | (with_reducible refine at_list ?_); refine at_op (.store 52 (.tmp 7) (.tmp 28)) (by rfl) ?_; refine store_deed (.tmp 7) (.tmp 28) (by rfl) (by rfl) (by rfl) (by rfl) H.out (by rfl) ?_; intro w2 h2; have H2 := Lib.hid h2; obtain ⟨c0, c1, c2, c3, c4, c5, c6⟩ := dd_cells (once_blk h2); clear h2; go_wp2_with fail)
        go_roundw
        case rel => exact ⟨k + 1, op, en, S, by omega, by go_num, rfl, rfl, he0, by omega, HOP.out, IV.out.up, once_drop H2.out⟩
        case measure => simp [intOf]; omega
      · have d1 := decide_eq_false h
        have d2 := decide_eq_true h'
        clear h h'
        go_wp2_with (first | (with_reducible refine at_list ?_); refine at_op (.load 52 (.tmp 27)) (by rfl) ?_; refine wpList_load_at 52 (.tmp 27) (by rfl) (by rfl) (ad.add (k * 27)) (by rfl) x.cl _ LD.out hu52 rfl (by rw [dd_len]; exact hi52) ?_ | (with_reducible refine at_list ?_); refine at_op (.store 52 (.tmp 7) (.tmp 28)) (by rfl) ?_; refine store_deed (.tmp 7) (.tmp 28) (by rfl) (by rfl) (by rfl) (by rfl) H.out (by rfl) ?_; intro w2 h2; have H2 := Lib.hid h2; obtain ⟨c0, c1, c2, c3, c4, c5, c6⟩ := dd_cells (once_blk h2); clear h2; go_wp2_with fail)
        go_roundw
        case rel => exact ⟨k + 1, op, en, S, by omega, by go_num, rfl, rfl, he0, by omega, HOP.out, IV.out.up, once_drop H2.out⟩
        case measure => simp [intOf]; omega
      · have d1 := decide_eq_false h
        have d2 := decide_eq_false h'
        clear h h'
        rcases (show x.k = 0 ∨ x.k = 1 ∨ (x.k ≠ 0 ∧ x.k ≠ 1) by omega) with hk0 | hk0 | ⟨hk0, hk1⟩
        · have e0 : (x.k == 0) = true := by simp [hk0]
          have e1 : (x.k == 1) = false := by simp [hk0]
          clear hk0
          go_wp2_with (first | (with_reducible refine at_list ?_); refine at_op (.load 52 (.tmp 27)) (by rfl) ?_; refine wpList_load_at 52 (.tmp 27) (by rfl) (by rfl) (ad.add (k * 27)) (by rfl) x.cl _ LD.out hu52 rfl (by rw [dd_len]; exact hi52) ?_ | (with_reducible refine at_list ?_); refine at_op (.store 52 (.tmp 7) (.tmp 28)) (by rfl) ?_; refine store_deed (.tmp 7) (.tmp 28) (by rfl) (by rfl) (by rfl) (by rfl) H.out (by rfl) ?_; intro w2 h2; have H2 := Lib.hid h2; obtain ⟨c0, c1, c2, c3, c4, c5, c6⟩ := dd_cells (once_blk h2); clear h2; go_wp2_with fail)
          have XC := Lib.hid (x_call H2.out SQ.out (show 0 ≤ S.id ∧ S.id < 8 by rw [IV.out.id]; decide) (show 0 ≤ S.seq ∧ S.seq < 1000000 by have := IV.out.q; omega) (show S.L.length ≤ 500000 by have := IV.out.len; omega) IV.out.rise x.c x.now)
          unfold Cmd.val Cmd.cs at XC
          refine XC.out.mono ?_
          rintro e w3 hp
          clear c0 c1 c2 c3 c4 c5 c6
          by_cases hE : callE S x.c = 0
          · obtain ⟨g, rfl, h3⟩ := call_ok hp hE
            have H3 := Lib.hid h3.drop
            have IC := Lib.hid (IV.out.call x.c XOK.out.now)
            obtain rfl : op = en := by have h1 := busy_none (callE_free hE); have := HOP.out; omega
            clear hE h3 hp
            have XBZ := Lib.hid (x_busy H3.out)
            rw [IC.out.2] at XBZ
            have D1 : decide (((op + 1) : Int) < op) = false := decide_eq_false (by omega)
            have D2 : decide (op + 1 < ((op + 1) : Int)) = false := decide_eq_false (by omega)
            have D3 : decide (op < ((op + 1) : Int)) = true := decide_eq_true (by omega)
            have hw1 : IntKind.i64.wrap (op + 1) = op + 1 := by rw [IntKind.wrap_i64]; omega
            go_wp2_with fail
            refine XBZ.out.mono ?_
            rintro e w8 ⟨rfl, rfl⟩
            go_wp2_with fail
            go_roundw
            case rel => exact ⟨k + 1, (op + 1), op, callS S x.c x.now, by omega, by go_num, by first | rfl | go_num, by first | rfl | go_num, by omega, by omega, by (rw [busy_some IC.out.2]; try omega), IC.out.1, once_drop H3.out⟩
            case measure => simp [intOf]; omega
          · obtain ⟨rfl, h3⟩ := call_no hp rfl hE
            have H3 := Lib.hid h3
            have DE : (callE S x.c == 0) = false := by simp [hE]
            clear hE h3 hp
            cases hS : S.op.isSome
            · obtain rfl : op = en := by have h1 := busy_none hS; have := HOP.out; omega
              have HS := Lib.hid hS
              clear hS
              have XBZ := Lib.hid (x_busy H3.out)
              rw [HS.out] at XBZ
              have D1 : decide ((op : Int) < op) = false := decide_eq_false (by omega)
              have D2 : decide (op + 1 < (op : Int)) = false := decide_eq_false (by omega)
              have D3 : decide (op < (op : Int)) = false := decide_eq_false (by omega)
              have hw1 : IntKind.i64.wrap (op + 1) = op + 1 := by rw [IntKind.wrap_i64]; omega
              go_wp2_with fail
              refine XBZ.out.mono ?_
              rintro e w8 ⟨rfl, rfl⟩
              go_wp2_with fail
              refine XBZ.out.mono ?_
              rintro e w8 ⟨rfl, rfl⟩
              go_wp2_with fail
              go_roundw
              case rel => exact ⟨k + 1, op, op, S, by omega, by go_num, by first | rfl | go_num, by first | rfl | go_num, by omega, by omega, by (rw [busy_none HS.out]; try omega), IV.out.up, once_drop H3.out⟩
              case measure => simp [intOf]; omega
            · obtain rfl : op = en + 1 := by have h1 := busy_some hS; have := HOP.out; omega
              have HS := Lib.hid hS
              clear hS
              have XBZ := Lib.hid (x_busy H3.out)
              rw [HS.out] at XBZ
              have D1 : decide (((en + 1) : Int) < en) = false := decide_eq_false (by omega)
              have D2 : decide (en + 1 < ((en + 1) : Int)) = false := decide_eq_false (by omega)
              have D3 : decide (en < ((en + 1) : Int)) = true := decide_eq_true (by omega)
              have hw1 : IntKind.i64.wrap (en + 1) = en + 1 := by rw [IntKind.wrap_i64]; omega
              go_wp2_with fail
              refine XBZ.out.mono ?_
              rintro e w8 ⟨rfl, rfl⟩
              go_wp2_with fail
              refine XBZ.out.mono ?_
              rintro e w8 ⟨rfl, rfl⟩
              go_wp2_with fail
              go_roundw
              case rel => exact ⟨k + 1, (en + 1), en, S, by omega, by go_num, by first | rfl | go_num, by first | rfl | go_num, by omega, by omega, by (rw [busy_some HS.out]; try omega), IV.out.up, once_drop H3.out⟩
              case measure => simp [intOf]; omega
        · have e0 : (x.k == 0) = false := by simp [hk0]
          have e1 : (x.k == 1) = true := by simp [hk0]
          clear hk0
          go_wp2_with (first | (with_reducible refine at_list ?_); refine at_op (.load 52 (.tmp 27)) (by rfl) ?_; refine wpList_load_at 52 (.tmp 27) (by rfl) (by rfl) (ad.add (k * 27)) (by rfl) x.cl _ LD.out hu52 rfl (by rw [dd_len]; exact hi52) ?_ | (with_reducible refine at_list ?_); refine at_op (.store 52 (.tmp 7) (.tmp 28)) (by rfl) ?_; refine store_deed (.tmp 7) (.tmp 28) (by rfl) (by rfl) (by rfl) (by rfl) H.out (by rfl) ?_; intro w2 h2; have H2 := Lib.hid h2; obtain ⟨c0, c1, c2, c3, c4, c5, c6⟩ := dd_cells (once_blk h2); clear h2; go_wp2_with ((with_reducible refine at_list ?_); refine at_op (.load 40 (.tmp 42)) (by rfl) ?_; refine wpList_load_at 40 (.tmp 42) (by rfl) (by rfl) ⟨wr.heap.size, 7, none⟩ (by rfl) (mcs x.m x.A x.cap).toList _ (dd_msg (once_blk H2.out)) hu40 rfl hi40 ?_; go_wp2_with fail))
          have FT := Lib.hid (fit14 w2 x.m x.A x.cap (src_kept XOK.out.src (hb _ H2.out.below)) XOK.out.m XOK.out.len)
          refine FT.out.mono ?_
          rintro e w3 ⟨t, rfl, hk3⟩
          have H3 := Lib.hid (H2.out.kept ((cliP_stable _ _).star SQ.out) hk3)
          clear c0 c1 c2 c3 c4 c5 c6 hk3
          obtain ⟨c0, c1, c2, c3, c4, c5, c6⟩ := dd_cells (once_blk H3.out)
          cases t
          · go_wp2_with fail
            go_roundw
            case rel => exact ⟨k + 1, op, en, S, by omega, by go_num, rfl, rfl, he0, by omega, HOP.out, IV.out.up, once_drop H3.out⟩
            case measure => simp [intOf]; omega
          · go_wp2_with ((with_reducible refine at_list ?_); refine at_op (.load 40 (.tmp 79)) (by rfl) ?_; refine wpList_load_at 40 (.tmp 79) (by rfl) (by rfl) ⟨wr.heap.size, 7, none⟩ (by rfl) (mcs x.m x.A x.cap).toList _ (dd_msg (once_blk H3.out)) hu40 rfl hi40 ?_; go_wp2_with fail)
            have XH := Lib.hid (x_handle H3.out SQ.out (show 0 ≤ S.id ∧ S.id < 8 by rw [IV.out.id]; decide) (show S.L.length ≤ 500000 by have := IV.out.len; omega) IV.out.rise IV.out.first (mgOf x.m x.A x.cap) (XOK.out.m.sp ⟨x.m.r, 0, 1099511627776⟩ (by simp [spansL])) x.now)
            refine XH.out.mono ?_
            rintro e w4 hp
            obtain ⟨S4, d, hE, hi, hd⟩ := IV.out.hand (mgOf x.m x.A x.cap) x.now
            obtain ⟨A4, k4, n4, D4, d4, rfl, h4⟩ := hand_one hp hE
            have H4 := Lib.hid h4
            have I4 := Lib.hid hi
            clear c0 c1 c2 c3 c4 c5 c6 hp hE hi h4
            rcases hd with ⟨rfl, hS⟩ | ⟨rfl, hS, hS'⟩
            · cases hS4 : S4.op.isSome
              · obtain rfl : op = en := by have h1 := busy_none (hS.symm.trans hS4); have := HOP.out; omega
                have HS := Lib.hid hS4
                have hw0 : IntKind.i64.wrap op = op := by rw [IntKind.wrap_i64]; omega
                clear hS hS4
                have XBZ := Lib.hid (x_busy H4.out)
                rw [HS.out] at XBZ
                have D1 : decide ((op : Int) < op) = false := decide_eq_false (by omega)
                have D2 : decide (op + 1 < (op : Int)) = false := decide_eq_false (by omega)
                have D3 : decide (op < (op : Int)) = false := decide_eq_false (by omega)
                have hw1 : IntKind.i64.wrap (op + 1) = op + 1 := by rw [IntKind.wrap_i64]; omega
                go_wp2_with fail
                refine XBZ.out.mono ?_
                rintro e w8 ⟨rfl, rfl⟩
                go_wp2_with fail
                go_roundw
                case rel => exact ⟨k + 1, op, op, S4, by omega, by go_num, by first | rfl | go_num, by first | rfl | go_num, by omega, by omega, by (rw [busy_none HS.out]; try omega), I4.out, once_drop H4.out⟩
                case measure => simp [intOf]; omega
              · obtain rfl : op = en + 1 := by have h1 := busy_some (hS.symm.trans hS4); have := HOP.out; omega
                have HS := Lib.hid hS4
                have hw0 : IntKind.i64.wrap en = en := by rw [IntKind.wrap_i64]; omega
                clear hS hS4
                have XBZ := Lib.hid (x_busy H4.out)
                rw [HS.out] at XBZ
                have D1 : decide (((en + 1) : Int) < en) = false := decide_eq_false (by omega)
                have D2 : decide (en + 1 < ((en + 1) : Int)) = false := decide_eq_false (by omega)
                have D3 : decide (en < ((en + 1) : Int)) = true := decide_eq_true (by omega)
                have hw1 : IntKind.i64.wrap (en + 1) = en + 1 := by rw [IntKind.wrap_i64]; omega
                go_wp2_with fail
                refine XBZ.out.mono ?_
                rintro e w8 ⟨rfl, rfl⟩
                go_wp2_with fail
                go_roundw
                case rel => exact ⟨k + 1, (en + 1), en, S4, by omega, by go_num, by first | rfl | go_num, by first | rfl | go_num, by omega, by omega, by (rw [busy_some HS.out]; try omega), I4.out, once_drop H4.out⟩
                case measure => simp [intOf]; omega
            · obtain rfl : op = en + 1 := by have h1 := busy_some hS; have := HOP.out; omega
              have HS := Lib.hid hS'
              have hw0 : IntKind.i64.wrap (en + 1) = en + 1 := by rw [IntKind.wrap_i64]; omega
              clear hS hS'
              have XBZ := Lib.hid (x_busy H4.out)
              rw [HS.out] at XBZ
              have D1 : decide (((en + 1) : Int) < (en + 1)) = false := decide_eq_false (by omega)
              have D2 : decide ((en + 1) + 1 < ((en + 1) : Int)) = false := decide_eq_false (by omega)
              have D3 : decide ((en + 1) < ((en + 1) : Int)) = false := decide_eq_false (by omega)
              have hw1 : IntKind.i64.wrap ((en + 1) + 1) = (en + 1) + 1 := by rw [IntKind.wrap_i64]; omega
              go_wp2_with fail
              refine XBZ.out.mono ?_
              rintro e w8 ⟨rfl, rfl⟩
              go_wp2_with fail
              go_roundw
              case rel => exact ⟨k + 1, (en + 1), (en + 1), S4, by omega, by go_num, by first | rfl | go_num, by first | rfl | go_num, by omega, by omega, by (rw [busy_none HS.out]; try omega), I4.out, once_drop H4.out⟩
              case measure => simp [intOf]; omega
        · have e0 : (x.k == 0) = false := by simp [hk0]
          have e1 : (x.k == 1) = false := by simp [hk1]
          clear hk0 hk1
          go_wp2_with (first | (with_reducible refine at_list ?_); refine at_op (.load 52 (.tmp 27)) (by rfl) ?_; refine wpList_load_at 52 (.tmp 27) (by rfl) (by rfl) (ad.add (k * 27)) (by rfl) x.cl _ LD.out hu52 rfl (by rw [dd_len]; exact hi52) ?_ | (with_reducible refine at_list ?_); refine at_op (.store 52 (.tmp 7) (.tmp 28)) (by rfl) ?_; refine store_deed (.tmp 7) (.tmp 28) (by rfl) (by rfl) (by rfl) (by rfl) H.out (by rfl) ?_; intro w2 h2; have H2 := Lib.hid h2; obtain ⟨c0, c1, c2, c3, c4, c5, c6⟩ := dd_cells (once_blk h2); clear h2; go_wp2_with fail)
          have XT := Lib.hid (x_tick H2.out SQ.out (show 0 ≤ S.id ∧ S.id < 8 by rw [IV.out.id]; decide) IV.out.n x.now)
          refine XT.out.mono ?_
          rintro e w3 ⟨A3, n3, k3, S3, rfl, al, h3⟩
          have H3 := Lib.hid h3
          have IA := Lib.hid (IV.out.alike al)
          clear c0 c1 c2 c3 c4 c5 c6 al h3
          cases hS : S3.op.isSome
          · obtain rfl : op = en := by have h1 := busy_none (IA.out.2.symm.trans hS); have := HOP.out; omega
            have HS := Lib.hid hS
            clear hS
            have XBZ := Lib.hid (x_busy H3.out)
            rw [HS.out] at XBZ
            have D1 : decide ((op : Int) < op) = false := decide_eq_false (by omega)
            have D2 : decide (op + 1 < (op : Int)) = false := decide_eq_false (by omega)
            have D3 : decide (op < (op : Int)) = false := decide_eq_false (by omega)
            have hw1 : IntKind.i64.wrap (op + 1) = op + 1 := by rw [IntKind.wrap_i64]; omega
            go_wp2_with fail
            refine XBZ.out.mono ?_
            rintro e w8 ⟨rfl, rfl⟩
            go_wp2_with fail
            go_roundw
            case rel => exact ⟨k + 1, op, op, S3, by omega, by go_num, by first | rfl | go_num, by first | rfl | go_num, by omega, by omega, by (rw [busy_none HS.out]; try omega), IA.out.1, once_drop H3.out⟩
            case measure => simp [intOf]; omega
          · obtain rfl : op = en + 1 := by have h1 := busy_some (IA.out.2.symm.trans hS); have := HOP.out; omega
            have HS := Lib.hid hS
            clear hS
            have XBZ := Lib.hid (x_busy H3.out)
            rw [HS.out] at XBZ
            have D1 : decide (((en + 1) : Int) < en) = false := decide_eq_false (by omega)
            have D2 : decide (en + 1 < ((en + 1) : Int)) = false := decide_eq_false (by omega)
            have D3 : decide (en < ((en + 1) : Int)) = true := decide_eq_true (by omega)
            have hw1 : IntKind.i64.wrap (en + 1) = en + 1 := by rw [IntKind.wrap_i64]; omega
            go_wp2_with fail
            refine XBZ.out.mono ?_
            rintro e w8 ⟨rfl, rfl⟩
            go_wp2_with fail
            go_roundw
            case rel => exact ⟨k + 1, (en + 1), en, S3, by omega, by go_num, by first | rfl | go_num, by first | rfl | go_num, by omega, by omega, by (rw [busy_some HS.out]; try omega), IA.out.1, once_drop H3.out⟩
            case measure => simp [intOf]; omega
    · have hex : ¬ k < len ∨ (k < len ∧ ¬ k < 200) := by omega
      rcases hex with h | ⟨h, h'⟩
      all_goals
        go_wp2_with fail
        refine (AW.out _).mono ?_
        rintro e w9 ⟨rfl, hk9⟩
        have K9 := Lib.hid hk9
        clear hk9
        go_wp2_with fail
        go_ret
        exact ⟨rfl, (hb _ H.out.below).then K9.out⟩
open Go.ChangeShapes Go.WideShapes Go.ChangeAt in
theorem once_law : R.Law 5 Try.f5 R.any := by
  intro H enc W base args ds p hval hA hsz _ hlt
  rw [Try.params5] at hA hval hsz
  obtain ⟨v0, vs0, d0, ds0, p0, q0, hargs, rfl, rfl, h0, r0⟩ := trodAll_cons hA
  obtain ⟨rfl, rfl, rfl⟩ := trodAll_nil r0
  obtain rfl : args = #[v0] := by cases args; simp_all
  obtain ⟨A, len, cap, l, rfl, hc1, hc2, hll, hAr⟩ := open_deeds (hval 0 50 v0 rfl rfl) h0 (fun x hx => hlt x (List.mem_append_left _ hx)) (R.light_of (j := 0) hsz rfl rfl)
  exact (once_calls W A len cap l hll hAr hc1 hc2).mono fun e w' h => ⟨h.1, h.2.below (Nat.le_refl _) (fun _ h => h.elim)⟩
end Go.Proofs.Ythlfcinjmljbjaa.A
