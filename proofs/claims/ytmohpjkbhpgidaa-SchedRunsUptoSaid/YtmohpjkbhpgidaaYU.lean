/-
  Arguments of the scheduler's laws.
-/
import Derived.Test.YtmohpjkbhpgidaaR
import Derived.Test.YtmohpjkbhpgidaaYK
import Derived.Laws.StructEq
namespace Go.Proofs.Ytmohpjkbhpgidaa.R
open Go.ChangeShapes Go.WideShapes Go.ChangeAt Go.RowKit Go.Joins
set_option linter.unusedVariables false
set_option maxRecDepth 100000

theorem wAll_mem {H : Type} {P : Program} {e : TypeId} {d : DataW H} : ∀ {l : List (DataW H)}, d ∈ l → ∀ q ∈ d.weights P e, q ∈ DataW.weightsAll P e l
  | c :: l, h => fun q hq => by
    rw [DataW.weightsAll]
    rcases List.mem_cons.1 h with rfl | h
    · exact List.mem_append_left _ hq
    · exact List.mem_append_right _ (wAll_mem h q hq)
/-- All that a piece of data weighs is within reach. -/
def Light {H : Type} (t : TypeId) (d : DataW H) : Prop := ∀ q ∈ d.weights Try.prog t, q ≤ reachBytes
theorem light_of {H : Type} {ts : List TypeId} {ds : List (DataW H)} (h : (DataW.weightsEach Try.prog ts ds).all (· ≤ reachBytes) = true) {j : Nat} {t : TypeId} {d : DataW H} (ht : ts[j]? = some t) (hd : ds[j]? = some d) : Light t d :=
  fun q hq => of_decide_eq_true (List.all_eq_true.1 h q (DataW.weights_mem_each ht hd q hq))
/-- One cell that is a slice: its elements. -/
theorem open_row {H : Type} {enc : TypeId × Value → H} {W : World} {b0 n0 : Nat} {v : Value} {x : DataW H × List MemPlace} {t e s : Nat} (ht : Try.prog.underlying t = some (.slice e)) (hC : Try.prog.cellsOf e = s)
    (hf : DataW.trod enc Try.prog W b0 (fun _ => true) true n0 t [v] = some x) (hlt : ∀ p ∈ x.2, p.block < W.heap.size) (hw : Light t x.1) (hs : 0 < s) :
    ∃ A len cap, v = .slice A len cap ∧ len ≤ cap ∧ cap ≤ maxLen ∧ cap * Try.prog.bytesOf e ≤ reachBytes ∧ (∀ i, i < len → ∃ ad cs n y, A = some ad ∧ ad.block < W.heap.size ∧ cs.length = s ∧ (∀ j, j < s → W.cell? (ad.add (i * s + j)) = cs[j]?) ∧
      DataW.trod enc Try.prog W b0 (fun _ => true) true n e cs = some y ∧ (∀ p ∈ y.2, p.block < W.heap.size) ∧ Light e y.1) := by
  rcases Go.Deep.open_slice ht hf with ⟨hcs, hx⟩ | ⟨a, len', cap', m, n, D, Pl, hcs, hb, hl, hm, hmm, hx, hi⟩
  · injection hcs with hcs _
    exact ⟨_, _, _, hcs, Nat.le_refl _, Nat.zero_le _, by omega, fun i hi => absurd hi (by omega)⟩
  · injection hcs with hcs _
    simp only [if_true] at hmm
    subst hmm
    subst hx
    refine ⟨_, _, _, hcs, hl, hm, ?_, fun i hil => ?_⟩
    · have := hw (m * Try.prog.bytesOf e) (by
        simp only [DataW.weights, ht, List.mem_cons]
        left
        congr 1
        simp
        omega)
      exact this
    · obtain ⟨cs', hc, ht'⟩ := hi i (by omega)
      rw [hC] at hc
      obtain ⟨_, hcl, hat⟩ := World.cells?_some hc
      have hblk : a.block < W.heap.size := by
        have h0 := hat 0 hs
        have hv0 : cs'[0]? = some (cs'[0]'(by omega)) := List.getElem?_eq_getElem (by omega)
        rw [hv0] at h0
        have := World.block_lt_of_cell? W _ h0
        simpa [U.addBlock] using this
      refine ⟨a, cs', n, _, rfl, hblk, hcl, fun j hj => ?_, ht', fun x hx => hlt x ?_, fun q hq => hw q ?_⟩
      · rw [← U.addAdd]; exact hat j hj
      · exact List.mem_append_right _ (List.mem_flatMap.2 ⟨i, List.mem_range.2 (by omega), hx⟩)
      · simp only [DataW.weights, ht, List.mem_cons, List.mem_append]
        exact .inr (.inl (wAll_mem (List.mem_map.2 ⟨i, List.mem_range.2 (by omega), rfl⟩) q hq))
/-- An argument that is a slice. -/
theorem open_arg {H : Type} {enc : TypeId × Value → H} {W : World} {base b0 : Nat} {v : Value} {d : DataW H} {p : List MemPlace} {t e s : Nat} (ht : Try.prog.underlying t = some (.slice e)) (hC : Try.prog.cellsOf e = s)
    (hv : Value.okWide Try.prog W .any base t v) (h : DataW.Trod enc Try.prog W b0 (fun _ => true) true t v d p) (hlt : ∀ x ∈ p, x.block < W.heap.size) (hw : Light t d) (hs : 0 < s) :
    ∃ A len cap, v = .slice A len cap ∧ len ≤ cap ∧ cap ≤ maxLen ∧ cap * Try.prog.bytesOf e ≤ reachBytes ∧ (∀ i, i < len → ∃ ad cs n y, A = some ad ∧ ad.block < W.heap.size ∧ cs.length = s ∧ (∀ j, j < s → W.cell? (ad.add (i * s + j)) = cs[j]?) ∧
      DataW.trod enc Try.prog W b0 (fun _ => true) true n e cs = some y ∧ (∀ p ∈ y.2, p.block < W.heap.size) ∧ Light e y.1) := by
  obtain ⟨A, len, cap, rfl⟩ := okWide_slice ht hv
  obtain ⟨fuel, hf⟩ := h
  exact open_row (x := (d, p)) ht hC hf hlt hw hs
/-- The parts of a struct that is read. -/
theorem parts {H : Type} {enc : TypeId × Value → H} {W : World} {b0 n t : Nat} {cs : List Value} {x : DataW H × List MemPlace} {fs : Array Field} (hs : Try.prog.underlying t = some (.struct fs))
    (ht : DataW.trod enc Try.prog W b0 (fun _ => true) true n t cs = some x) (hlt : ∀ p ∈ x.2, p.block < W.heap.size) (hw : Light t x.1) : cs.length = Try.prog.cellsOf t ∧ ∃ m, ∀ (i ty off : Nat), (fs[i]?).map (fun f => (f.type, f.offset)) = some (ty, off) →
      ∃ y, DataW.trod enc Try.prog W b0 (fun _ => true) true m ty ((cs.drop off).take (Try.prog.cellsOf ty)) = some y ∧ (∀ p ∈ y.2, p.block < W.heap.size) ∧ Light ty y.1 := by
  obtain ⟨xs, m, _, rfl, hcl, hxl, hf⟩ := DataW.trod_struct hs ht
  refine ⟨hcl, m, fun i ty off hi => ?_⟩
  cases hfi : fs[i]? with
  | none => rw [hfi] at hi; cases hi
  | some f =>
    rw [hfi] at hi
    simp only [Option.map_some, Option.some.injEq, Prod.mk.injEq] at hi
    obtain ⟨rfl, rfl⟩ := hi
    have k := hf i f hfi
    have hil : i < xs.length := by rw [hxl]; exact (Array.getElem?_eq_some_iff.1 hfi).1
    rw [List.getElem?_eq_getElem hil] at k
    refine ⟨_, k, fun p hp => hlt p (List.mem_flatMap.2 ⟨_, List.getElem_mem hil, hp⟩), fun q hq => hw q ?_⟩
    simp only [DataW.weights, hs]
    refine DataW.weights_mem_each (j := i) (t := f.type) (d := (xs[i]).1) ?_ ?_ q hq
    · rw [List.getElem?_map, Array.getElem?_toList, hfi]; rfl
    · rw [List.getElem?_map, List.getElem?_eq_getElem hil]; rfl
/-- A part of one cell. -/
theorem part1 {H : Type} {enc : TypeId × Value → H} {W : World} {b0 m ty off : Nat} {cs : List Value} {y : DataW H × List MemPlace} (h1 : Try.prog.cellsOf ty = 1) (ho : off < cs.length)
    (k : DataW.trod enc Try.prog W b0 (fun _ => true) true m ty ((cs.drop off).take (Try.prog.cellsOf ty)) = some y) : ∃ v, cs[off]? = some v ∧ DataW.trod enc Try.prog W b0 (fun _ => true) true m ty [v] = some y := by
  rw [h1, List.drop_eq_getElem_cons ho, List.take_succ_cons, List.take_zero] at k
  exact ⟨_, List.getElem?_eq_getElem ho, k⟩
theorem wfI {n : Int} (h : (Lit.int .i64 n).wf = true) : -9223372036854775808 ≤ n ∧ n ≤ 9223372036854775807 := by
  simp only [Lit.wf, Bool.and_eq_true, decide_eq_true_eq] at h
  have h1 : IntKind.i64.min = -9223372036854775808 := by rfl
  have h2 : IntKind.i64.max = 9223372036854775807 := by rfl
  rw [h1, h2] at h
  exact h
theorem wfU {n : Int} (h : (Lit.int .u64 n).wf = true) : ∃ m : Nat, n = m ∧ m < 18446744073709551616 := by
  simp only [Lit.wf, Bool.and_eq_true, decide_eq_true_eq] at h
  have h1 : IntKind.u64.min = 0 := by rfl
  have h2 : IntKind.u64.max = 18446744073709551615 := by rfl
  rw [h1, h2] at h
  exact ⟨n.toNat, by omega, by omega⟩
/-- A cell that is a number. -/
theorem cell_int {H : Type} {enc : TypeId × Value → H} {W : World} {b0 m ty : Nat} {v : Value} {y : DataW H × List MemPlace} (hu : Try.prog.underlying ty = some (.int .i64)) (k : DataW.trod enc Try.prog W b0 (fun _ => true) true m ty [v] = some y) :
    ∃ n : Int, v = .int .i64 n ∧ -9223372036854775808 ≤ n ∧ n ≤ 9223372036854775807 := by
  obtain ⟨n, l, _, w⟩ := DataW.trod_int hu k
  injection l with l _
  exact ⟨n, l, wfI w⟩
theorem cell_u64 {H : Type} {enc : TypeId × Value → H} {W : World} {b0 m ty : Nat} {v : Value} {y : DataW H × List MemPlace} (hu : Try.prog.underlying ty = some (.int .u64)) (k : DataW.trod enc Try.prog W b0 (fun _ => true) true m ty [v] = some y) :
    ∃ n : Nat, v = .int .u64 n ∧ n < 18446744073709551616 := by
  obtain ⟨n, l, _, w⟩ := DataW.trod_int hu k
  injection l with l _
  obtain ⟨u, rfl, h⟩ := wfU w
  exact ⟨u, l, h⟩
theorem cell_bool {H : Type} {enc : TypeId × Value → H} {W : World} {b0 m ty : Nat} {v : Value} {y : DataW H × List MemPlace} (hu : Try.prog.underlying ty = some .bool) (k : DataW.trod enc Try.prog W b0 (fun _ => true) true m ty [v] = some y) :
    ∃ b : Bool, v = .bool b := by
  obtain ⟨n, l, _⟩ := DataW.trod_bool hu k
  injection l with l _
  exact ⟨n, l⟩
theorem cell_string {H : Type} {enc : TypeId × Value → H} {W : World} {b0 m ty : Nat} {v : Value} {y : DataW H × List MemPlace} (hu : Try.prog.underlying ty = some .string) (k : DataW.trod enc Try.prog W b0 (fun _ => true) true m ty [v] = some y) (hw : Light ty y.1) :
    ∃ s : ByteArray, v = .string s ∧ s.size ≤ 140737488351232 := by
  obtain ⟨s, l, hy, _⟩ := DataW.trod_string hu k
  injection l with l _
  refine ⟨s, l, ?_⟩
  have h0 : y.1 = .lit (.string s.data.toList) := by rw [hy]
  have := hw s.data.toList.length (by rw [h0]; simp [DataW.weights])
  unfold reachBytes at this
  simpa using this
theorem list3 {α : Type} {a b c : α} {cs : List α} (hl : cs.length = 3) (h0 : cs[0]? = some a) (h1 : cs[1]? = some b) (h2 : cs[2]? = some c) : cs = [a, b, c] := by
  match cs, hl with
  | [x, y, z], _ => simp at h0 h1 h2; rw [h0, h1, h2]
theorem list4 {α : Type} {a b c d : α} {cs : List α} (hl : cs.length = 4) (h0 : cs[0]? = some a) (h1 : cs[1]? = some b) (h2 : cs[2]? = some c) (h3 : cs[3]? = some d) : cs = [a, b, c, d] := by
  match cs, hl with
  | [x, y, z, u], _ => simp at h0 h1 h2 h3; rw [h0, h1, h2, h3]
theorem list5 {α : Type} {a b c d e : α} {cs : List α} (hl : cs.length = 5) (h0 : cs[0]? = some a) (h1 : cs[1]? = some b) (h2 : cs[2]? = some c) (h3 : cs[3]? = some d) (h4 : cs[4]? = some e) : cs = [a, b, c, d, e] := by
  match cs, hl with
  | [x, y, z, u, v], _ => simp at h0 h1 h2 h3 h4; rw [h0, h1, h2, h3, h4]
end Go.Proofs.Ytmohpjkbhpgidaa.R
namespace Go.Proofs.Ytmohpjkbhpgidaa.A
open Go.RowKit Go.Proofs.Ytmohpjkbhpgidaa.U
set_option linter.unusedVariables false
set_option linter.unusedSimpArgs false
set_option maxRecDepth 100000
set_option maxHeartbeats 800000

theorem wrap64_in {x : Int} (h0 : -9223372036854775808 ≤ x) (h1 : x < 9223372036854775808) : wrap64 x = x := by unfold wrap64; omega
def RunPost (R : List Ev × PS) (w : World) (e : Ending) (w' : World) : Prop :=
  ∃ A c, e = .returned (.tuple #[.slice A R.1.length c, .bool (pickT Tk.open_ R.2.T R.2.T.length).isEmpty]) ∧ Row w' 103 3 (.slice A R.1.length c) R.1.length (evsV R.1) ∧ Keep Nothing w w'
theorem run_end {w w' : World} {A : Option Addr} {c b bm : Nat} {S : PS} {l : List Ev} {R : List Ev × PS} (h : Holds w.heap.size w w' (star (rowP 103 3 (.slice A l.length c) l.length (evsV l)) (star (schE b bm S) none_))) (hr : (l, S) = R) :
    RunPost R w (.returned (.tuple #[.slice A l.length c, .bool (pickT Tk.open_ S.T S.T.length).isEmpty])) w' := by
  subst hr
  exact ⟨A, c, rfl, h.row, Keep.of_below h.below _⟩
theorem run_calls (w : World) (A Ap : Option Addr) (c np cp : Nat) (TS : List (List Op3)) (picks : List Int) (h : ArgOps w A TS) (hl : TS.length ≤ 1000000) (hp : U.Src w Ap 1 np (ints picks)) (hg : GoodS (newS TS) 0) :
    Calls Try.prog 55 #[.slice A TS.length c, .slice Ap np cp] w (RunPost (runX picks 10000 0 (newS TS) []) w) := by
  have hu := Try.underlying103
  have HN := Lib.hid (e_new w A c TS h hl)
  have HP := Lib.hid hp
  have HG := Lib.hid hg
  have hpl : picks.length = np := by have := hp.1; rw [ints, List.length_map] at this; omega
  clear h hl hp hg
  go_enter Try.func55, Try.ntmps55
  go_wp2_with fail
  refine HN.out.mono ?_
  rintro e w1 ⟨b, bm, rfl, hh⟩
  have H1 := Lib.hid (hh.newRow (schE_stable.star none_stable) (Row.nil _ 103 3) (Keep.same _ _) (fun k hk => by simp [Value.ownBlock] at hk))
  clear hh
  go_wp2_with fail
  go_loopw [7, 15] (fun vo vn wr => ∃ (k : Nat) (S : PS) (l : List Ev) (A2 : Option Addr) (c2 : Nat), k ≤ 10000 ∧ vn = .int .i64 k ∧ vo = .slice A2 l.length c2 ∧ l.length = k ∧ GoodS S k ∧ runX picks (10000 - k) k S l = runX picks 10000 0 (newS TS) [] ∧ Holds w.heap.size w wr (star (rowP 103 3 (.slice A2 l.length c2) l.length (evsV l)) (star (schE b bm S) none_))) (fun vo vn _ => 10000 - (intOf vn).toNat)
  case atStart => exact ⟨0, newS TS, [], none, 0, by omega, by simp, by simp, rfl, HG.out, rfl, H1.out⟩
  case round =>
    obtain ⟨k, S, l, A2, c2, hk, rfl, rfl, hlk, hgS, hrun, hh⟩ := hrel
    have HH := Lib.hid hh
    have GS := Lib.hid hgS
    have RN := Lib.hid hrun
    have LK := Lib.hid hlk
    have hlb : l.length ≤ 10000 := by omega
    have hE : Holds w.heap.size w wr (star (schE b bm S) (star (rowP 103 3 (.slice A2 l.length c2) l.length (evsV l)) none_)) := hh.perm (by ac_rfl)
    have HE := Lib.hid hE
    have RD := Lib.hid (fun w' (hk' : Keep Nothing wr w') => e_ready (hE.kept (schE_stable.star ((rowP_stable _ _ _ _ _).star none_stable)) hk') hgS.len)
    clear hh hgS hrun hlk hE
    by_cases hlt : k < 10000
    · go_wp2_with fail
      refine (RD.out _ (by repeat (first | with_reducible (exact Keep.same _ _) | with_reducible (apply Keep.drew) | with_reducible (apply Keep.alloc)))).mono ?_
      generalize hPL : pickT Tk.ready S.T S.T.length = L
      rintro e w2 ⟨A3, c3, rfl, hr3, hk3, hf3⟩
      have R3 := Lib.hid hr3
      have hkk := (Keep.then (by repeat (first | with_reducible (exact Keep.same _ _) | with_reducible (apply Keep.drew) | with_reducible (apply Keep.alloc)) : Keep Nothing wr _) hk3)
      have H3 := Lib.hid (HE.out.kept (schE_stable.star ((rowP_stable _ _ _ _ _).star none_stable)) hkk)
      have H2 := Lib.hid (HH.out.kept ((rowP_stable _ _ _ _ _).star (schE_stable.star none_stable)) hkk)
      have hLl : L.length ≤ 1000000 := by have := pickT_len Tk.ready S.T S.T.length; have := GS.out.len; rw [← hPL]; omega
      have PL := Lib.hid hPL
      clear hk3 hr3 hf3 hkk HH hPL
      rcases Nat.eq_zero_or_pos L.length with h0 | h0
      · have HH := H2
        have RX := Lib.hid (show (l, S) = runX picks 10000 0 (newS TS) [] by
          rw [← RN.out, show 10000 - k = (10000 - (k + 1)) + 1 by omega]
          show _ = (match roundX picks k S with | none => (l, S) | some (e, S') => runX picks (10000 - (k + 1)) (k + 1) S' (l ++ [e]))
          rw [round_none (by rw [PL.out]; exact h0)])
        have ED := Lib.hid (fun w' (hk' : Keep Nothing w2 w') => e_ended (H3.out.kept (schE_stable.star ((rowP_stable _ _ _ _ _).star none_stable)) hk') GS.out.len)
        have hz : ((L.length : Int) == 0) = true := by rw [beq_iff_eq]; omega
        go_wp2_with fail
        refine (ED.out _ (by repeat (first | with_reducible (exact Keep.same _ _) | with_reducible (apply Keep.drew) | with_reducible (apply Keep.alloc)))).mono ?_
        rintro e w5 ⟨rfl, hk5⟩
        have H5 := Lib.hid (HH.out.kept ((rowP_stable _ _ _ _ _).star (schE_stable.star none_stable)) (Keep.then (by repeat (first | with_reducible (exact Keep.same _ _) | with_reducible (apply Keep.drew) | with_reducible (apply Keep.alloc)) : Keep Nothing _ _) hk5))
        clear hk5
        go_wp2_with fail
        refine bodyPost_ret (v := .tuple #[.slice A2 l.length c2, .bool (pickT Tk.open_ S.T S.T.length).isEmpty]) (by simp [results, Try.results55, go_sem]) rfl ?_
        exact run_end H5.out RX.out
      · have hz : ((L.length : Int) == 0) = false := by rw [beq_eq_false_iff_ne]; omega
        by_cases hkn : k < np
        · obtain ⟨pk, hpk⟩ : ∃ pk, picks[k]? = some pk := ⟨_, List.getElem?_eq_getElem (by rw [hpl]; exact hkn)⟩
          obtain ⟨i, t, x, hq0, hq1, hLq, ht, hrd, hx, hrx⟩ := round_some (picks := picks) (n := k) (S := S) rfl (by rw [PL.out]; exact h0)
          rw [PL.out] at hq0 hq1 hLq
          have hpi : pickI picks k L.length = (pk.tmod (L.length : Int) + L.length).tmod L.length := by unfold pickI; rw [hpk]
          obtain ⟨q, hq⟩ : ∃ q : Nat, pickI picks k L.length = (q : Int) := ⟨_, (Int.toNat_of_nonneg hq0).symm⟩
          rw [hq] at hq1 hLq hpi
          simp only [Int.toNat_natCast] at hq1 hLq
          have hw : wrap64 (pk.tmod (L.length : Int) + L.length) = pk.tmod (L.length : Int) + L.length := by
            have h1 := Int.lt_tmod_of_pos pk (show (0 : Int) < L.length by omega)
            have h2 := Int.tmod_lt_of_pos pk (show (0 : Int) < L.length by omega)
            exact wrap64_in (by omega) (by omega)
          have hw2 : (wrap64 (pk.tmod (L.length : Int) + L.length)).tmod (L.length : Int) = (q : Int) := by rw [hw, hpi]
          obtain ⟨adp, rfl, hcp⟩ := HP.out.2 (by omega)
          have KB := Lib.hid (Keep.of_below H3.out.below Nothing)
          have cp := KB.out.cell (hcp k (.int .i64 pk) (by unfold ints; rw [List.getElem?_map, hpk]; rfl)) (fun h => h)
          clear hcp hq0 hpk hpi hw hq
          obtain ⟨adl, rfl, hcl⟩ := R3.out.src.2 (by omega)
          have cl := hcl q (.int .i64 (i : Int)) (by unfold ints; rw [List.getElem?_map, hLq]; rfl)
          clear hcl
          skip
          have ST := Lib.hid (fun w' (hk' : Keep Nothing w2 w') => e_step (H3.out.kept (schE_stable.star ((rowP_stable _ _ _ _ _).star none_stable)) hk') ((rowP_stable _ _ _ _ _).star none_stable) GS.out (by omega) i t ht hrd x hx)
          have GS' := Lib.hid (GS.out.step (x := x) ht hrd)
          have RX' := Lib.hid hrx
          clear ht hrd hx hrx hLq
          go_wp2_with fail
          refine (ST.out _ (by repeat (first | with_reducible (exact Keep.same _ _) | with_reducible (apply Keep.drew) | with_reducible (apply Keep.alloc)))).mono ?_
          rintro e w4 ⟨rfl, hh4⟩
          generalize hS' : (stepX S i t x).2 = S' at *
          generalize her : (stepX S i t x).1 = er at *
          have h4 : Holds w.heap.size w w4 (star (rowP 103 3 (.slice A2 l.length c2) l.length (evsV l)) (star (schE b bm S') none_)) := hh4.perm (by ac_rfl)
          have R4 := Lib.hid (h4.row)
          have B4 := Blk.fresh w4 103 #[.int .i64 (i : Int), .int .i64 (t.at_ : Int), .int .i64 er]
          have f0 := B4.cell 0
          have f1 := B4.cell 1
          have f2 := B4.cell 2
          have H4 := Lib.hid ((h4.alloc ((rowP_stable _ _ _ _ _).star (schE_stable.star none_stable)) (.cells #[.int .i64 (i : Int), .int .i64 (t.at_ : Int), .int .i64 er] 103)).alloc ((rowP_stable _ _ _ _ _).star (schE_stable.star none_stable)) (.cells #[.int .i64 (i : Int), .int .i64 (t.at_ : Int), .int .i64 er] 103))
          have SRC := Lib.hid (U.Src.fresh (w4.alloc (.cells #[.int .i64 (i : Int), .int .i64 (t.at_ : Int), .int .i64 er] 103)) #[.int .i64 (i : Int), .int .i64 (t.at_ : Int), .int .i64 er] 103 3 1 rfl)
          rw [size_alloc] at SRC
          have hml : l.length + 1 ≤ maxLen := by unfold maxLen; omega
          clear hS' her hh4 h4 B4
          go_wp2_with (at_builtin; refine wpList_app _ rfl EV (.tmp 49) (.tmp 51) rfl ((R4.out.alloc _).alloc _) SRC.out 1 rfl rfl (by simp [Value.oneCell']) hml (by omega) ?_)
          intro v5 w5 hr5 hg5 hl5
          obtain ⟨A5, c5, rfl, _, _⟩ := hr5.form
          have H5 := Lib.hid (H4.out.grew (schE_stable.star none_stable) hr5 hg5 (by rw [size_alloc, size_alloc]; exact hl5))
          clear hr5 hg5 hl5
          go_wp2_with fail
          go_roundw
          case rel =>
            refine ⟨k + 1, S', l ++ [⟨i, t.at_, er⟩], A5, c5, by omega, by go_num, by simp, by simp [LK.out], GS'.out, ?_, ?_⟩
            · rw [← RN.out, show 10000 - k = (10000 - (k + 1)) + 1 by omega]
              show _ = (match roundX picks k S with | none => (l, S) | some (e, S') => runX picks (10000 - (k + 1)) (k + 1) S' (l ++ [e]))
              rw [RX'.out]
            · have := H5.out
              rw [evsV_app, List.length_append]
              exact this
          case measure => simp [intOf]; omega
        · obtain ⟨i, t, x, hq0, hq1, hLq, ht, hrd, hx, hrx⟩ := round_some (picks := picks) (n := k) (S := S) rfl (by rw [PL.out]; exact h0)
          rw [PL.out] at hq0 hq1 hLq
          obtain ⟨q, hqz, hq⟩ : ∃ q : Nat, q = 0 ∧ pickI picks k L.length = (q : Int) := ⟨0, rfl, by unfold pickI; rw [List.getElem?_eq_none (by omega)]; rfl⟩
          rw [hq] at hq1 hLq
          simp only [Int.toNat_natCast] at hq1 hLq
          subst hqz
          clear hq0 hq
          obtain ⟨adl, rfl, hcl⟩ := R3.out.src.2 (by omega)
          have cl := hcl 0 (.int .i64 (i : Int)) (by unfold ints; rw [List.getElem?_map, hLq]; rfl)
          clear hcl
          rw [show adl.add 0 = adl from rfl] at cl
          have ST := Lib.hid (fun w' (hk' : Keep Nothing w2 w') => e_step (H3.out.kept (schE_stable.star ((rowP_stable _ _ _ _ _).star none_stable)) hk') ((rowP_stable _ _ _ _ _).star none_stable) GS.out (by omega) i t ht hrd x hx)
          have GS' := Lib.hid (GS.out.step (x := x) ht hrd)
          have RX' := Lib.hid hrx
          clear ht hrd hx hrx hLq
          go_wp2_with fail
          refine (ST.out _ (by repeat (first | with_reducible (exact Keep.same _ _) | with_reducible (apply Keep.drew) | with_reducible (apply Keep.alloc)))).mono ?_
          rintro e w4 ⟨rfl, hh4⟩
          generalize hS' : (stepX S i t x).2 = S' at *
          generalize her : (stepX S i t x).1 = er at *
          have h4 : Holds w.heap.size w w4 (star (rowP 103 3 (.slice A2 l.length c2) l.length (evsV l)) (star (schE b bm S') none_)) := hh4.perm (by ac_rfl)
          have R4 := Lib.hid (h4.row)
          have B4 := Blk.fresh w4 103 #[.int .i64 (i : Int), .int .i64 (t.at_ : Int), .int .i64 er]
          have f0 := B4.cell 0
          have f1 := B4.cell 1
          have f2 := B4.cell 2
          have H4 := Lib.hid ((h4.alloc ((rowP_stable _ _ _ _ _).star (schE_stable.star none_stable)) (.cells #[.int .i64 (i : Int), .int .i64 (t.at_ : Int), .int .i64 er] 103)).alloc ((rowP_stable _ _ _ _ _).star (schE_stable.star none_stable)) (.cells #[.int .i64 (i : Int), .int .i64 (t.at_ : Int), .int .i64 er] 103))
          have SRC := Lib.hid (U.Src.fresh (w4.alloc (.cells #[.int .i64 (i : Int), .int .i64 (t.at_ : Int), .int .i64 er] 103)) #[.int .i64 (i : Int), .int .i64 (t.at_ : Int), .int .i64 er] 103 3 1 rfl)
          rw [size_alloc] at SRC
          have hml : l.length + 1 ≤ maxLen := by unfold maxLen; omega
          clear hS' her hh4 h4 B4
          go_wp2_with (at_builtin; refine wpList_app _ rfl EV (.tmp 49) (.tmp 51) rfl ((R4.out.alloc _).alloc _) SRC.out 1 rfl rfl (by simp [Value.oneCell']) hml (by omega) ?_)
          intro v5 w5 hr5 hg5 hl5
          obtain ⟨A5, c5, rfl, _, _⟩ := hr5.form
          have H5 := Lib.hid (H4.out.grew (schE_stable.star none_stable) hr5 hg5 (by rw [size_alloc, size_alloc]; exact hl5))
          clear hr5 hg5 hl5
          go_wp2_with fail
          go_roundw
          case rel =>
            refine ⟨k + 1, S', l ++ [⟨i, t.at_, er⟩], A5, c5, by omega, by go_num, by simp, by simp [LK.out], GS'.out, ?_, ?_⟩
            · rw [← RN.out, show 10000 - k = (10000 - (k + 1)) + 1 by omega]
              show _ = (match roundX picks k S with | none => (l, S) | some (e, S') => runX picks (10000 - (k + 1)) (k + 1) S' (l ++ [e]))
              rw [RX'.out]
            · have := H5.out
              rw [evsV_app, List.length_append]
              exact this
          case measure => simp [intOf]; omega
    · obtain rfl : k = 10000 := by omega
      have RX := Lib.hid (show (l, S) = runX picks 10000 0 (newS TS) [] by rw [← RN.out]; rfl)
      have ED := Lib.hid (fun w' (hk' : Keep Nothing wr w') => e_ended (HE.out.kept (schE_stable.star ((rowP_stable _ _ _ _ _).star none_stable)) hk') GS.out.len)
      go_wp2_with fail
      refine (ED.out _ (by repeat (first | with_reducible (exact Keep.same _ _) | with_reducible (apply Keep.drew) | with_reducible (apply Keep.alloc)))).mono ?_
      rintro e w5 ⟨rfl, hk5⟩
      have H5 := Lib.hid (HH.out.kept ((rowP_stable _ _ _ _ _).star (schE_stable.star none_stable)) (Keep.then (by repeat (first | with_reducible (exact Keep.same _ _) | with_reducible (apply Keep.drew) | with_reducible (apply Keep.alloc)) : Keep Nothing _ _) hk5))
      clear hk5
      go_wp2_with fail
      refine bodyPost_ret (v := .tuple #[.slice A2 l.length c2, .bool (pickT Tk.open_ S.T S.T.length).isEmpty]) (by simp [results, Try.results55, go_sem]) rfl ?_
      exact run_end H5.out RX.out
end Go.Proofs.Ytmohpjkbhpgidaa.A
namespace Go.Proofs.Ytmohpjkbhpgidaa.A
open Go.RowKit Go.Proofs.Ytmohpjkbhpgidaa.U
set_option linter.unusedVariables false
set_option linter.unusedSimpArgs false
set_option maxRecDepth 100000
set_option maxHeartbeats 800000

theorem one_results97 {fn : Func} {p : Tmp} {tmps : Array Value} {w : World} {g : Nat} {cs : Array Value} (h : fn.results = #[.cell p 97]) (hp : tmps.getD p undef = .pointer (some ⟨g, 0, none⟩)) (hg : Blk w g 97 cs) (hi : (Try.prog.info? 97).map (·.size) = some cs.size) :
    (results fn tmps).run Try.prog w = .ok (.agg cs) w := by
  have hl := run_loadVar_row (P := Try.prog) w g 97 97 cs (0, 0) _ hg Try.underlying97 rfl hi
  have hp' : tmps[p]?.getD undef = .pointer (some ⟨g, 0, none⟩) := by simpa using hp
  simp [results, h, hp', asAddr, hl]
def lockO (n : Int) : Op3 := ⟨1, n, 0⟩
def unlockO (n : Int) : Op3 := ⟨2, n, 0⟩
theorem lock58 (w : World) (n : Int) : Calls Try.prog 58 #[.int .i64 n] w (fun e w' => e = .returned (lockO n).val ∧ Keep Nothing w w') := by
  have hu := Try.underlying97
  have Z := Lib.hid (Blk.fresh w 97 #[.int .i64 1, .int .i64 n, .int .i64 0])
  have hi : (Try.prog.info? 97).map (·.size) = some 3 := by kernel_rfl
  go_enter Try.func58, Try.ntmps58
  go_wp2_with fail
  refine bodyPost_ret (v := (lockO n).val) (one_results97 (p := 2) (by rfl) (by rfl) Z.out hi) rfl ?_
  exact ⟨rfl, ((Keep.same Nothing w).alloc _)⟩
theorem unlock59 (w : World) (n : Int) : Calls Try.prog 59 #[.int .i64 n] w (fun e w' => e = .returned (unlockO n).val ∧ Keep Nothing w w') := by
  have hu := Try.underlying97
  have Z := Lib.hid (Blk.fresh w 97 #[.int .i64 2, .int .i64 n, .int .i64 0])
  have hi : (Try.prog.info? 97).map (·.size) = some 3 := by kernel_rfl
  go_enter Try.func59, Try.ntmps59
  go_wp2_with fail
  refine bodyPost_ret (v := (unlockO n).val) (one_results97 (p := 2) (by rfl) (by rfl) Z.out hi) rfl ?_
  exact ⟨rfl, ((Keep.same Nothing w).alloc _)⟩
theorem eql103 (w : World) (a b c a' b' c' : Int) : (binOp .eql 103 (.agg #[.int .i64 a, .int .i64 b, .int .i64 c]) (.agg #[.int .i64 a', .int .i64 b', .int .i64 c'])).run Try.prog w = .ok (.bool (decide (a = a' ∧ b = b' ∧ c = c'))) w := by
  have hu := Try.underlying103
  have hu3 := Try.underlying3
  have hu32 := Try.underlying32
  have hf : Try.prog.underlying 103 = some (.struct (Try.prog.fieldsOf 103)) := by kernel_rfl
  have hh : Try.prog.stoodInHeld 103 = false := by kernel_rfl
  rw [run_eql_struct, show (10000 : Nat) = 9998 + 2 from rfl]
  rw [run_equalIn_agg w (9998 + 1) 103 _ _ hf hh]
  have hfl : (Try.prog.fieldsOf 103).toList = (match Try.prog.underlying 103 with | some (.struct fs) => fs.toList | _ => []) := by kernel_rfl
  rw [hfl, hu]
  have p0 : ∀ (a b c : Value) (W : World), (part 3 #[a, b, c] 0).run Try.prog W = .ok a W := fun a b c W => by rfl
  have p1 : ∀ (a b c : Value) (W : World), (part 3 #[a, b, c] 1).run Try.prog W = .ok b W := fun a b c W => by rfl
  have p2 : ∀ (a b c : Value) (W : World), (part 32 #[a, b, c] 2).run Try.prog W = .ok c W := fun a b c W => by rfl
  have q3 := fun x y => run_equalIn_int (P := Try.prog) w 9998 3 .i64 .i64 x y hu3
  have q32 := fun x y => run_equalIn_int (P := Try.prog) w 9998 32 .i64 .i64 x y hu32
  simp [Op.eqFields, p0, p1, p2, q3, q32, Result.andThen]
  by_cases h0 : a = a' <;> by_cases h1 : b = b' <;> by_cases h2 : c = c' <;> simp [h0, h1, h2, p0, p1, p2, q3, q32, Result.andThen]
def exA : List (List Op3) := [[lockO 1, unlockO 1], [lockO 1, unlockO 1]]
def exB : List (List Op3) := [[lockO 1, lockO 2], [lockO 2, lockO 1]]
theorem run_A : (runX [0, 1] 10000 0 (newS exA) []).1 = [⟨0, 0, 0⟩, ⟨1, 0, 0⟩, ⟨0, 1, 0⟩, ⟨1, 1, 0⟩] := by kernel_rfl
theorem run_A2 : (pickT Tk.open_ (runX [0, 1] 10000 0 (newS exA) []).2.T (runX [0, 1] 10000 0 (newS exA) []).2.T.length).isEmpty = true := by kernel_rfl
theorem run_B : (runX [0, 1, 0, 0] 10000 0 (newS exB) []).1.length = 4 := by kernel_rfl
theorem run_B2 : (pickT Tk.open_ (runX [0, 1, 0, 0] 10000 0 (newS exB) []).2.T (runX [0, 1, 0, 0] 10000 0 (newS exB) []).2.T.length).isEmpty = false := by kernel_rfl
theorem new_good (TS : List (List Op3)) (h : ∀ l ∈ TS, l.length ≤ 1000000 ∧ ∀ x ∈ l, -9223372036854775808 ≤ x.n ∧ x.n ≤ 9223372036854775807) (hl : TS.length ≤ 1000000) : GoodS (newS TS) 0 := by
  refine ⟨fun l hl' => ?_, by unfold newS; simpa using hl, fun t ht => ?_, fun m hm => by cases hm⟩
  · unfold newS at hl'
    simp only [List.map_map] at hl'
    obtain ⟨l', h', rfl⟩ := List.mem_map.1 hl'
    exact h l' h'
  · unfold newS at ht
    obtain ⟨l', h', rfl⟩ := List.mem_map.1 ht
    exact ⟨Nat.zero_le _, Nat.zero_le _⟩
theorem good_A : GoodS (newS exA) 0 := new_good _ (by intro l hl; simp [exA] at hl; subst hl; exact ⟨by simp, by intro x hx; simp [lockO, unlockO] at hx; rcases hx with rfl | rfl <;> simp⟩) (by simp [exA])
theorem good_B : GoodS (newS exB) 0 := new_good _ (by intro l hl; simp [exB] at hl; rcases hl with rfl | rfl <;> exact ⟨by simp, by intro x hx; simp [lockO, unlockO] at hx; rcases hx with rfl | rfl <;> simp⟩) (by simp [exB])
abbrev ops2 (a b : Op3) : Array Value := #[.int .i64 a.k, .int .i64 a.obj, .int .i64 a.n, .int .i64 b.k, .int .i64 b.obj, .int .i64 b.n]
abbrev W3 (w4 w2 : World) (c d : Op3) (ps : List Int) : World := ((w4.alloc (.cells (ops2 c d) 97)).alloc (.cells #[.slice (some ⟨w2.heap.size, 0, none⟩) 2 2, .slice (some ⟨w4.heap.size, 0, none⟩) 2 2] 99)).alloc (.cells (ints ps).toArray 3)
theorem ops_two (w2 w4 : World) (a b c d : Op3) (ps : List Int) (hk : Keep Nothing (w2.alloc (.cells (ops2 a b) 97)) w4) :
    ArgOps (W3 w4 w2 c d ps) (some ⟨w4.heap.size + 1, 0, none⟩) [[a, b], [c, d]] ∧ U.Src (W3 w4 w2 c d ps) (some ⟨w4.heap.size + 1 + 1, 0, none⟩) 1 ps.length (ints ps) := by
  have K0 : Keep Nothing w4 (W3 w4 w2 c d ps) := (((Keep.same Nothing w4).alloc _).alloc _).alloc _
  have s1 : U.Src (W3 w4 w2 c d ps) (some ⟨w2.heap.size, 0, none⟩) 3 2 (opsV [a, b]) := src_keep (U.Src.fresh w2 (ops2 a b) 97 3 2 rfl) (hk.then K0)
  have s2 : U.Src (W3 w4 w2 c d ps) (some ⟨w4.heap.size, 0, none⟩) 3 2 (opsV [c, d]) := src_keep (U.Src.fresh w4 (ops2 c d) 97 3 2 rfl) (((Keep.same Nothing _).alloc _).alloc _)
  have B : Blk (W3 w4 w2 c d ps) (w4.heap.size + 1) 99 #[.slice (some ⟨w2.heap.size, 0, none⟩) 2 2, .slice (some ⟨w4.heap.size, 0, none⟩) 2 2] := by
    have := (Blk.fresh (w4.alloc (.cells (ops2 c d) 97)) 99 #[.slice (some ⟨w2.heap.size, 0, none⟩) 2 2, .slice (some ⟨w4.heap.size, 0, none⟩) 2 2]).alloc (.cells (ints ps).toArray 3)
    rw [size_alloc] at this
    exact this
  have s3 := U.Src.fresh ((w4.alloc (.cells (ops2 c d) 97)).alloc (.cells #[.slice (some ⟨w2.heap.size, 0, none⟩) 2 2, .slice (some ⟨w4.heap.size, 0, none⟩) 2 2] 99)) (ints ps).toArray 3 1 ps.length (by simp [ints])
  rw [size_alloc, size_alloc, List.toList_toArray] at s3
  refine ⟨fun k L hL => ?_, s3⟩
  match k, hL with
  | 0, hL => simp at hL; subst hL; exact ⟨_, _, _, rfl, B.cell 0, s1, by simp⟩
  | 1, hL => simp at hL; subst hL; exact ⟨_, _, _, rfl, B.cell 1, s2, by simp⟩
  | k + 2, hL => simp at hL
theorem awake54 (w : World) : Calls Try.prog 54 #[] w (fun e w' => e = .returned (.bool true) ∧ Keep Nothing w w') := by
  have hu26 := Try.underlying26
  have hu89 := Try.underlying89
  have hu99 := Try.underlying99
  have he := eql103
  go_enter Try.func54, Try.ntmps54
  go_wp2_with fail
  refine (lock58 _ 1).mono ?_
  rintro e wa1 ⟨rfl, hk0⟩
  have Ka1 := Lib.hid hk0
  clear hk0
  go_wp2_with fail
  refine (unlock59 _ 1).mono ?_
  rintro e wa2 ⟨rfl, hk1⟩
  have Ka2 := Lib.hid hk1
  clear hk1
  go_wp2_with fail
  refine (lock58 _ 1).mono ?_
  rintro e wa3 ⟨rfl, hk2⟩
  have Ka3 := Lib.hid hk2
  clear hk2
  go_wp2_with fail
  refine (unlock59 _ 1).mono ?_
  rintro e wa4 ⟨rfl, hk3⟩
  have Ka4 := Lib.hid hk3
  clear hk3
  go_wp2_with fail
  obtain ⟨AA, AP⟩ := ops_two wa2 wa4 (lockO 1) (unlockO 1) (lockO 1) (unlockO 1) [0, 1] (Ka3.out.then Ka4.out)
  refine (run_calls _ _ _ 2 2 2 exA [0, 1] AA (by simp [exA]) AP good_A).mono ?_
  rintro e wa5 ⟨A, ca, rfl, hr, hk⟩
  have KA := Lib.hid (show Keep Nothing w wa5 from (Keep.then (Ka1.out.then (Ka2.out.then ((Keep.same Nothing _).alloc _))) (Ka3.out.then (Ka4.out.then ((((Keep.same Nothing _).alloc _).alloc _).alloc _)))).then hk)
  rw [run_A] at hr
  rw [run_A, run_A2]
  have RA := Lib.hid hr
  clear hr hk AA AP
  go_wp2_with fail
  refine (lock58 _ 1).mono ?_
  rintro e wb1 ⟨rfl, hk0⟩
  have Kb1 := Lib.hid hk0
  clear hk0
  go_wp2_with fail
  refine (lock58 _ 2).mono ?_
  rintro e wb2 ⟨rfl, hk1⟩
  have Kb2 := Lib.hid hk1
  clear hk1
  go_wp2_with fail
  refine (lock58 _ 2).mono ?_
  rintro e wb3 ⟨rfl, hk2⟩
  have Kb3 := Lib.hid hk2
  clear hk2
  go_wp2_with fail
  refine (lock58 _ 1).mono ?_
  rintro e wb4 ⟨rfl, hk3⟩
  have Kb4 := Lib.hid hk3
  clear hk3
  go_wp2_with fail
  obtain ⟨AB, BP⟩ := ops_two wb2 wb4 (lockO 1) (lockO 2) (lockO 2) (lockO 1) [0, 1, 0, 0] (Kb3.out.then Kb4.out)
  refine (run_calls _ _ _ 2 4 4 exB [0, 1, 0, 0] AB (by simp [exB]) BP good_B).mono ?_
  rintro e wb5 ⟨A', cb, rfl, hr, hk⟩
  have KB := Lib.hid (show Keep Nothing wa5 wb5 from (Keep.then (Kb1.out.then (Kb2.out.then ((Keep.same Nothing _).alloc _))) (Kb3.out.then (Kb4.out.then ((((Keep.same Nothing _).alloc _).alloc _).alloc _)))).then hk)
  rw [run_B, run_B2]
  clear hr hk AB BP
  obtain ⟨ad, rfl, hc⟩ := RA.out.src.2 (by simp)
  have c3 : wb5.cell? ⟨ad.block, ad.off + 3, none⟩ = some (.int .i64 1) := KB.out.cell (hc 3 (.int .i64 1) rfl) (fun h => h)
  have c4 : wb5.cell? ⟨ad.block, ad.off + 3 + 1, none⟩ = some (.int .i64 0) := KB.out.cell (hc 4 (.int .i64 0) rfl) (fun h => h)
  have c5 : wb5.cell? ⟨ad.block, ad.off + 3 + 2, none⟩ = some (.int .i64 0) := KB.out.cell (hc 5 (.int .i64 0) rfl) (fun h => h)
  have c6 : wb5.cell? ⟨ad.block, ad.off + 6, none⟩ = some (.int .i64 0) := KB.out.cell (hc 6 (.int .i64 0) rfl) (fun h => h)
  have c7 : wb5.cell? ⟨ad.block, ad.off + 6 + 1, none⟩ = some (.int .i64 1) := KB.out.cell (hc 7 (.int .i64 1) rfl) (fun h => h)
  have c8 : wb5.cell? ⟨ad.block, ad.off + 6 + 2, none⟩ = some (.int .i64 0) := KB.out.cell (hc 8 (.int .i64 0) rfl) (fun h => h)
  have RK := Lib.hid (KA.out.then KB.out)
  clear hc
  go_wp2_with fail
  go_ret
  exact ⟨by simp, RK.out⟩
end Go.Proofs.Ytmohpjkbhpgidaa.A
namespace Go.Proofs.Ytmohpjkbhpgidaa.A
open Go.ChangeShapes Go.WideShapes Go.ChangeAt Go.RowKit Go.Joins Go.Proofs.Ytmohpjkbhpgidaa.U
set_option linter.unusedVariables false
set_option linter.unusedSimpArgs false
set_option maxRecDepth 100000

theorem cells_3 : Try.prog.cellsOf 3 = 1 := by kernel_rfl
theorem cells_97 : Try.prog.cellsOf 97 = 3 := by kernel_rfl
theorem cells_99 : Try.prog.cellsOf 99 = 1 := by kernel_rfl
/-- A slice of numbers, as an argument. -/
theorem open_picks {H : Type} {enc : TypeId × Value → H} {W : World} {base : Nat} {v : Value} {d : DataW H} {p : List MemPlace}
    (hv : Value.okWide Try.prog W .any base 26 v) (h : DataW.Trod enc Try.prog W 0 (fun _ => true) true 26 v d p) (hlt : ∀ x ∈ p, x.block < W.heap.size) :
    ∃ A len cap l, v = .slice A len cap ∧ U.Src W A 1 len (ints l) := by
  obtain ⟨A, len, cap, rfl, hc1, hc2, hel, hd⟩ := R.open_cells Try.underlying26 cells_3 hv h hlt (by omega)
  obtain ⟨l, hl, hp⟩ := R.exists_list (p := fun i (x : Int) => ∃ ad, A = some ad ∧ W.cell? (ad.add i) = some (.int .i64 x)) len (fun i hi => by
    obtain ⟨ad, cs, n, y, rfl, hB, hcl, hat, ht, _⟩ := hel i hi
    obtain ⟨c, rfl⟩ : ∃ c, cs = [c] := by
      match cs, hcl with
      | [c], _ => exact ⟨c, rfl⟩
    obtain ⟨s, e0, _, _⟩ := DataW.trod_int Try.underlying3 ht
    injection e0 with e0 _
    subst e0
    exact ⟨s, ad, rfl, by have := hat 0 (by omega); simpa using this⟩)
  refine ⟨A, len, cap, l, rfl, by rw [ints, List.length_map, hl, Nat.mul_one], fun hn => ?_⟩
  obtain ⟨ad, e, _⟩ := hp 0 _ (List.getElem?_eq_getElem (by omega))
  refine ⟨ad, e, fun j u hu => ?_⟩
  unfold ints at hu
  rw [List.getElem?_map] at hu
  cases hx : l[j]? with
  | none => rw [hx] at hu; cases hu
  | some x =>
    rw [hx] at hu
    injection hu with hu
    subst hu
    obtain ⟨ad', e', hc⟩ := hp j x hx
    rw [e] at e'
    injection e' with e'
    subst e'
    exact hc
/-- .. with a bound. -/
theorem open_picks2 {H : Type} {enc : TypeId × Value → H} {W : World} {base : Nat} {v : Value} {d : DataW H} {p : List MemPlace}
    (hv : Value.okWide Try.prog W .any base 26 v) (h : DataW.Trod enc Try.prog W 0 (fun _ => true) true 26 v d p) (hlt : ∀ x ∈ p, x.block < W.heap.size) :
    ∃ A len cap l, v = .slice A len cap ∧ U.Src W A 1 len (ints l) ∧ len ≤ 9223372036854775807 := by
  obtain ⟨A, len, cap, rfl, hc1, hc2, hel, hd⟩ := R.open_cells Try.underlying26 cells_3 hv h hlt (by omega)
  obtain ⟨l, hl, hp⟩ := R.exists_list (p := fun i (x : Int) => ∃ ad, A = some ad ∧ W.cell? (ad.add i) = some (.int .i64 x)) len (fun i hi => by
    obtain ⟨ad, cs, n, y, rfl, hB, hcl, hat, ht, _⟩ := hel i hi
    obtain ⟨c, rfl⟩ : ∃ c, cs = [c] := by
      match cs, hcl with
      | [c], _ => exact ⟨c, rfl⟩
    obtain ⟨s, e0, _, _⟩ := DataW.trod_int Try.underlying3 ht
    injection e0 with e0 _
    subst e0
    exact ⟨s, ad, rfl, by have := hat 0 (by omega); simpa using this⟩)
  have hm : len ≤ 9223372036854775807 := by unfold maxLen at hc2; omega
  refine ⟨A, len, cap, l, rfl, ⟨by rw [ints, List.length_map, hl, Nat.mul_one], fun hn => ?_⟩, hm⟩
  obtain ⟨ad, e, _⟩ := hp 0 _ (List.getElem?_eq_getElem (by omega))
  refine ⟨ad, e, fun j u hu => ?_⟩
  unfold ints at hu
  rw [List.getElem?_map] at hu
  cases hx : l[j]? with
  | none => rw [hx] at hu; cases hu
  | some x =>
    rw [hx] at hu
    injection hu with hu
    subst hu
    obtain ⟨ad', e', hc⟩ := hp j x hx
    rw [e] at e'
    injection e' with e'
    subst e'
    exact hc
end Go.Proofs.Ytmohpjkbhpgidaa.A
