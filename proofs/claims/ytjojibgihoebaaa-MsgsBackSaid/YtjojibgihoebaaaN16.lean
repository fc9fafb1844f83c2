/-
  The messages' laws.
-/
import Derived.Test.YtjojibgihoebaaaN14
import Derived.Test.YtjojibgihoebaaaW
import Derived.Test.YtjojibgihoebaaaV6
namespace Go.Proofs.Ytjojibgihoebaaa.A
open Go.RowKit Go.Proofs.Ytjojibgihoebaaa.U
set_option linter.unusedVariables false
set_option linter.unusedSimpArgs false
set_option maxRecDepth 100000

theorem cells79 : Try.prog.cellsOf 79 = 20 := by kernel_rfl
theorem cells75 : Try.prog.cellsOf 75 = 1 := by kernel_rfl
theorem cells77 : Try.prog.cellsOf 77 = 5 := by kernel_rfl
theorem cells47 : Try.prog.cellsOf 47 = 1 := by kernel_rfl
theorem cells25 : Try.prog.cellsOf 25 = 1 := by kernel_rfl
theorem sub_at {α : Type} {cs : List α} {o n j : Nat} (hj : j < n) : ((cs.drop o).take n)[j]? = cs[o + j]? := by
  rw [List.getElem?_take, if_pos hj, List.getElem?_drop]
theorem src_argsM {w : World} {B : Nat} {A : Option Addr} {L : List Ent} (h : R.Args w B A L.length 7 Ent.cl L) : U.Src w A 7 L.length (ents L) := by
  refine ⟨ents_len L, fun h0 => ?_⟩
  obtain ⟨ad, e, _, _⟩ := h.2 0 _ (List.getElem?_eq_getElem h0)
  refine ⟨ad, e, fun j u hu => ?_⟩
  have hj : j < L.length * 7 := by rw [← ents_len]; exact (List.getElem?_eq_some_iff.1 hu).1
  have hi : j / 7 < L.length := by omega
  have hx : L[j / 7]? = some (L[j / 7]'hi) := List.getElem?_eq_getElem hi
  have hr : j % 7 < 7 := Nat.mod_lt _ (by omega)
  have hg := ents_get hx (j % 7) hr
  rw [Nat.div_add_mod' j 7, hu] at hg
  obtain ⟨ad', e', _, hc⟩ := h.2 (j / 7) _ hx
  rw [e] at e'
  injection e' with e'
  subst e'
  have := hc (j % 7) u hg.symm
  rwa [Nat.div_add_mod' j 7] at this
theorem msg_cells {H : Type} {enc : TypeId × Value → H} {W : World} {b0 n : Nat} {cs : List Value} {y : DataW H × List MemPlace} (ht : DataW.trod enc Try.prog W b0 (fun _ => true) true n 79 cs = some y) (hlt : ∀ p ∈ y.2, p.block < W.heap.size) (hw : R.Light 79 y.1) :
    ∃ (m : Msg) (A : Option Addr) (c : Nat), cs = (mcs m A c).toList ∧ MIn m ∧ m.es.length ≤ 4611686018427387904 ∧ U.Src W A 7 m.es.length (ents m.es) := by
  obtain ⟨hcl, m, hf⟩ := R.parts Try.underlying79 ht hlt hw
  rw [cells79] at hcl
  obtain ⟨y0, k0, _⟩ := hf 0 3 0 rfl
  obtain ⟨y1, k1, _⟩ := hf 1 3 1 rfl
  obtain ⟨y2, k2, _⟩ := hf 2 3 2 rfl
  obtain ⟨y3, k3, _⟩ := hf 3 3 3 rfl
  obtain ⟨y4, k4, _⟩ := hf 4 3 4 rfl
  obtain ⟨y5, k5, _⟩ := hf 5 3 5 rfl
  obtain ⟨y6, k6, _⟩ := hf 6 3 6 rfl
  obtain ⟨y7, k7, _⟩ := hf 7 47 7 rfl
  obtain ⟨y8, k8, p8, l8⟩ := hf 8 75 8 rfl
  obtain ⟨y9, k9, p9, l9⟩ := hf 9 52 9 rfl
  obtain ⟨y10, k10, p10, l10⟩ := hf 10 77 14 rfl
  obtain ⟨y11, k11, p11, l11⟩ := hf 11 9 19 rfl
  obtain ⟨v0, g0, k0⟩ := R.part1 cells3' (by omega) k0
  obtain ⟨v1, g1, k1⟩ := R.part1 cells3' (by omega) k1
  obtain ⟨v2, g2, k2⟩ := R.part1 cells3' (by omega) k2
  obtain ⟨v3, g3, k3⟩ := R.part1 cells3' (by omega) k3
  obtain ⟨v4, g4, k4⟩ := R.part1 cells3' (by omega) k4
  obtain ⟨v5, g5, k5⟩ := R.part1 cells3' (by omega) k5
  obtain ⟨v6, g6, k6⟩ := R.part1 cells3' (by omega) k6
  obtain ⟨v7, g7, k7⟩ := R.part1 cells47 (by omega) k7
  obtain ⟨v8, g8, k8⟩ := R.part1 cells75 (by omega) k8
  obtain ⟨v11, g19, k11⟩ := R.part1 cells9' (by omega) k11
  obtain ⟨n0, rfl, w0⟩ := R.cell_int Try.underlying3 k0
  obtain ⟨n1, rfl, w1⟩ := R.cell_int Try.underlying3 k1
  obtain ⟨n2, rfl, w2⟩ := R.cell_int Try.underlying3 k2
  obtain ⟨n3, rfl, w3⟩ := R.cell_int Try.underlying3 k3
  obtain ⟨n4, rfl, w4⟩ := R.cell_int Try.underlying3 k4
  obtain ⟨n5, rfl, w5⟩ := R.cell_int Try.underlying3 k5
  obtain ⟨n6, rfl, w6⟩ := R.cell_int Try.underlying3 k6
  obtain ⟨n7, rfl, w7⟩ := R.cell_int Try.underlying47 k7
  obtain ⟨sx, rfl, _⟩ := R.cell_string Try.underlying9 k11 l11
  obtain ⟨A, len, cap, rfl, hc1, hc2, hc3, hel⟩ := R.open_row Try.underlying75 cells54 k8 p8 l8 (by omega)
  obtain ⟨l, hl, hp⟩ := R.exists_list (p := fun i (x : Ent) => EIn64 x ∧ ∃ ad, A = some ad ∧ ad.block < W.heap.size ∧ ∀ j u, x.cl[j]? = some u → W.cell? (ad.add (i * 7 + j)) = some u) len (fun i hi => by
    obtain ⟨ad, cs, n, y, rfl, hB, hcl, hat, ht, hy, hly⟩ := hel i hi
    obtain ⟨x, rfl, wx, _⟩ := ent_cells ht
    exact ⟨x, wx, ad, rfl, hB, fun j u hu => (hat j (by have := (List.getElem?_eq_some_iff.1 hu).1; simpa using this)).trans hu⟩)
  subst hl
  rw [cells52] at k9
  obtain ⟨c, hc, c64, _⟩ := cmd_cells k9
  rw [cells77] at k10
  obtain ⟨hclR, mR, hfR⟩ := R.parts Try.underlying77 k10 p10 l10
  rw [cells77] at hclR
  obtain ⟨z0, q0, _⟩ := hfR 0 3 0 rfl
  obtain ⟨z1, q1, _⟩ := hfR 1 3 1 rfl
  obtain ⟨z2, q2, _⟩ := hfR 2 47 2 rfl
  obtain ⟨z3, q3, _⟩ := hfR 3 25 3 rfl
  obtain ⟨z4, q4, _⟩ := hfR 4 3 4 rfl
  obtain ⟨u0, r0, q0⟩ := R.part1 cells3' (by omega) q0
  obtain ⟨u1, r1, q1⟩ := R.part1 cells3' (by omega) q1
  obtain ⟨u2, r2, q2⟩ := R.part1 cells47 (by omega) q2
  obtain ⟨u3, r3, q3⟩ := R.part1 cells25 (by omega) q3
  obtain ⟨u4, r4, q4⟩ := R.part1 cells3' (by omega) q4
  obtain ⟨e0, rfl, x0⟩ := R.cell_int Try.underlying3 q0
  obtain ⟨e1, rfl, x1⟩ := R.cell_int Try.underlying3 q1
  obtain ⟨e2, rfl, x2⟩ := R.cell_int Try.underlying47 q2
  obtain ⟨e3, rfl, x3⟩ := R.cell_u64 Try.underlying25 q3
  obtain ⟨e4, rfl, x4⟩ := R.cell_int Try.underlying3 q4
  have hAr : R.Args W W.heap.size A l.length 7 Ent.cl l := ⟨rfl, fun i x h => (hp i x h).2⟩
  have hb54 : Try.prog.bytesOf 54 = 64 := by kernel_rfl
  rw [hb54] at hc3
  unfold reachBytes at hc3
  have g9 : cs[9]? = some (.int .i64 c.k) := by rw [← sub_at (o := 9) (n := 5) (j := 0) (by omega), hc]; rfl
  have g10 : cs[10]? = some (.int .i64 c.s) := by rw [← sub_at (o := 9) (n := 5) (j := 1) (by omega), hc]; rfl
  have g11 : cs[11]? = some (.int .i64 c.q) := by rw [← sub_at (o := 9) (n := 5) (j := 2) (by omega), hc]; rfl
  have g12 : cs[12]? = some (.string c.nm) := by rw [← sub_at (o := 9) (n := 5) (j := 3) (by omega), hc]; rfl
  have g13 : cs[13]? = some (.int .i64 c.n) := by rw [← sub_at (o := 9) (n := 5) (j := 4) (by omega), hc]; rfl
  rw [sub_at (by omega)] at r0 r1 r2 r3 r4
  refine ⟨⟨n0, n1, n2, n3, n4, n5, n6, n7, l, c, ⟨e0, e1, e2, e3, e4⟩, sx⟩, A, cap, List.ext_getElem? fun i => ?_, ⟨?_, ?_, x3, c64, ?_⟩, by show l.length ≤ _; omega, src_argsM hAr⟩
  · match i with
    | 0 => exact g0
    | 1 => exact g1
    | 2 => exact g2
    | 3 => exact g3
    | 4 => exact g4
    | 5 => exact g5
    | 6 => exact g6
    | 7 => exact g7
    | 8 => exact g8
    | 9 => exact g9
    | 10 => exact g10
    | 11 => exact g11
    | 12 => exact g12
    | 13 => exact g13
    | 14 => exact r0
    | 15 => exact r1
    | 16 => exact r2
    | 17 => exact r3
    | 18 => exact r4
    | 19 => exact g19
    | i + 20 => rw [List.getElem?_eq_none (by omega), List.getElem?_eq_none (by simp)]
  · intro x hx
    simp only [spansL, List.mem_cons, List.not_mem_nil, or_false] at hx
    rcases hx with rfl | rfl | rfl | rfl | rfl | rfl | rfl | rfl | rfl
    · exact w0
    · exact w1
    · exact w2
    · exact w3
    · exact w4
    · exact w5
    · exact w6
    · exact w7
    · unfold maxLen at hc2
      show I64 (l.length : Int)
      constructor <;> omega
  · intro x hx
    simp only [repliesL, List.mem_cons, List.not_mem_nil, or_false] at hx
    rcases hx with rfl | rfl | rfl | rfl
    · exact x0
    · exact x1
    · exact x2
    · exact x4
  · intro x hx
    obtain ⟨i, hi, e⟩ := List.mem_iff_getElem.1 hx
    exact (hp i x (by rw [List.getElem?_eq_getElem hi, e])).1
open Go.ChangeShapes Go.WideShapes Go.ChangeAt in
theorem open_msg {H : Type} {enc : TypeId × Value → H} {W : World} {base : Nat} {v : Value} {d : DataW H} {p : List MemPlace}
    (hv : Value.okWide Try.prog W .any base 79 v) (h : DataW.Trod enc Try.prog W 0 (fun _ => true) true 79 v d p) (hlt : ∀ x ∈ p, x.block < W.heap.size) (hw : R.Light 79 d) :
    ∃ (m : Msg) (A : Option Addr) (c : Nat), v = mval m A c ∧ MIn m ∧ m.es.length ≤ 4611686018427387904 ∧ U.Src W A 7 m.es.length (ents m.es) := by
  obtain ⟨cs, n, rfl, ht⟩ := R.open_whole Try.underlying79 hv h
  obtain ⟨m, A, c, hx, r⟩ := msg_cells ht hlt hw
  exact ⟨m, A, c, by show Value.agg cs = Value.agg (mcs m A c); congr 1; exact Array.ext' hx, r⟩
end Go.Proofs.Ytjojibgihoebaaa.A
namespace Go.Proofs.Ytjojibgihoebaaa.A
open Go.RowKit Go.Proofs.Ytjojibgihoebaaa.U
set_option linter.unusedVariables false
set_option linter.unusedSimpArgs false
set_option maxRecDepth 100000

set_option maxHeartbeats 6400000 in
theorem mencodes_calls (w : World) (m : Msg) (A : Option Addr) (c : Nat) (hs : U.Src w A 7 m.es.length (ents m.es)) (hm : MIn m) (hl : m.es.length ≤ 4611686018427387904) : Calls Try.prog 12 #[mval m A c] w (fun e w' => e = .returned (.bool true) ∧ Keep Nothing w w') := by
  have hu := Try.underlying79
  have hi79 : (Try.prog.info? 79).map (·.size) = some 20 := by kernel_rfl
  have H0 := Lib.hid (Holds.newBlk (Holds.start w) none_stable 79 (mcs m A c))
  have X0 := Lib.hid (blk_atM H0.out)
  have hb : ∀ w', Below w.heap.size w w' → Keep Nothing w w' := fun w' h => Keep.of_below h _
  have E1 := Lib.hid (fun W (hk : Keep Nothing w W) => menc_calls W m A c (src_kept hs hk) hm)
  have E2 := Lib.hid (fun W (hk : Keep Nothing w W) => mrenc_calls W m A c (src_kept hs hk) hm hl)
  clear hs hm
  go_enter Try.func12, Try.ntmps12
  go_wp2_with (refine wpList_load_row (by rfl) 79 (.tmp 1) (by rfl) w.heap.size (by rfl) 79 (mcs m A c) (0, 0) _ X0.out hu rfl hi79 ?_)
  refine (E1.out _ (hb _ H0.out.below)).mono ?_
  rintro e w1 ⟨rfl, hk1⟩
  have H1 := Lib.hid (H0.out.kept (by repeat (first | exact none_stable | exact wrP_stable _ _ | exact blkP_stable _ _ _ | exact rowP_stable _ _ _ _ _ | apply Stable.star)) hk1)
  have X1 := Lib.hid (blk_atM H1.out)
  clear hk1
  go_wp2_with (refine wpList_load_row (by rfl) 79 (.tmp 1) (by rfl) w.heap.size (by rfl) 79 (mcs m A c) (0, 0) _ X1.out hu rfl hi79 ?_)
  refine (E2.out _ (hb _ H1.out.below)).mono ?_
  rintro e w2 ⟨rfl, hk2⟩
  have H2 := Lib.hid (H1.out.kept (by repeat (first | exact none_stable | exact wrP_stable _ _ | exact blkP_stable _ _ _ | exact rowP_stable _ _ _ _ _ | apply Stable.star)) hk2)
  clear hk2
  go_wp2_with fail
  refine (mawake_calls _).mono ?_
  rintro e w3 ⟨rfl, hk3⟩
  have H3 := Lib.hid (H2.out.kept (by repeat (first | exact none_stable | exact wrP_stable _ _ | exact blkP_stable _ _ _ | exact rowP_stable _ _ _ _ _ | apply Stable.star)) hk3)
  clear hk3
  go_wp2_with fail
  go_ret
  exact ⟨by simp, hb _ H3.out.below⟩
set_option maxHeartbeats 6400000 in
theorem mdecodes_calls (w : World) (s : ByteArray) (hs : s.size ≤ 9223372036854775807) : Calls Try.prog 13 #[.string s] w (fun e w' => e = .returned (.bool true) ∧ Keep Nothing w w') := by
  have hu := Try.underlying79
  have hi79 : (Try.prog.info? 79).map (·.size) = some 20 := by kernel_rfl
  have hb : ∀ w', Below w.heap.size w w' → Keep Nothing w w' := fun w' h => Keep.of_below h _
  have E1 := Lib.hid (mdec_calls w s hs)
  have E2 := Lib.hid (fun W => mrdec_calls W s hs)
  unfold DecPost at E1 E2
  obtain ⟨M, hM⟩ : ∃ M, mR s = M := ⟨_, rfl⟩
  rw [hM] at E1 E2
  have H0 := Lib.hid (Holds.start w)
  clear hM
  go_enter Try.func13, Try.ntmps13
  go_wp2_with fail
  refine E1.out.mono ?_
  rintro e w1 ⟨A, c, rfl, hs1, hl, hk1⟩
  have S1 := Lib.hid hs1
  have Z1 := Lib.hid (Blk.fresh w1 79 zm)
  have H1 := Lib.hid (held_row (Holds.newBlk (H0.out.kept none_stable hk1) none_stable 79 zm) none_stable (mcs M A c))
  have KA := Lib.hid (((Keep.same Nothing w1).alloc (.cells zm 79)).setRow (S := Nothing) (g := w1.heap.size) (.inr (Nat.le_refl _)) (mcs M A c))
  clear hs1 hk1
  go_wp2_with (refine wpList_store_row (by rfl) 79 (.tmp 3) (.tmp 10) (by rfl) w1.heap.size (mcs M A c) (by rfl) (by rfl) 79 zm Z1.out hi79 rfl (mcs_one M A c) ?_)
  refine (E2.out _).mono ?_
  rintro e w2 ⟨A', c', rfl, hs2, _, hk2⟩
  have S2 := Lib.hid hs2
  have Z2 := Lib.hid (Blk.fresh w2 79 zm)
  have H2 := Lib.hid (held_row (Holds.newBlk (H1.out.kept (by repeat (first | exact none_stable | exact wrP_stable _ _ | exact blkP_stable _ _ _ | exact rowP_stable _ _ _ _ _ | apply Stable.star)) hk2) (by repeat (first | exact none_stable | exact wrP_stable _ _ | exact blkP_stable _ _ _ | exact rowP_stable _ _ _ _ _ | apply Stable.star)) 79 zm) (by repeat (first | exact none_stable | exact wrP_stable _ _ | exact blkP_stable _ _ _ | exact rowP_stable _ _ _ _ _ | apply Stable.star)) (mcs M A' c'))
  have B2 := Lib.hid (blk_atM H2.out)
  have B1 := Lib.hid (blk_atM (Holds.second H2.out))
  have KB := Lib.hid (KA.out.then hk2)
  have KC := Lib.hid (((Keep.same Nothing w2).alloc (.cells zm 79)).setRow (S := Nothing) (g := w2.heap.size) (.inr (Nat.le_refl _)) (mcs M A' c'))
  have E3 := Lib.hid (fun (W : World) (h1 : Keep Nothing w1 W) (h2 : Keep Nothing w2 W) => same49 W M M A A' c c' (src_kept S1.out h1) (src_kept S2.out h2) (by omega))
  clear hs2 hk2
  go_wp2_with (first | refine wpList_store_row (by rfl) 79 (.tmp 5) (.tmp 15) (by rfl) w2.heap.size (mcs M A' c') (by rfl) (by rfl) 79 zm Z2.out hi79 rfl (mcs_one M A' c') ?_ | refine wpList_load_row (by rfl) 79 (.tmp 3) (by rfl) w1.heap.size (by rfl) 79 (mcs M A c) (0, 0) _ B1.out hu rfl hi79 ?_ | refine wpList_load_row (by rfl) 79 (.tmp 5) (by rfl) w2.heap.size (by rfl) 79 (mcs M A' c') (0, 0) _ B2.out hu rfl hi79 ?_)
  refine (E3.out _ (KB.out.then KC.out) KC.out).mono ?_
  rintro e w3 ⟨rfl, hk3⟩
  have H3 := Lib.hid (H2.out.kept (by repeat (first | exact none_stable | exact wrP_stable _ _ | exact blkP_stable _ _ _ | exact rowP_stable _ _ _ _ _ | apply Stable.star)) hk3)
  rw [eqM_same]
  clear hk3
  go_wp2_with fail
  refine (mawake_calls _).mono ?_
  rintro e w4 ⟨rfl, hk4⟩
  have H4 := Lib.hid (H3.out.kept (by repeat (first | exact none_stable | exact wrP_stable _ _ | exact blkP_stable _ _ _ | exact rowP_stable _ _ _ _ _ | apply Stable.star)) hk4)
  clear hk4
  go_wp2_with fail
  go_ret
  exact ⟨by simp, hb _ H4.out.below⟩
set_option maxHeartbeats 12800000 in
theorem msames_calls (w : World) (a b : Msg) (A A' : Option Addr) (c c' : Nat) (h : U.Src w A 7 a.es.length (ents a.es)) (h' : U.Src w A' 7 b.es.length (ents b.es)) (hl : a.es.length ≤ 4611686018427387904) :
    Calls Try.prog 15 #[mval a A c, mval b A' c'] w (fun e w' => e = .returned (.bool true) ∧ Keep Nothing w w') := by
  have hu := Try.underlying79
  have hi79 : (Try.prog.info? 79).map (·.size) = some 20 := by kernel_rfl
  have W2 := (((Keep.same Nothing w).alloc (.cells (mcs a A c) 79)).alloc (.cells (mcs b A' c') 79))
  have X := (Blk.fresh w 79 (mcs a A c)).alloc (.cells (mcs b A' c') 79)
  have Y := Blk.fresh (w.alloc (.cells (mcs a A c) 79)) 79 (mcs b A' c')
  rw [show (w.alloc (.cells (mcs a A c) 79)).heap.size = w.heap.size + 1 by simp] at Y
  have KW := Lib.hid W2
  have SX := Lib.hid (show ∀ X, Keep Nothing ((w.alloc (.cells (mcs a A c) 79)).alloc (.cells (mcs b A' c') 79)) X → (fun w' : World => Blk w' w.heap.size 79 (mcs a A c) ∧ Blk w' (w.heap.size + 1) 79 (mcs b A' c')) X from fun X' hk => ⟨X.keep hk (fun h => h), Y.keep hk (fun h => h)⟩)
  have KS := Lib.hid (Keep.same Nothing ((w.alloc (.cells (mcs a A c) 79)).alloc (.cells (mcs b A' c') 79)))
  have KD1 := Lib.hid ((Keep.same Nothing ((w.alloc (.cells (mcs a A c) 79)).alloc (.cells (mcs b A' c') 79))).drew)
  have O1 := Lib.hid (fun (X : World) (hk : Keep Nothing w X) => msame50 X a b A A' c c' (src_kept h hk) (src_kept h' hk) hl)
  have O2 := Lib.hid (fun (X : World) (hk : Keep Nothing w X) => same49 X a b A A' c c' (src_kept h hk) (src_kept h' hk) hl)
  have O3 := Lib.hid (show ∀ (X : World) (hk : Keep Nothing w X), Calls Try.prog 50 #[mval a A c, mval a A c] X (fun e w' => e = .returned (.bool true) ∧ Keep Nothing X w') from fun X hk => by
    have h := msame50 X a a A A c c (src_kept h hk) (src_kept h hk) hl
    rw [eqM_same] at h
    exact h)
  obtain ⟨r, hr⟩ : ∃ r, eqM a b = r := ⟨_, rfl⟩
  rw [hr] at O1 O2
  have sx0 := SX.out _ KS.out
  dsimp only at sx0
  clear W2 X Y h h' hr
  go_enter Try.func15, Try.ntmps15
  go_wp2_with fail
  refine wp_region_noPanic ?_
  refine wp_region_held_drew (S := (fun w' : World => Blk w' w.heap.size 79 (mcs a A c) ∧ Blk w' (w.heap.size + 1) 79 (mcs b A' c'))) (by kernel_rfl) sx0 (fun hHeld => ?_)
  refine wpAnyH_take (i := 0) (oi := _) (v := .agg (mcs a A c)) (by simp only [List.getElem?_toArray, List.getElem?_cons_succ, List.getElem?_cons_zero]; rfl) (by kernel_rfl) (by kernel_rfl) (by kernel_rfl) (fun _ _ _ h => h) (Or.inl ⟨by rfl, ?_⟩) (by assumption) ?_
  · (intro w hSw; (try dsimp only at hSw); exact exec_load79 (.tmp 2) (by rfl) (by rfl) hSw.1 hi79)
  (try simp only [Act.put, List.setIfInBounds_toArray, List.set_cons_zero, List.set_cons_succ])
  refine wpAnyH_take (i := 1) (oi := _) (v := .agg (mcs b A' c')) (by simp only [List.getElem?_toArray, List.getElem?_cons_succ, List.getElem?_cons_zero]; rfl) (by kernel_rfl) (by kernel_rfl) (by kernel_rfl) (fun _ _ _ h => h) (Or.inl ⟨by rfl, ?_⟩) (by assumption) ?_
  · (intro w hSw; (try dsimp only at hSw); exact exec_load79 (.tmp 3) (by rfl) (by rfl) hSw.2 hi79)
  (try simp only [Act.put, List.setIfInBounds_toArray, List.set_cons_zero, List.set_cons_succ])
  refine wpAnyH_take (i := 3) (oi := _) (v := .agg (mcs a A c)) (by simp only [List.getElem?_toArray, List.getElem?_cons_succ, List.getElem?_cons_zero]; rfl) (by kernel_rfl) (by kernel_rfl) (by kernel_rfl) (fun _ _ _ h => h) (Or.inl ⟨by rfl, ?_⟩) (by assumption) ?_
  · (intro w hSw; (try dsimp only at hSw); exact exec_load79 (.tmp 2) (by rfl) (by rfl) hSw.1 hi79)
  (try simp only [Act.put, List.setIfInBounds_toArray, List.set_cons_zero, List.set_cons_succ])
  refine wpAnyH_take (i := 4) (oi := _) (v := .agg (mcs b A' c')) (by simp only [List.getElem?_toArray, List.getElem?_cons_succ, List.getElem?_cons_zero]; rfl) (by kernel_rfl) (by kernel_rfl) (by kernel_rfl) (fun _ _ _ h => h) (Or.inl ⟨by rfl, ?_⟩) (by assumption) ?_
  · (intro w hSw; (try dsimp only at hSw); exact exec_load79 (.tmp 3) (by rfl) (by rfl) hSw.2 hi79)
  (try simp only [Act.put, List.setIfInBounds_toArray, List.set_cons_zero, List.set_cons_succ])
  refine wpAnyH_ready (rs := [2]) (by kernel_rfl) (by simp) ?_
  refine AllReadyH.cons (o := _) (by simp only [List.getElem?_toArray, List.getElem?_cons_succ, List.getElem?_cons_zero]; rfl) (fun K hK => ?_) AllReadyH.nil
  go_simp
  refine (O1.out _ (KW.out.then KD1.out)).mono ?_
  rintro e w5 ⟨rfl, hk5⟩
  have K5 := Lib.hid (KD1.out.then hk5)
  clear hk5
  refine hK.out _ _ (SX.out _ K5.out) (fun hHeld => ?_)
  clear hK K
  (try simp only [Act.put, List.setIfInBounds_toArray, List.set_cons_zero, List.set_cons_succ])
  refine wpAnyH_ready (rs := [5]) (by kernel_rfl) (by simp) ?_
  refine AllReadyH.cons (o := _) (by simp only [List.getElem?_toArray, List.getElem?_cons_succ, List.getElem?_cons_zero]; rfl) (fun K hK => ?_) AllReadyH.nil
  go_simp
  refine (O2.out _ (KW.out.then K5.out)).mono ?_
  rintro e w6 ⟨rfl, hk6⟩
  have K6 := Lib.hid (K5.out.then hk6)
  clear hk6
  refine hK.out _ _ (SX.out _ K6.out) (fun hHeld => ?_)
  clear hK K
  (try simp only [Act.put, List.setIfInBounds_toArray, List.set_cons_zero, List.set_cons_succ])
  refine wpAnyH_take (i := 6) (oi := _) (v := ?_) (by simp only [List.getElem?_toArray, List.getElem?_cons_succ, List.getElem?_cons_zero]; rfl) (by kernel_rfl) (by kernel_rfl) (by kernel_rfl) (fun _ _ _ h => h) (Or.inl ⟨by rfl, ?_⟩) (by assumption) ?_
  rotate_left
  · (intro w hSw; (try dsimp only at hSw); go_simp; (try with_reducible rfl))
  (try simp only [Act.put, List.setIfInBounds_toArray, List.set_cons_zero, List.set_cons_succ])
  refine wpAnyH_take (i := 7) (oi := _) (v := ?_) (by simp only [List.getElem?_toArray, List.getElem?_cons_succ, List.getElem?_cons_zero]; rfl) (by kernel_rfl) (by kernel_rfl) (by kernel_rfl) (fun _ _ _ h => h) (Or.inl ⟨by rfl, ?_⟩) (by assumption) ?_
  rotate_left
  · (intro w hSw; (try dsimp only at hSw); go_simp; (try with_reducible rfl))
  (try simp only [Act.put, List.setIfInBounds_toArray, List.set_cons_zero, List.set_cons_succ])
  refine wpAnyH_take (i := 8) (oi := _) (v := .agg (mcs a A c)) (by simp only [List.getElem?_toArray, List.getElem?_cons_succ, List.getElem?_cons_zero]; rfl) (by kernel_rfl) (by kernel_rfl) (by kernel_rfl) (fun _ _ _ h => h) (Or.inl ⟨by rfl, ?_⟩) (by assumption) ?_
  · (intro w hSw; (try dsimp only at hSw); exact exec_load79 (.tmp 2) (by rfl) (by rfl) hSw.1 hi79)
  (try simp only [Act.put, List.setIfInBounds_toArray, List.set_cons_zero, List.set_cons_succ])
  refine wpAnyH_take (i := 9) (oi := _) (v := .agg (mcs a A c)) (by simp only [List.getElem?_toArray, List.getElem?_cons_succ, List.getElem?_cons_zero]; rfl) (by kernel_rfl) (by kernel_rfl) (by kernel_rfl) (fun _ _ _ h => h) (Or.inl ⟨by rfl, ?_⟩) (by assumption) ?_
  · (intro w hSw; (try dsimp only at hSw); exact exec_load79 (.tmp 2) (by rfl) (by rfl) hSw.1 hi79)
  (try simp only [Act.put, List.setIfInBounds_toArray, List.set_cons_zero, List.set_cons_succ])
  refine wpAnyH_ready (rs := [10]) (by kernel_rfl) (by simp) ?_
  refine AllReadyH.cons (o := _) (by simp only [List.getElem?_toArray, List.getElem?_cons_succ, List.getElem?_cons_zero]; rfl) (fun K hK => ?_) AllReadyH.nil
  go_simp
  refine (O3.out _ (KW.out.then K6.out)).mono ?_
  rintro e w7 ⟨rfl, hk7⟩
  have K7 := Lib.hid (K6.out.then hk7)
  clear hk7
  refine hK.out _ _ (SX.out _ K7.out) (fun hHeld => ?_)
  clear hK K
  (try simp only [Act.put, List.setIfInBounds_toArray, List.set_cons_zero, List.set_cons_succ])
  refine wpAnyH_take (i := 11) (oi := _) (v := ?_) (by simp only [List.getElem?_toArray, List.getElem?_cons_succ, List.getElem?_cons_zero]; rfl) (by kernel_rfl) (by kernel_rfl) (by kernel_rfl) (fun _ _ _ h => h) (Or.inl ⟨by rfl, ?_⟩) (by assumption) ?_
  rotate_left
  · (intro w hSw; (try dsimp only at hSw); go_simp; (try with_reducible rfl))
  (try simp only [Act.put, List.setIfInBounds_toArray, List.set_cons_zero, List.set_cons_succ])
  refine wpAnyH_take (i := 12) (oi := _) (v := ?_) (by simp only [List.getElem?_toArray, List.getElem?_cons_succ, List.getElem?_cons_zero]; rfl) (by kernel_rfl) (by kernel_rfl) (by kernel_rfl) (fun _ _ _ h => h) (Or.inl ⟨by rfl, ?_⟩) (by assumption) ?_
  rotate_left
  · (intro w hSw; (try dsimp only at hSw); go_simp; (try with_reducible rfl))
  (try simp only [Act.put, List.setIfInBounds_toArray, List.set_cons_zero, List.set_cons_succ])
  refine wpAnyH_ready (rs := [13]) (by kernel_rfl) (by simp) ?_
  refine AllReadyH.cons (o := _) (by simp only [List.getElem?_toArray, List.getElem?_cons_succ, List.getElem?_cons_zero]; rfl) (fun K hK => ?_) AllReadyH.nil
  go_simp
  refine (mawake_calls _).mono ?_
  rintro e w8 ⟨rfl, hk8⟩
  have K8 := Lib.hid (K7.out.then hk8)
  clear hk8
  refine hK.out _ _ (SX.out _ K8.out) (fun hHeld => ?_)
  clear hK K
  (try simp only [Act.put, List.setIfInBounds_toArray, List.set_cons_zero, List.set_cons_succ])
  refine wpAnyH_take (i := 14) (oi := _) (v := ?_) (by simp only [List.getElem?_toArray, List.getElem?_cons_succ, List.getElem?_cons_zero]; rfl) (by kernel_rfl) (by kernel_rfl) (by kernel_rfl) (fun _ _ _ h => h) (Or.inl ⟨by rfl, ?_⟩) (by assumption) ?_
  rotate_left
  · (intro w hSw; (try dsimp only at hSw); go_simp; (try with_reducible rfl))
  (try simp only [Act.put, List.setIfInBounds_toArray, List.set_cons_zero, List.set_cons_succ])
  refine wpAnyH_take (i := 15) (oi := _) (v := ?_) (by simp only [List.getElem?_toArray, List.getElem?_cons_succ, List.getElem?_cons_zero]; rfl) (by kernel_rfl) (by kernel_rfl) (by kernel_rfl) (fun _ _ _ h => h) (Or.inl ⟨by rfl, ?_⟩) (by assumption) ?_
  rotate_left
  · (intro w hSw; (try dsimp only at hSw); go_simp; (try with_reducible rfl))
  (try simp only [Act.put, List.setIfInBounds_toArray, List.set_cons_zero, List.set_cons_succ])
  refine wpAnyH_done (by kernel_rfl) ?_ _
  refine NoPanic.normal ?_
  go_wp2_with fail
  go_ret
  exact ⟨by simp, KW.out.then K8.out⟩
open Go.ChangeShapes Go.WideShapes Go.ChangeAt in
theorem mencodes_law : R.Law 12 Try.f12 R.any := by
  intro H enc W base args ds p hval hA hsz _ hlt
  rw [Try.params12] at hA hval hsz
  obtain ⟨v0, vs0, d0, ds0, p0, q0, hargs, rfl, rfl, h0, r0⟩ := trodAll_cons hA
  obtain ⟨rfl, rfl, rfl⟩ := trodAll_nil r0
  obtain rfl : args = #[v0] := by cases args; simp_all
  obtain ⟨m, A, c, rfl, e1, e2, e3⟩ := open_msg (hval 0 79 v0 rfl rfl) h0 (fun q hq => hlt q (List.mem_append_left _ hq)) (R.light_of (j := 0) hsz rfl rfl)
  exact (mencodes_calls W m A c e3 e1 e2).mono fun e w' h => ⟨h.1, h.2.below (Nat.le_refl _) (fun _ h => h.elim)⟩
open Go.ChangeShapes Go.WideShapes Go.ChangeAt in
theorem mdecodes_law : R.Law 13 Try.f13 R.any := by
  intro H enc W base args ds p hval hA hsz _ hlt
  rw [Try.params13] at hA hval
  obtain ⟨v0, vs0, d0, ds0, p0, q0, hargs, rfl, rfl, h0, r0⟩ := trodAll_cons hA
  obtain ⟨rfl, rfl, rfl⟩ := trodAll_nil r0
  obtain rfl : args = #[v0] := by cases args; simp_all
  obtain ⟨s, rfl⟩ := okWide_string Try.underlying9 (hval 0 9 v0 rfl rfl)
  exact (mdecodes_calls W s (string_size h0)).mono fun e w' h => ⟨h.1, h.2.below (Nat.le_refl _) (fun _ h => h.elim)⟩
open Go.ChangeShapes Go.WideShapes Go.ChangeAt in
theorem msames_law : R.Law 15 Try.f15 R.any := by
  intro H enc W base args ds p hval hA hsz _ hlt
  rw [Try.params15] at hA hval hsz
  obtain ⟨v0, vs0, d0, ds0, p0, q0, hargs, rfl, rfl, h0, r0⟩ := trodAll_cons hA
  obtain ⟨v1, vs1, d1, ds1, p1, q1, rfl, rfl, rfl, h1, r1⟩ := trodAll_cons r0
  obtain ⟨rfl, rfl, rfl⟩ := trodAll_nil r1
  obtain rfl : args = #[v0, v1] := by cases args; simp_all
  obtain ⟨m, A, c, rfl, e1, e2, e3⟩ := open_msg (hval 0 79 v0 rfl rfl) h0 (fun q hq => hlt q (List.mem_append_left _ hq)) (R.light_of (j := 0) hsz rfl rfl)
  obtain ⟨m', A', c', rfl, e1', e2', e3'⟩ := open_msg (hval 1 79 v1 rfl rfl) h1 (fun q hq => hlt q (List.mem_append_right _ (List.mem_append_left _ hq))) (R.light_of (j := 1) hsz rfl rfl)
  exact (msames_calls W m m' A A' c c' e3 e3' e2).mono fun e w' h => ⟨h.1, h.2.below (Nat.le_refl _) (fun _ h => h.elim)⟩
end Go.Proofs.Ytjojibgihoebaaa.A
