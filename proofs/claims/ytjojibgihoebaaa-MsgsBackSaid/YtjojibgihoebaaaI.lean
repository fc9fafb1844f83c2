/-
  CodecOnly.
-/
import Derived.Test.YtjojibgihoebaaaG
namespace Go.Proofs.Ytjojibgihoebaaa.A
open Go.RowKit Go.Proofs.Ytjojibgihoebaaa.U
set_option linter.unusedVariables false
set_option linter.unusedSimpArgs false

theorem toList_iff (s t : ByteArray) : (s.toList == t.toList) = decide (s = t) := by
  rw [ByteArray.toList_eq, ByteArray.toList_eq]
  by_cases h : s = t
  · subst h; simp
  · rw [decide_eq_false h, beq_eq_false_iff_ne]
    intro e
    exact h (ByteArray.ext (Array.ext' e))
theorem full_ (s : ByteArray) : s.extract 0 s.size = s := by
  apply ByteArray.ext
  apply Array.ext'
  rw [ByteArray.data_extract, Array.toList_extract]
  show List.take (s.size - 0) (List.drop 0 _) = _
  rw [List.drop_zero, Nat.sub_zero, ← size_list s]
  exact List.take_length
theorem begins_plain (i j : Nat) (hi : i < 18446744073709551616) (hj : j < 18446744073709551616) (n : Nat) (hn : n = min (u64S i).size (u64S j).size) :
    (((u64S i).extract 0 n).toList == ((u64S j).extract 0 n).toList) = decide (i = j) := by
  rw [toList_iff]
  by_cases h : i = j
  · subst h; simp
  · rw [decide_eq_false h, decide_eq_false]
    intro e
    have e1 : (u64L i).take n = (u64L j).take n := by
      have e2 := congrArg (fun s : ByteArray => s.data.toList) e
      simpa [u64S, ofL, ByteArray.data_extract] using e2
    have hli : (u64S i).size = (u64L i).length := rfl
    have hlj : (u64S j).size = (u64L j).length := rfl
    rcases Nat.le_total (u64L i).length (u64L j).length with hle | hle
    · have hnn : n = (u64L i).length := by omega
      rw [hnn, List.take_length] at e1
      exact h (u64L_begins hi hj ((u64L j).drop (u64L i).length) ((List.take_append_drop (u64L i).length (u64L j)).symm.trans (congrArg (· ++ (u64L j).drop (u64L i).length) e1.symm)))
    · have hnn : n = (u64L j).length := by omega
      rw [hnn, List.take_length] at e1
      exact h (u64L_begins hj hi ((u64L i).drop (u64L j).length) ((List.take_append_drop (u64L j).length (u64L i)).symm.trans (congrArg (· ++ (u64L i).drop (u64L j).length) e1))).symm
set_option maxRecDepth 100000 in
theorem begins_calls (w : World) (i j : Nat) (hi : i < 18446744073709551616) (hj : j < 18446744073709551616) :
    Calls Try.prog 23 #[.string (u64S i), .string (u64S j)] w (Pure w (.bool (decide (i = j)))) := by
  have h1 := u64S_size i hi
  have h2 := u64S_size j hj
  have BP := Lib.hid (begins_plain i j hi hj)
  generalize u64S i = s at *
  generalize u64S j = t at *
  rcases (show (s.size : Int) ≤ t.size ∨ (t.size : Int) < s.size by omega) with h | h
  · have hb := BP.out s.size (by omega)
    rw [full_ s] at hb
    have z0 : (0 : Int) ≤ s.size := by omega
    generalize decide (i = j) = r at *
    go_enter Try.func23, Try.ntmps23
    go_wp2_with fail
    go_quiet (fail)
    go_wp2_with fail
    go_ret
    exact ⟨rfl, (Drew.same _).more _⟩
  · have hb := BP.out t.size (by omega)
    rw [full_ t] at hb
    have z0 : (0 : Int) ≤ t.size := by omega
    have z1 : (t.size : Int) ≤ s.size := by omega
    have z2 : ¬ (s.size : Int) ≤ t.size := by omega
    generalize decide (i = j) = r at *
    go_enter Try.func23, Try.ntmps23
    go_wp2_with fail
    go_quiet (fail)
    go_wp2_with fail
    go_ret
    exact ⟨rfl, (Drew.same _).more _⟩
theorem zig_inj (a b : Int) : decide (zig a = zig b) = decide (a = b) := by
  by_cases h : a = b
  · subst h; simp
  · rw [decide_eq_false h, decide_eq_false]
    intro e
    apply h
    rw [← unzig_zig a, ← unzig_zig b, e]
set_option maxRecDepth 100000 in
set_option maxHeartbeats 1600000 in
theorem only_calls (w : World) (a b : Int) (u v : Nat) (ha : I64 a) (hb : I64 b) (hu : u < 18446744073709551616) (hv : v < 18446744073709551616) :
    Calls Try.prog 4 #[.agg #[.int .i64 a, .int .i64 b], .agg #[.int .u64 u, .int .u64 v]] w (fun e w' => e = .returned (.bool true) ∧ Keep Nothing w w') := by
  have hu35 := Try.underlying35
  have hu36 := Try.underlying36
  have hza := zig_lt ha.1 ha.2
  have hzb := zig_lt hb.1 hb.2
  have la := u64L_len10 _ hza
  have lb := u64L_len10 _ hzb
  have lu := u64L_len10 _ hu
  have lv := u64L_len10 _ hv
  have SN := Lib.hid none_stable
  have SW := Lib.hid wrP_stable
  have hge : decide (a = b) = (a == b) := rfl
  have huv : ((u : Int) == (v : Int)) = decide (u = v) := by
    by_cases h : u = v
    · subst h; simp
    · rw [decide_eq_false h, beq_eq_false_iff_ne]; omega
  have BB := Lib.hid (fun w => begins_calls w (zig a) (zig b) hza hzb)
  have BU := Lib.hid (fun w => begins_calls w u v hu hv)
  rw [zig_inj] at BB
  go_enter Try.func4, Try.ntmps4
  go_wp2_with fail
  go_quiet (fail)
  have HS := Lib.hid (Holds.start w)
  have HS1 := Lib.hid ((HS.out.alloc none_stable (.cells #[.int .i64 a, .int .i64 b] 35)).alloc none_stable (.cells #[.int .u64 u, .int .u64 v] 36))
  have HS2 := Lib.hid (HS1.out.drewN none_stable nq)
  clear HS HS1
  generalize (((w.alloc (Obj.cells #[Value.int IntKind.i64 a, Value.int IntKind.i64 b] 35)).alloc (Obj.cells #[Value.int IntKind.u64 u, Value.int IntKind.u64 v] 36)).drewN nq) = w0 at *
  go_wp2_with fail
  refine (new_calls _).mono ?_
  rintro e w1 ⟨rfl, hw1⟩
  have H1 := Lib.hid (show Holds w.heap.size w w1 (star (wrP w0.heap.size []) none_) by rw [hw1]; exact Holds.newWr HS2.out none_stable)
  clear hw1
  go_wp2_with fail
  refine (new_calls _).mono ?_
  rintro e w2 ⟨rfl, hw2⟩
  have H2 := Lib.hid (show Holds w.heap.size w w2 (star (wrP w1.heap.size []) (star (wrP w0.heap.size []) none_)) by rw [hw2]; exact Holds.newWr H1.out ((SW.out _ _).star SN.out))
  clear hw2
  go_wp2_with fail
  refine (new_calls _).mono ?_
  rintro e w3 ⟨rfl, hw3⟩
  have H3 := Lib.hid (show Holds w.heap.size w w3 (star (wrP w2.heap.size []) _) by rw [hw3]; exact Holds.newWr H2.out ((SW.out _ _).star ((SW.out _ _).star SN.out)))
  clear hw3
  go_wp2_with fail
  refine (new_calls _).mono ?_
  rintro e w4 ⟨rfl, hw4⟩
  have H4 := Lib.hid (show Holds w.heap.size w w4 (star (wrP w3.heap.size []) _) by rw [hw4]; exact Holds.newWr H3.out ((SW.out _ _).star ((SW.out _ _).star ((SW.out _ _).star SN.out))))
  clear hw4 H1 H2 H3
  go_wp2_with fail
  generalize hg0 : w0.heap.size = b0 at *
  generalize hg1 : w1.heap.size = b1 at *
  generalize hg2 : w2.heap.size = b2 at *
  generalize hg3 : w3.heap.size = b3 at *
  clear hg0 hg1 hg2 hg3
  refine (x_int (Holds.assoc (Holds.assoc H4.out.turn.turn).turn) (SN.out.star (((SW.out _ _).star (SW.out _ _)).star (SW.out _ _))) a ha (by simp)).mono ?_
  rintro e w5 ⟨rfl, h5⟩
  have H5 := Lib.hid (Holds.assoc h5.turn.turn).turn
  clear h5
  go_wp2_with fail
  refine (x_int H5.out (((SW.out _ _).star SN.out).star ((SW.out _ _).star (SW.out _ _))) b hb (by simp)).mono ?_
  rintro e w6 ⟨rfl, h6⟩
  have H6 := Lib.hid (Holds.assoc h6.turn.turn).turn
  clear h6
  go_wp2_with fail
  refine (x_u64 H6.out (((SW.out _ _).star ((SW.out _ _).star SN.out)).star (SW.out _ _)) u hu (by simp)).mono ?_
  rintro e w7 ⟨rfl, h7⟩
  have H7 := Lib.hid (Holds.assoc h7.turn.swap)
  clear h7
  go_wp2_with fail
  refine (x_u64 H7.out ((SW.out _ _).star ((SW.out _ _).star ((SW.out _ _).star SN.out))) v hv (by simp)).mono ?_
  rintro e w8 ⟨rfl, h8⟩
  have H8 := Lib.hid h8
  clear h8
  have RZ := Lib.hid (x_string H8.out (by simp; omega))
  have RY := Lib.hid (x_string H8.out.drop (by simp; omega))
  have RX := Lib.hid (x_string H8.out.drop.drop (by simp; omega))
  have RW := Lib.hid (x_string H8.out.drop.drop.drop (by simp; omega))
  rw [List.nil_append] at RZ RY RX RW
  have hbb : (decide (a = b) == (a == b)) = true := by rw [hge]; simp
  go_wp2_with fail
  refine RW.out.mono ?_
  rintro e w' ⟨rfl, rfl⟩
  go_wp2_with fail
  refine RX.out.mono ?_
  rintro e w' ⟨rfl, rfl⟩
  go_wp2_with fail
  refine (BB.out _).mono ?_
  rintro e w' ⟨rfl, ⟨n1, rfl⟩⟩
  go_wp2_with fail
  have RY2 := Lib.hid (x_string (H8.out.drewN ((SW.out _ _).star ((SW.out _ _).star ((SW.out _ _).star ((SW.out _ _).star SN.out)))) n1).drop (by simp; omega))
  have RZ2 := Lib.hid (x_string (H8.out.drewN ((SW.out _ _).star ((SW.out _ _).star ((SW.out _ _).star ((SW.out _ _).star SN.out)))) n1) (by simp; omega))
  rw [List.nil_append] at RY2 RZ2
  refine RY2.out.mono ?_
  rintro e w' ⟨rfl, rfl⟩
  go_wp2_with fail
  refine RZ2.out.mono ?_
  rintro e w' ⟨rfl, rfl⟩
  go_wp2_with fail
  refine (BU.out _).mono ?_
  rintro e w' ⟨rfl, ⟨n2, rfl⟩⟩
  go_wp2_with fail
  refine (awake_calls _).mono ?_
  rintro e w9 ⟨rfl, hk9⟩
  have K9 := Lib.hid hk9
  clear hk9
  go_wp2_with fail
  go_ret
  exact ⟨rfl, ((Keep.of_below H8.out.below _).drewN _).then K9.out⟩
theorem cells3_ : Try.prog.cellsOf 3 = 1 := by kernel_rfl
set_option maxRecDepth 100000 in
open Go.ChangeShapes Go.WideShapes Go.ChangeAt in
theorem open_ints {H : Type} {enc : TypeId × Value → H} {W : World} {base : Nat} {v : Value} {d : DataW H} {p : List MemPlace}
    (hv : Value.okWide Try.prog W .any base 35 v) (h : DataW.Trod enc Try.prog W 0 (fun _ => true) true 35 v d p) : ∃ a b : Int, v = .agg #[.int .i64 a, .int .i64 b] ∧ I64 a ∧ I64 b := by
  have e39 : Try.prog.cellsOf 35 = 2 := by kernel_rfl
  simp only [Value.okWide, Try.underlying35] at hv
  obtain ⟨cs, rfl, hsz, _⟩ := hv
  obtain ⟨c0, c1, rfl⟩ := Go.Joins.array2 (hsz.trans e39)
  obtain ⟨fuel, hf⟩ := h
  obtain ⟨xs, m, _, _, _, hl, hel⟩ := DataW.trod_array Try.underlying35 hf
  have h0 := hel 0 (by omega)
  have h1 := hel 1 (by omega)
  rw [cells3_, List.getElem?_eq_getElem (by omega)] at h0 h1
  simp [Value.cells] at h0 h1
  obtain ⟨a, e0, _, w0⟩ := DataW.trod_int Try.underlying3 h0
  obtain ⟨b, e1, _, w1⟩ := DataW.trod_int Try.underlying3 h1
  simp at e0 e1
  exact ⟨a, b, by rw [e0, e1], wf_i64 w0, wf_i64 w1⟩
set_option maxRecDepth 100000 in
open Go.ChangeShapes Go.WideShapes Go.ChangeAt in
theorem open_nats {H : Type} {enc : TypeId × Value → H} {W : World} {base : Nat} {v : Value} {d : DataW H} {p : List MemPlace}
    (hv : Value.okWide Try.prog W .any base 36 v) (h : DataW.Trod enc Try.prog W 0 (fun _ => true) true 36 v d p) : ∃ a b : Nat, v = .agg #[.int .u64 a, .int .u64 b] ∧ a < 18446744073709551616 ∧ b < 18446744073709551616 := by
  have e39 : Try.prog.cellsOf 36 = 2 := by kernel_rfl
  have e25 : Try.prog.cellsOf 25 = 1 := by kernel_rfl
  simp only [Value.okWide, Try.underlying36] at hv
  obtain ⟨cs, rfl, hsz, _⟩ := hv
  obtain ⟨c0, c1, rfl⟩ := Go.Joins.array2 (hsz.trans e39)
  obtain ⟨fuel, hf⟩ := h
  obtain ⟨xs, m, _, _, _, hl, hel⟩ := DataW.trod_array Try.underlying36 hf
  have h0 := hel 0 (by omega)
  have h1 := hel 1 (by omega)
  rw [e25, List.getElem?_eq_getElem (by omega)] at h0 h1
  simp [Value.cells] at h0 h1
  obtain ⟨a, e0, _, w0⟩ := DataW.trod_int Try.underlying25 h0
  obtain ⟨b, e1, _, w1⟩ := DataW.trod_int Try.underlying25 h1
  obtain ⟨a', rfl, ha⟩ := wf_u64 w0
  obtain ⟨b', rfl, hb⟩ := wf_u64 w1
  simp at e0 e1
  exact ⟨a', b', by rw [e0, e1], ha, hb⟩
set_option maxRecDepth 100000 in
open Go.ChangeShapes Go.WideShapes Go.ChangeAt in
theorem only_law : R.Law 4 Try.f4 R.any := by
  intro H enc W base args ds p hval hA hsz _ hlt
  rw [Try.params4] at hA hval
  obtain ⟨v0, vs0, d0, ds0, p0, q0, hargs, rfl, rfl, h0, r0⟩ := trodAll_cons hA
  obtain ⟨v1, vs1, d1, ds1, p1, q1, rfl, rfl, rfl, h1, r1⟩ := trodAll_cons r0
  obtain ⟨rfl, rfl, rfl⟩ := trodAll_nil r1
  obtain rfl : args = #[v0, v1] := by cases args; simp_all
  obtain ⟨a, b, rfl, ha, hb⟩ := open_ints (hval 0 35 v0 rfl rfl) h0
  obtain ⟨u, v, rfl, hu, hv⟩ := open_nats (hval 1 36 v1 rfl rfl) h1
  exact (only_calls W a b u v ha hb hu hv).mono fun e w' h => ⟨h.1, h.2.below (Nat.le_refl _) (fun _ h => h.elim)⟩
end Go.Proofs.Ytjojibgihoebaaa.A
