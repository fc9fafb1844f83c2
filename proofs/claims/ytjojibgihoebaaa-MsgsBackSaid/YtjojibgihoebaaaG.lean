/-
  Things apart; awake; CodecNone.
-/
import Derived.Test.YtjojibgihoebaaaF
import Derived.Test.YtjojibgihoebaaaR
namespace Go.Proofs.Ytjojibgihoebaaa.A
open Go.RowKit Go.Proofs.Ytjojibgihoebaaa.U
set_option linter.unusedVariables false
set_option linter.unusedSimpArgs false

theorem Holds.assoc {B : Nat} {w0 w : World} {P Q R : SP} (h : Holds B w0 w (star (star P Q) R)) : Holds B w0 w (star P (star Q R)) :=
  h.imp fun F ⟨F1, F2, ⟨F3, F4, h5, h6, h7, h8⟩, h2, h3, h4⟩ =>
    ⟨F3, fun k => F4 k ∨ F2 k, h5, ⟨F4, F2, h6, h2, fun k hk hk' => h3 k ((h8 k).2 (.inr hk)) hk', fun _ => Iff.rfl⟩,
      fun k hk hk' => by rcases hk' with h | h; exact h7 k hk h; exact h3 k ((h8 k).2 (.inl hk)) h,
      fun k => by rw [h4, h8]; exact or_assoc⟩
theorem turns_step {w : World} {b t : Nat} {v : Value} {cs' : Array Value} {f : FuncId} {args : Array Value} {F : Nat → Prop} (hF : ∀ k, F k ↔ k = b) (c : Calls Try.prog f args w (Turns w b t v cs')) :
    Calls Try.prog f args w fun e w' => e = .returned v ∧ Step w F (blkP b t cs') w' :=
  c.mono fun e w' ⟨he, hb, hk⟩ => ⟨he, F, ⟨hb, hF⟩, hk.wider (fun k h => .inl ((hF k).2 h)), fun k h => .inl h⟩
section
variable {B : Nat} {w0 w : World} {Q : SP} {b : Nat} {L : List UInt8} {x : Rd}
theorem Holds.newWr (h : Holds B w0 w Q) (hQ : Stable Q) : Holds B w0 (w.alloc (.cells #[.slice none 0 0] 91)) (star (wrP w.heap.size []) Q) :=
  h.more hQ (new_wr w) ((Keep.same _ _).alloc _) (fun k hk => by omega)
theorem x_u64 (h : Holds B w0 w (star (wrP b L) Q)) (hQ : Stable Q) (n : Nat) (hn : n < 18446744073709551616) (hL : L.length ≤ 140737488355000) :
    Calls Try.prog 18 #[.pointer (some ⟨b, 0, none⟩), .int .u64 n] w (fun e w' => unit_ e ∧ Holds B w0 w' (star (wrP b (L ++ u64L n)) Q)) :=
  h.on_left hQ fun F hF => u64_calls w b L F n hF hn hL
theorem x_int (h : Holds B w0 w (star (wrP b L) Q)) (hQ : Stable Q) (n : Int) (hn : I64 n) (hL : L.length ≤ 140737488355000) :
    Calls Try.prog 17 #[.pointer (some ⟨b, 0, none⟩), .int .i64 n] w (fun e w' => unit_ e ∧ Holds B w0 w' (star (wrP b (L ++ u64L (zig n))) Q)) :=
  h.on_left hQ fun F hF => int_calls w b L F n hF hn hL
theorem x_text (h : Holds B w0 w (star (wrP b L) Q)) (hQ : Stable Q) (s : ByteArray) (hL : L.length + s.size ≤ 140737488355000) :
    Calls Try.prog 19 #[.pointer (some ⟨b, 0, none⟩), .string s] w (fun e w' => unit_ e ∧ Holds B w0 w' (star (wrP b (L ++ u64L s.size ++ s.data.toList)) Q)) :=
  h.on_left hQ fun F hF => text_calls w b L F s hF hL
theorem x_string (h : Holds B w0 w (star (wrP b L) Q)) (hL : L.length ≤ 140737488355328) :
    Calls Try.prog 21 #[.pointer (some ⟨b, 0, none⟩)] w (fun e w' => e = .returned (.string (ofL L)) ∧ w' = w) := by
  obtain ⟨F, hF⟩ := h.left
  exact string_calls w b L F hF hL
theorem x_rdu (h : Holds B w0 w (star (blkP b 97 x.cs) Q)) (hQ : Stable Q) :
    Calls Try.prog 27 #[.pointer (some ⟨b, 0, none⟩)] w (fun e w' => e = .returned (.int .u64 (uV x)) ∧ Holds B w0 w' (star (blkP b 97 (uN x).cs) Q)) :=
  h.on_left hQ fun F hF => turns_step hF.2 (rdu_calls w b x hF.1)
theorem x_rdi (h : Holds B w0 w (star (blkP b 97 x.cs) Q)) (hQ : Stable Q) :
    Calls Try.prog 25 #[.pointer (some ⟨b, 0, none⟩)] w (fun e w' => e = .returned (.int .i64 (iV x)) ∧ Holds B w0 w' (star (blkP b 97 (uN x).cs) Q)) :=
  h.on_left hQ fun F hF => turns_step hF.2 (rdi_calls w b x hF.1)
theorem x_rdt (h : Holds B w0 w (star (blkP b 97 x.cs) Q)) (hQ : Stable Q) (hs : x.s.size ≤ 9223372036854775807) :
    Calls Try.prog 29 #[.pointer (some ⟨b, 0, none⟩)] w (fun e w' => e = .returned (.string (tV x)) ∧ Holds B w0 w' (star (blkP b 97 (tN x).cs) Q)) :=
  h.on_left hQ fun F hF => turns_step hF.2 (rdt_calls w b x hF.1 hs)
theorem x_rdd (h : Holds B w0 w (star (blkP b 97 x.cs) Q)) :
    Calls Try.prog 31 #[.pointer (some ⟨b, 0, none⟩)] w (fun e w' => e = .returned (.int .i64 (dV x)) ∧ w' = w) := by
  obtain ⟨F, hF⟩ := h.left
  exact rdd_calls w b x hF.1
end
def sR : Rd := ⟨⟨#[128, 0]⟩, false⟩
def sQ : Rd := ⟨⟨#[2, 97]⟩, false⟩
theorem kR : dV (uN sR) = 2 := by
  have h : rdU sR.s 0 0 = none := by
    rw [rdU_go (by decide) (by decide) (by decide)]
    exact rdU_bad (by decide)
  rw [uN_none rfl h]
  rfl
theorem kQ : dV (tN sQ) = 2 := by
  have h : rdU sQ.s 0 0 = some (2, 1) := by
    rw [rdU_end (by decide) (by decide) (by decide)]
    decide
  have h1 := uN_some (x := sQ) rfl h
  have h2 := uV_some (x := sQ) rfl h
  rw [(t_big (x := sQ) (by rw [h1]; rfl) (by rw [h1, h2]; decide)).2]
  rfl
def bAB : ByteArray := ⟨#[97, 98]⟩
theorem kW : ofL ([] ++ u64L (zig 0) ++ u64L (zig (-1)) ++ u64L (zig 64) ++ u64L bAB.size ++ bAB.data.toList ++ u64L 300) = ⟨#[0, 1, 128, 1, 2, 97, 98, 172, 2]⟩ := by
  have e1 : u64L (zig 0) = [0] := u64L_small (by decide)
  have e2 : u64L (zig (-1)) = [1] := u64L_small (by decide)
  have e3 : u64L (zig 64) = [128, 1] := by
    rw [u64L_big (by decide), u64L_small (by decide)]; rfl
  have e4 : u64L bAB.size = [2] := u64L_small (by decide)
  have e5 : u64L 300 = [172, 2] := by
    rw [u64L_big (by decide), u64L_small (by decide)]; rfl
  rw [e1, e2, e3, e4, e5]
  rfl
set_option maxRecDepth 100000 in
set_option maxHeartbeats 800000 in
theorem awake_calls (w : World) : Calls Try.prog 22 #[] w (fun e w' => e = .returned (.bool true) ∧ Keep Nothing w w') := by
  have hb : ∀ w', Below w.heap.size w w' → Keep Nothing w w' := fun w' h => Keep.of_below h _
  have H0 := Lib.hid (Holds.start w)
  have hl0 := u64L_len10 (zig 0) (by decide)
  have hl1 := u64L_len10 (zig (-1)) (by decide)
  have hl2 := u64L_len10 (zig 64) (by decide)
  have hl3 := u64L_len10 2 (by decide)
  have hl4 := u64L_len10 300 (by decide)
  have KW := Lib.hid kW
  have KR := Lib.hid kR
  have KQ := Lib.hid kQ
  go_enter Try.func22, Try.ntmps22
  go_wp2_with fail
  refine (new_calls _).mono ?_
  rintro e w1 ⟨rfl, hw1⟩
  have H1 := Lib.hid (show Holds w.heap.size w w1 _ by rw [hw1]; exact Holds.newWr H0.out none_stable)
  clear hw1
  go_wp2_with fail
  refine (x_int H1.out none_stable 0 (by decide) (by simp)).mono ?_
  rintro e w2 ⟨rfl, h2⟩
  have H2 := Lib.hid h2
  clear h2
  go_wp2_with fail
  refine (x_int H2.out none_stable (-1) (by decide) (by simp; omega)).mono ?_
  rintro e w3 ⟨rfl, h3⟩
  have H3 := Lib.hid h3
  clear h3
  go_wp2_with fail
  refine (x_int H3.out none_stable 64 (by decide) (by simp; omega)).mono ?_
  rintro e w4 ⟨rfl, h4⟩
  have H4 := Lib.hid h4
  clear h4
  go_wp2_with fail
  refine (x_text H4.out none_stable bAB (by simp [show bAB.size = 2 from rfl]; omega)).mono ?_
  rintro e w5 ⟨rfl, h5⟩
  have H5 := Lib.hid h5
  clear h5
  go_wp2_with fail
  refine (x_u64 H5.out none_stable 300 (by decide) (by simp [show bAB.size = 2 from rfl, show bAB.data.size = 2 from rfl]; omega)).mono ?_
  rintro e w6 ⟨rfl, h6⟩
  have H6 := Lib.hid h6
  clear h6
  go_wp2_with fail
  refine (of_calls _ _).mono ?_
  rintro e w7 ⟨rfl, hw7⟩
  have H7 := Lib.hid (show Holds w.heap.size w w7 (star (blkP w6.heap.size 97 sR.cs) _) by rw [hw7]; exact H6.out.newBlk (wrP_stable _ _ |>.star none_stable) 97 _)
  clear hw7
  go_wp2_with fail
  refine (of_calls _ _).mono ?_
  rintro e w8 ⟨rfl, hw8⟩
  have H8 := Lib.hid (show Holds w.heap.size w w8 (star (blkP w7.heap.size 97 sQ.cs) _) by rw [hw8]; exact H7.out.newBlk ((blkP_stable _ _ _).star (wrP_stable _ _ |>.star none_stable)) 97 _)
  clear hw8
  go_wp2_with fail
  have S1 := wrP_stable w.heap.size ([] ++ u64L (zig 0) ++ u64L (zig (-1)) ++ u64L (zig 64) ++ u64L bAB.size ++ bAB.data.toList ++ u64L 300) |>.star none_stable
  refine (x_rdu H8.out.turn (S1.star (blkP_stable _ _ _))).mono ?_
  rintro e w9 ⟨rfl, h9⟩
  have H9 := Lib.hid (Holds.assoc h9.turn.swap)
  clear h9
  go_wp2_with fail
  refine (x_rdt H9.out ((blkP_stable _ _ _).star S1) (by decide)).mono ?_
  rintro e w10 ⟨rfl, h10⟩
  have H10 := Lib.hid h10
  clear h10
  have hW := x_string H10.out.drop.drop (by simp [show bAB.size = 2 from rfl, show bAB.data.size = 2 from rfl]; omega)
  have hR := x_rdd H10.out.drop
  have hQ := x_rdd H10.out
  rw [KW.out] at hW
  rw [KR.out] at hR
  rw [KQ.out] at hQ
  have HW := Lib.hid hW
  have HR := Lib.hid hR
  have HQ := Lib.hid hQ
  clear hW hR hQ
  go_wp2_with fail
  refine HW.out.mono ?_
  rintro e w' ⟨rfl, rfl⟩
  go_wp2_with fail
  refine HR.out.mono ?_
  rintro e w' ⟨rfl, rfl⟩
  go_wp2_with fail
  refine HQ.out.mono ?_
  rintro e w' ⟨rfl, rfl⟩
  go_wp2_with fail
  go_ret
  exact ⟨rfl, hb _ H10.out.below⟩
theorem none_calls (w : World) (k n u : Value) (s : ByteArray) (n' u' : Int) (hn : n = .int .i64 n') (hu : u = .int .u64 u') :
    Calls Try.prog 7 #[.agg #[k, n, u, .string s]] w (fun e w' => e = .returned (.bool true) ∧ Keep Nothing w w') := by
  subst hn hu
  have hu27 := Try.underlying27
  go_enter Try.func7, Try.ntmps7
  go_wp2_with fail
  refine (int_none _ _).mono ?_
  rintro e w' ⟨rfl, rfl⟩
  go_wp2_with fail
  refine (u64_none _ _).mono ?_
  rintro e w' ⟨rfl, rfl⟩
  go_wp2_with fail
  refine (text_none _ _).mono ?_
  rintro e w' ⟨rfl, rfl⟩
  go_wp2_with fail
  refine (string_none _).mono ?_
  rintro e w' ⟨rfl, rfl⟩
  go_wp2_with fail
  refine (rdi_none _).mono ?_
  rintro e w' ⟨rfl, rfl⟩
  go_wp2_with fail
  refine (rdu_none _).mono ?_
  rintro e w' ⟨rfl, rfl⟩
  go_wp2_with fail
  refine (rdt_none _).mono ?_
  rintro e w' ⟨rfl, rfl⟩
  go_wp2_with fail
  refine (rdd_none _).mono ?_
  rintro e w' ⟨rfl, rfl⟩
  go_wp2_with fail
  refine (awake_calls _).mono ?_
  rintro e w' ⟨rfl, hk⟩
  have K := Lib.hid hk
  clear hk
  go_wp2_with fail
  go_ret
  refine ⟨rfl, Keep.then ?_ K.out⟩
  repeat (first | exact Keep.same _ _ | apply Keep.alloc | apply Keep.drewN | apply Keep.drew)
theorem cells27 : Try.prog.cellsOf 27 = 4 := by kernel_rfl
/-- A number, or a text. -/
structure Item where
  k : Int
  n : Int
  u : Nat
  s : ByteArray
  hk : I64 k
  hn : I64 n
  hu : u < 18446744073709551616
def Item.cells (x : Item) : List Value := [.int .i64 x.k, .int .i64 x.n, .int .u64 x.u, .string x.s]
theorem wf_i64 {n : Int} (h : (Lit.int .i64 n).wf = true) : I64 n := by
  simp only [Lit.wf, Bool.and_eq_true, decide_eq_true_eq] at h
  have h1 : IntKind.i64.min = -9223372036854775808 := by rfl
  have h2 : IntKind.i64.max = 9223372036854775807 := by rfl
  rw [h1, h2] at h
  exact h
theorem wf_u64 {n : Int} (h : (Lit.int .u64 n).wf = true) : ∃ m : Nat, n = m ∧ m < 18446744073709551616 := by
  simp only [Lit.wf, Bool.and_eq_true, decide_eq_true_eq] at h
  have h1 : IntKind.u64.min = 0 := by rfl
  have h2 : IntKind.u64.max = 18446744073709551615 := by rfl
  rw [h1, h2] at h
  exact ⟨n.toNat, by omega, by omega⟩
theorem item_cells {H : Type} {enc : TypeId × Value → H} {W : World} {b0 n : Nat} {cs : List Value} {y : DataW H × List MemPlace} (ht : DataW.trod enc Try.prog W b0 (fun _ => true) true n 27 cs = some y) :
    ∃ x : Item, cs = x.cells := by
  obtain ⟨hcl, m, hf⟩ := R.struct_fields Try.underlying27 ht
  rw [cells27] at hcl
  have e3 : Try.prog.cellsOf 3 = 1 := by kernel_rfl
  have e25 : Try.prog.cellsOf 25 = 1 := by kernel_rfl
  have e9 : Try.prog.cellsOf 9 = 1 := by kernel_rfl
  obtain ⟨v0, y0, g0, k0, _⟩ := hf 0 3 0 rfl e3 (by omega)
  obtain ⟨v1, y1, g1, k1, _⟩ := hf 1 3 1 rfl e3 (by omega)
  obtain ⟨v2, y2, g2, k2, _⟩ := hf 2 25 2 rfl e25 (by omega)
  obtain ⟨v3, y3, g3, k3, _⟩ := hf 3 9 3 rfl e9 (by omega)
  obtain ⟨n0, l0, _, w0⟩ := DataW.trod_int Try.underlying3 k0
  obtain ⟨n1, l1, _, w1⟩ := DataW.trod_int Try.underlying3 k1
  obtain ⟨n2, l2, _, w2⟩ := DataW.trod_int Try.underlying25 k2
  obtain ⟨s, l3, _, _⟩ := DataW.trod_string Try.underlying9 k3
  injection l0 with l0 _
  injection l1 with l1 _
  injection l2 with l2 _
  injection l3 with l3 _
  subst l0 l1 l2 l3
  obtain ⟨u, rfl, hu⟩ := wf_u64 w2
  refine ⟨⟨n0, n1, u, s, wf_i64 w0, wf_i64 w1, hu⟩, List.ext_getElem? fun i => ?_⟩
  match i with
  | 0 => exact g0
  | 1 => exact g1
  | 2 => exact g2
  | 3 => exact g3
  | i + 4 => rw [List.getElem?_eq_none (by omega), List.getElem?_eq_none (by simp [Item.cells])]
set_option maxRecDepth 100000 in
open Go.ChangeShapes Go.WideShapes Go.ChangeAt in
theorem none_law : R.Law 7 Try.f7 R.any := by
  intro H enc W base args ds p hval hA hsz _ hlt
  rw [Try.params7] at hA hval
  obtain ⟨v0, vs0, d0, ds0, p0, q0, hargs, rfl, rfl, h0, r0⟩ := trodAll_cons hA
  obtain ⟨rfl, rfl, rfl⟩ := trodAll_nil r0
  obtain rfl : args = #[v0] := by cases args; simp_all
  obtain ⟨cs, n, rfl, ht⟩ := R.open_whole Try.underlying27 (hval 0 27 v0 rfl rfl) h0
  obtain ⟨x, hx⟩ := item_cells ht
  obtain rfl : cs = #[.int .i64 x.k, .int .i64 x.n, .int .u64 x.u, .string x.s] := Array.ext' hx
  exact (none_calls W _ _ _ x.s x.n x.u rfl rfl).mono fun e w' h => ⟨h.1, h.2.below (Nat.le_refl _) (fun _ h => h.elim)⟩
end Go.Proofs.Ytjojibgihoebaaa.A
