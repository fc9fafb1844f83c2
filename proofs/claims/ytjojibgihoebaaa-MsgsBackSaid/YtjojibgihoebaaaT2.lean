/-
  A command's bytes.
-/
import Derived.Test.YtjojibgihoebaaaT1
namespace Go.Proofs.Ytjojibgihoebaaa.A
open Go.RowKit Go.Proofs.Ytjojibgihoebaaa.U
set_option linter.unusedVariables false
set_option linter.unusedSimpArgs false
set_option maxRecDepth 100000

def encL (c : Cmd) : List UInt8 := [] ++ u64L (zig c.k) ++ u64L (zig c.s) ++ u64L (zig c.q) ++ u64L c.nm.size ++ c.nm.data.toList ++ u64L (zig c.n)
def encS (c : Cmd) : ByteArray := if mayB c then ofL (encL c) else ByteArray.empty
structure In64 (c : Cmd) : Prop where
  k : I64 c.k
  s : I64 c.s
  q : I64 c.q
  n : I64 c.n
def enc3 (c : Cmd) : Nat → List UInt8
  | 0 => []
  | 1 => [] ++ u64L (zig c.k)
  | 2 => [] ++ u64L (zig c.k) ++ u64L (zig c.s)
  | _ => [] ++ u64L (zig c.k) ++ u64L (zig c.s) ++ u64L (zig c.q)
theorem may_name {c : Cmd} (h : mayB c = true) : c.nm.size ≤ 64 := by
  have h' : MayP c := of_decide_eq_true h
  unfold MayP at h'
  omega
theorem Holds.second {B : Nat} {w0 w : World} {P Q R : SP} (h : Holds B w0 w (star P (star Q R))) : Holds B w0 w (star Q (star P R)) :=
  h.imp fun F ⟨F1, F2, h1, ⟨F3, F4, h5, h6, h7, h8⟩, h3, h4⟩ =>
    ⟨F3, fun k => F1 k ∨ F4 k, h5, ⟨F1, F4, h1, h6, fun k a b => h3 k a ((h8 k).2 (.inr b)), fun _ => Iff.rfl⟩,
      fun k a b => by rcases b with b | b; exact h3 k b ((h8 k).2 (.inl a)); exact h7 k a b,
      fun k => by rw [h4, h8]; exact ⟨fun h => by rcases h with h | h | h; exact .inr (.inl h); exact .inl h; exact .inr (.inr h), fun h => by rcases h with h | h | h; exact .inr (.inl h); exact .inl h; exact .inr (.inr h)⟩⟩
theorem blk_at {B : Nat} {w0 w : World} {Q : SP} {b t : Nat} {cs : Array Value} (h : Holds B w0 w (star (blkP b t cs) Q)) : Blk w b t cs := by
  obtain ⟨F, hb, _⟩ := h.left
  exact hb
set_option maxHeartbeats 6400000 in
theorem enc_calls (w : World) (c : Cmd) (hc : In64 c) : Calls Try.prog 33 #[c.val] w (fun e w' => e = .returned (.tuple #[.string (encS c), .int .i64 (okE (mayB c))]) ∧ Keep Nothing w w') := by
  have hu := Try.underlying52
  have hu2 := Try.underlying98
  have hu3 := Try.underlying39
  have hb : ∀ w', Below w.heap.size w w' → Keep Nothing w w' := fun w' h => Keep.of_below h _
  have HM := Lib.hid (fun w => may_calls w c)
  unfold maySpec at HM
  cases hm : mayB c with
  | false =>
    rw [hm] at HM
    have E := Lib.hid (show encS c = ByteArray.empty by unfold encS; rw [hm]; rfl)
    clear hm
    unfold Cmd.val Cmd.cs at HM ⊢
    go_enter Try.func33, Try.ntmps33
    go_wp2_with fail
    refine (HM.out _).mono ?_
    rintro e w' ⟨rfl, hk⟩
    have K := Lib.hid hk
    clear hk
    go_wp2_with fail
    go_ret2
    exact ⟨by rw [E.out]; rfl, Keep.then (by repeat (first | exact Keep.same _ _ | apply Keep.alloc)) K.out⟩
  | true =>
    rw [hm] at HM
    have E := Lib.hid (show encS c = ofL (encL c) by unfold encS; rw [hm]; rfl)
    have hnm := may_name hm
    have HP := Lib.hid (fun w => pack_calls w c)
    have EL := Lib.hid (show encL c = enc3 c 3 ++ (u64L c.nm.size ++ (c.nm.data.toList ++ u64L (zig c.n))) by simp [encL, enc3])
    have SW := Lib.hid wrP_stable
    have SB := Lib.hid blkP_stable
    have l1 := u64L_len10 _ (zig_lt hc.k.1 hc.k.2)
    have l2 := u64L_len10 _ (zig_lt hc.s.1 hc.s.2)
    have l3 := u64L_len10 _ (zig_lt hc.q.1 hc.q.2)
    have l4 := u64L_len10 c.nm.size (by omega)
    have l5 := size_list c.nm
    have HC := Lib.hid hc
    have H0 := Lib.hid ((Holds.start w).newBlk none_stable 52 c.cs)
    clear hm hc
    unfold Cmd.val Cmd.cs at HM HP ⊢
    unfold Cmd.cs at H0
    go_enter Try.func33, Try.ntmps33
    go_wp2_with fail
    refine (HM.out _).mono ?_
    rintro e w1 ⟨rfl, hk1⟩
    have H1 := Lib.hid (H0.out.kept ((SB.out _ _ _).star none_stable) hk1)
    clear hk1
    go_wp2_with fail
    refine (new_calls _).mono ?_
    rintro e w2 ⟨rfl, hw2⟩
    have H2 := Lib.hid (show Holds w.heap.size w w2 (star (wrP w1.heap.size []) _) by rw [hw2]; exact Holds.newWr H1.out ((SB.out _ _ _).star none_stable))
    clear hw2
    have d0 := (blk_at H2.out.drop).cell 0
    have d1 := (blk_at H2.out.drop).cell 1
    have d2 := (blk_at H2.out.drop).cell 2
    have d3 := (blk_at H2.out.drop).cell 3
    have d4 := (blk_at H2.out.drop).cell 4
    go_wp2_with fail
    refine (HP.out _).mono ?_
    rintro e w3 ⟨rfl, hk3⟩
    have H3 := Lib.hid (H2.out.kept ((SW.out _ _).star ((SB.out _ _ _).star none_stable)) hk3)
    have H4 := Lib.hid (Holds.second (H3.out.newBlk ((SW.out _ _).star ((SB.out _ _ _).star none_stable)) 98 #[.int .i64 c.k, .int .i64 c.s, .int .i64 c.q, .int .i64 c.n]))
    clear hk3 d0 d1 d2 d3 d4
    go_wp2_with fail
    have H5 := Lib.hid (show Holds w.heap.size w _ (star (wrP w1.heap.size (enc3 c 0)) _) from H4.out)
    have SQ := Lib.hid ((SB.out w3.heap.size 98 #[.int .i64 c.k, .int .i64 c.s, .int .i64 c.q, .int .i64 c.n]).star ((SB.out w.heap.size 52 #[.int .i64 c.k, .int .i64 c.s, .int .i64 c.q, .string c.nm, .int .i64 c.n]).star none_stable))
    generalize hg0 : w.heap.size = b0 at *
    generalize hg1 : w1.heap.size = b1 at *
    generalize hg3 : w3.heap.size = b3 at *
    clear hg0 hg1 hg3 H0 H1 H2 H3 H4
    go_loopw [16] (fun v wr => ∃ j : Nat, j ≤ 3 ∧ v = .int .i64 j ∧ Holds b0 w wr (star (wrP b1 (enc3 c j)) (star (blkP b3 98 #[.int .i64 c.k, .int .i64 c.s, .int .i64 c.q, .int .i64 c.n]) (star (blkP b0 52 #[.int .i64 c.k, .int .i64 c.s, .int .i64 c.q, .string c.nm, .int .i64 c.n]) none_)))) (fun v _ => 3 - (intOf v).toNat)
    case atStart => exact ⟨0, by omega, by simp, H5.out⟩
    case round =>
      obtain ⟨j, hj, rfl, hh⟩ := hrel
      have H := Lib.hid hh
      clear hh H5
      rcases (show j = 0 ∨ j = 1 ∨ j = 2 ∨ j = 3 by omega) with rfl | rfl | rfl | rfl
      · have d := (blk_at H.out.drop).cell 0
        go_wp2_with fail
        refine (x_int H.out SQ.out c.k HC.out.k (by simp [enc3])).mono ?_
        rintro e w5 ⟨rfl, h5⟩
        have H5 := Lib.hid h5
        clear h5 d
        go_wp2_with fail
        go_roundw
        case rel => exact ⟨1, by omega, by go_num, H5.out⟩
        case measure => simp [intOf]
      · have d := (blk_at H.out.drop).cell 1
        go_wp2_with fail
        refine (x_int H.out SQ.out c.s HC.out.s (by simp [enc3]; omega)).mono ?_
        rintro e w5 ⟨rfl, h5⟩
        have H5 := Lib.hid h5
        clear h5 d
        go_wp2_with fail
        go_roundw
        case rel => exact ⟨2, by omega, by go_num, H5.out⟩
        case measure => simp [intOf]
      · have d := (blk_at H.out.drop).cell 2
        go_wp2_with fail
        refine (x_int H.out SQ.out c.q HC.out.q (by simp [enc3]; omega)).mono ?_
        rintro e w5 ⟨rfl, h5⟩
        have H5 := Lib.hid h5
        clear h5 d
        go_wp2_with fail
        go_roundw
        case rel => exact ⟨3, by omega, by go_num, H5.out⟩
        case measure => simp [intOf]
      · have d := (blk_at H.out.drop.drop).cell 3
        go_wp2_with fail
        refine (x_text H.out SQ.out c.nm (by simp [enc3]; omega)).mono ?_
        rintro e w5 ⟨rfl, h5⟩
        have H5 := Lib.hid h5
        clear h5 d
        have d := (blk_at H5.out.drop).cell 3
        go_wp2_with fail
        refine (x_int H5.out SQ.out c.n HC.out.n (by simp [enc3]; omega)).mono ?_
        rintro e w6 ⟨rfl, h6⟩
        have H6 := Lib.hid h6
        clear h6 d
        have l6 := u64L_len10 _ (zig_lt HC.out.n.1 HC.out.n.2)
        go_wp2_with fail
        refine (x_string H6.out (by simp [enc3]; omega)).mono ?_
        rintro e w' ⟨rfl, rfl⟩
        go_wp2_with fail
        go_ret2
        exact ⟨by rw [E.out, EL.out]; rfl, hb _ H6.out.below⟩
end Go.Proofs.Ytjojibgihoebaaa.A
