/-
  An entry's bytes.
-/
import Derived.Test.YtjojibgihoebaaaT4
namespace Go.Proofs.Ytjojibgihoebaaa.A
open Go.RowKit Go.Proofs.Ytjojibgihoebaaa.U
set_option linter.unusedVariables false
set_option linter.unusedSimpArgs false
set_option maxRecDepth 100000

structure EIn64 (x : Ent) : Prop where
  a : I64 x.a
  b : I64 x.b
  c : In64 x.c
def entL (x : Ent) : List UInt8 := [] ++ u64L (zig x.a) ++ u64L (zig x.b) ++ u64L (encS x.c).size ++ (encS x.c).data.toList
def entS (x : Ent) : ByteArray := if entB x then ofL (entL x) else ByteArray.empty
theorem encS_size {c : Cmd} (hc : In64 c) : (encS c).size ≤ 200 := by
  unfold encS
  split
  · rename_i h
    have hn := may_name h
    have l1 := u64L_len10 _ (zig_lt hc.k.1 hc.k.2)
    have l2 := u64L_len10 _ (zig_lt hc.s.1 hc.s.2)
    have l3 := u64L_len10 _ (zig_lt hc.q.1 hc.q.2)
    have l4 := u64L_len10 c.nm.size (by omega)
    have l5 := size_list c.nm
    have l6 := u64L_len10 _ (zig_lt hc.n.1 hc.n.2)
    rw [ofL_size]
    unfold encL
    simp only [List.length_append, List.length_nil]
    omega
  · exact Nat.zero_le _
theorem ent_may {x : Ent} (h : entB x = true) : mayB x.c = true := by
  unfold entB at h
  rw [Bool.and_eq_true] at h
  exact h.2
theorem entS_sum (x : Ent) : ofL (entL x) = intS x.a ++ intS x.b ++ textS (encS x.c) := by
  unfold entL intS textS u64S
  rw [List.nil_append, ofL_app, ofL_app, ofL_app, ofL_list]
  apply ByteArray.ext
  simp [ByteArray.data_append]
abbrev ecs (x : Ent) : Array Value := #[.int .i64 x.a, .int .i64 x.b, .int .i64 x.c.k, .int .i64 x.c.s, .int .i64 x.c.q, .string x.c.nm, .int .i64 x.c.n]
set_option maxHeartbeats 6400000 in
theorem eenc_calls (w : World) (x : Ent) (hx : EIn64 x) : Calls Try.prog 35 #[x.val] w (fun e w' => e = .returned (.tuple #[.string (entS x), .int .i64 (okE (entB x))]) ∧ Keep Nothing w w') := by
  have hu := Try.underlying54
  have hu2 := Try.underlying52
  have hb : ∀ w', Below w.heap.size w w' → Keep Nothing w w' := fun w' h => Keep.of_below h _
  have HM := Lib.hid (fun w => entry_calls w x)
  cases hm : entB x with
  | false =>
    rw [hm] at HM
    have E := Lib.hid (show entS x = ByteArray.empty by unfold entS; rw [hm]; rfl)
    clear hm
    unfold Ent.val at HM ⊢
    go_enter Try.func35, Try.ntmps35
    go_wp2_with fail
    refine (HM.out _).mono ?_
    rintro e w' ⟨rfl, hk⟩
    have K := Lib.hid hk
    clear hk
    go_wp2_with fail
    go_ret2
    exact ⟨by rw [E.out]; rfl, Keep.then (by repeat (first | exact Keep.same _ _ | apply Keep.alloc)) K.out⟩
  | true =>
    rw [hm] at HM
    have E := Lib.hid (show entS x = ofL (entL x) by unfold entS; rw [hm]; rfl)
    have EL := Lib.hid (show entL x = u64L (zig x.a) ++ (u64L (zig x.b) ++ (u64L (encS x.c).size ++ (encS x.c).data.toList)) by simp [entL])
    have HE := Lib.hid (fun w => enc_calls w x.c hx.c)
    rw [ent_may hm] at HE
    have hz := encS_size hx.c
    have SW := Lib.hid wrP_stable
    have SB := Lib.hid ((blkP_stable w.heap.size 54 (ecs x)).star none_stable)
    have l1 := u64L_len10 _ (zig_lt hx.a.1 hx.a.2)
    have l2 := u64L_len10 _ (zig_lt hx.b.1 hx.b.2)
    have l3 := u64L_len10 (encS x.c).size (by omega)
    have l4 := size_list (encS x.c)
    have HX := Lib.hid hx
    have H0 := Lib.hid ((Holds.start w).newBlk none_stable 54 (ecs x))
    clear hm hx
    unfold Cmd.val Cmd.cs at HE
    unfold Ent.val at HM ⊢
    go_enter Try.func35, Try.ntmps35
    go_wp2_with fail
    refine (HM.out _).mono ?_
    rintro e w1 ⟨rfl, hk1⟩
    have H1 := Lib.hid (H0.out.kept SB.out hk1)
    clear hk1
    have d2 := (blk_at H1.out).cell 2
    have d3 := (blk_at H1.out).cell 3
    have d4 := (blk_at H1.out).cell 4
    have d5 := (blk_at H1.out).cell 5
    have d6 := (blk_at H1.out).cell 6
    go_wp2_with fail
    refine (HE.out _).mono ?_
    rintro e w2 ⟨rfl, hk2⟩
    have H2 := Lib.hid (H1.out.kept SB.out hk2)
    clear hk2 d2 d3 d4 d5 d6
    generalize encS x.c = ct at *
    go_wp2_with fail
    refine (new_calls _).mono ?_
    rintro e w3 ⟨rfl, hw3⟩
    have H3 := Lib.hid (show Holds w.heap.size w w3 (star (wrP w2.heap.size []) _) by rw [hw3]; exact Holds.newWr H2.out SB.out)
    clear hw3
    have d0 := (blk_at H3.out.drop).cell 0
    go_wp2_with fail
    refine (x_int H3.out SB.out x.a HX.out.a (by simp)).mono ?_
    rintro e w4 ⟨rfl, h4⟩
    have H4 := Lib.hid h4
    clear h4 d0
    have d1 := (blk_at H4.out.drop).cell 1
    go_wp2_with fail
    refine (x_int H4.out SB.out x.b HX.out.b (by simp; omega)).mono ?_
    rintro e w5 ⟨rfl, h5⟩
    have H5 := Lib.hid h5
    clear h5 d1
    go_wp2_with fail
    refine (x_text H5.out SB.out ct (by simp; omega)).mono ?_
    rintro e w6 ⟨rfl, h6⟩
    have H6 := Lib.hid h6
    clear h6
    go_wp2_with fail
    refine (x_string H6.out (by simp; omega)).mono ?_
    rintro e w' ⟨rfl, rfl⟩
    go_wp2_with fail
    go_ret2
    refine ⟨?_, hb _ H6.out.below⟩
    rw [E.out, EL.out]
    simp [okE]
end Go.Proofs.Ytjojibgihoebaaa.A
