/-
  An entry's bytes, the reference's.
-/
import Derived.Test.YtjojibgihoebaaaT5
namespace Go.Proofs.Ytjojibgihoebaaa.A
open Go.RowKit Go.Proofs.Ytjojibgihoebaaa.U
set_option linter.unusedVariables false
set_option linter.unusedSimpArgs false
set_option maxRecDepth 100000

set_option maxHeartbeats 6400000 in
theorem reenc_calls (w : World) (x : Ent) (hx : EIn64 x) : Calls Try.prog 36 #[x.val] w (fun e w' => e = .returned (.tuple #[.string (entS x), .int .i64 (okE (entB x))]) ∧ Keep Nothing w w') := by
  have hu := Try.underlying54
  have hu2 := Try.underlying52
  have hb : ∀ w', Below w.heap.size w w' → Keep Nothing w w' := fun w' h => Keep.of_below h _
  have HM := Lib.hid (fun w => rentry_calls w x)
  cases hm : entB x with
  | false =>
    rw [hm] at HM
    have E := Lib.hid (show entS x = ByteArray.empty by unfold entS; rw [hm]; rfl)
    clear hm
    unfold Ent.val at HM ⊢
    go_enter Try.func36, Try.ntmps36
    go_wp2_with fail
    refine (HM.out _).mono ?_
    rintro e w' ⟨rfl, hk⟩
    have K := Lib.hid hk
    clear hk
    go_wp2_with fail
    go_ret2
    exact ⟨by rw [E.out]; rfl, Keep.then (by repeat (first | exact Keep.same _ _ | apply Keep.alloc)) K.out⟩
  | true =>
    rw [hm] at HM
    have E := Lib.hid (show entS x = intS x.a ++ intS x.b ++ textS (encS x.c) by unfold entS; rw [hm, if_pos rfl, entS_sum])
    have HE := Lib.hid (fun w => renc_calls w x.c hx.c)
    rw [ent_may hm] at HE
    have hz := encS_size hx.c
    have SB := Lib.hid ((blkP_stable w.heap.size 54 (ecs x)).star none_stable)
    have z1 : (intS x.a).size ≤ 10 := u64L_len10 _ (zig_lt hx.a.1 hx.a.2)
    have z2 : (intS x.b).size ≤ 10 := u64L_len10 _ (zig_lt hx.b.1 hx.b.2)
    have z4 : (textS (encS x.c)).size ≤ 220 := by unfold textS; rw [ByteArray.size_append]; have := u64S_size (encS x.c).size (by omega); omega
    have p1 := fun w => cat w (intS x.a) (intS x.b) (by omega)
    have p2 := fun w => cat w (intS x.a ++ intS x.b) (textS (encS x.c)) (by rw [ByteArray.size_append]; omega)
    have r4 := Lib.hid (fun w => rtext_calls w (encS x.c) (by omega))
    have HX := Lib.hid hx
    have H0 := Lib.hid ((Holds.start w).newBlk none_stable 54 (ecs x))
    generalize encS x.c = ct at *
    clear hm hx z1 z2 z4
    unfold Cmd.val Cmd.cs at HE
    unfold Ent.val at HM ⊢
    go_enter Try.func36, Try.ntmps36
    go_wp2_with fail
    refine (HM.out _).mono ?_
    rintro e w1 ⟨rfl, hk1⟩
    have H1 := Lib.hid (H0.out.kept SB.out hk1)
    clear hk1
    have d2 := (blk_at H1.out).cell 2
    have d3 := (blk_at H1.out).cell 3
    have d4 := (blk_at H1.out).cell 4
    have d5 := (blk_at H1.out).cell 5
    have d6 := (blk_at H1.out).cell 6
    go_wp2_with fail
    refine (HE.out _).mono ?_
    rintro e w2 ⟨rfl, hk2⟩
    have T := H1.out.kept SB.out hk2
    clear hk2 d2 d3 d4 d5 d6 H1 H0
    generalize hg0 : w.heap.size = b0 at *
    clear hg0
    have CC := Lib.hid (show ∀ w', Holds b0 w w' (star (blkP b0 54 (ecs x)) none_) → w'.cell? ⟨b0, 0, none⟩ = some (.int .i64 x.a) ∧ w'.cell? ⟨b0, 1, none⟩ = some (.int .i64 x.b) from
      fun w' h => ⟨(blk_at h).cell 0, (blk_at h).cell 1⟩)
    have cc := CC.out _ T
    go_wp2_with fail
    go_region_held3 (fun w' => w'.cell? ⟨b0, 0, none⟩ = some (.int .i64 x.a) ∧ w'.cell? ⟨b0, 1, none⟩ = some (.int .i64 x.b)) (first | exact cc | go_keep) ((first | (go_at_call 51; refine (rint_calls _ _ (by first | exact HX.out.a | exact HX.out.b)).mono ?_; rintro e w5 ⟨rfl, hk5⟩; replace T := (by first | exact (T.drewN SB.out _).kept SB.out hk5 | exact T.kept SB.out hk5 : Holds b0 w w5 (star (blkP b0 54 (ecs x)) none_)); replace cc := CC.out _ T; clear hk5) | (go_at_call 53; refine (r4.out _).mono ?_; rintro e w8 ⟨rfl, hk8⟩; replace T := T.kept SB.out hk8; replace cc := CC.out _ T; clear hk8)))
    go_wp2_with fail
    go_ret2
    exact ⟨by rw [E.out]; rfl, hb _ T.below⟩
end Go.Proofs.Ytjojibgihoebaaa.A
