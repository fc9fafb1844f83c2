/-
  CmdsEncodes: which commands may be; any one's bytes; any entry's.
-/
import Derived.Test.YtjojibgihoebaaaV3
namespace Go.Proofs.Ytjojibgihoebaaa.A
open Go.RowKit Go.Proofs.Ytjojibgihoebaaa.U
set_option linter.unusedVariables false
set_option linter.unusedSimpArgs false
set_option maxRecDepth 100000

set_option maxHeartbeats 6400000 in
theorem encodes_calls (w : World) (x : Ent) (hx : EIn64 x) : Calls Try.prog 8 #[x.val] w (fun e w' => e = .returned (.bool true) ∧ Keep Nothing w w') := by
  have hu := Try.underlying52
  have hu2 := Try.underlying54
  have SN := Lib.hid none_stable
  have hb : ∀ w', Below w.heap.size w w' → Keep Nothing w w' := fun w' h => Keep.of_below h _
  have SB := Lib.hid ((blkP_stable w.heap.size 54 (ecs x)).star none_stable)
  have E1 := Lib.hid (fun w => enc_calls w x.c hx.c)
  have E2 := Lib.hid (fun w => renc_calls w x.c hx.c)
  have E3 := Lib.hid (fun w => eenc_calls w x hx)
  have E4 := Lib.hid (fun w => reenc_calls w x hx)
  have E5 := Lib.hid (fun w => check_calls w x.c)
  have E6 := Lib.hid (fun w => rmay_calls w x.c)
  unfold maySpec at E6
  have H0 := Lib.hid ((Holds.start w).newBlk none_stable 54 (ecs x))
  generalize encS x.c = sc at *
  generalize entS x = se at *
  generalize mayB x.c = m at *
  generalize okE (entB x) = oe at *
  clear hx
  unfold Cmd.val Cmd.cs at E1 E2 E5 E6
  unfold Ent.val at E3 E4 ⊢
  go_enter Try.func8, Try.ntmps8
  have d0 := (blk_at H0.out).cell 0
  have d1 := (blk_at H0.out).cell 1
  have d2 := (blk_at H0.out).cell 2
  have d3 := (blk_at H0.out).cell 3
  have d4 := (blk_at H0.out).cell 4
  have d5 := (blk_at H0.out).cell 5
  have d6 := (blk_at H0.out).cell 6
  go_wp2_with fail
  clear d0 d1 d2 d3 d4 d5 d6
  refine (E1.out _).mono ?_
  rintro e w1 ⟨rfl, hk⟩
  have H1 := Lib.hid (H0.out.kept SB.out hk)
  clear hk
  have d2 := (blk_at H1.out).cell 2
  have d3 := (blk_at H1.out).cell 3
  have d4 := (blk_at H1.out).cell 4
  have d5 := (blk_at H1.out).cell 5
  have d6 := (blk_at H1.out).cell 6
  go_wp2_with fail
  clear d2 d3 d4 d5 d6
  refine (E2.out _).mono ?_
  rintro e w2 ⟨rfl, hk⟩
  have H2 := Lib.hid (H1.out.kept SB.out hk)
  clear hk
  have d0 := (blk_at H2.out).cell 0
  have d1 := (blk_at H2.out).cell 1
  have d2 := (blk_at H2.out).cell 2
  have d3 := (blk_at H2.out).cell 3
  have d4 := (blk_at H2.out).cell 4
  have d5 := (blk_at H2.out).cell 5
  have d6 := (blk_at H2.out).cell 6
  go_wp2_with fail
  clear d0 d1 d2 d3 d4 d5 d6
  refine (E3.out _).mono ?_
  rintro e w3 ⟨rfl, hk⟩
  have H3 := Lib.hid (H2.out.kept SB.out hk)
  clear hk
  have d0 := (blk_at H3.out).cell 0
  have d1 := (blk_at H3.out).cell 1
  have d2 := (blk_at H3.out).cell 2
  have d3 := (blk_at H3.out).cell 3
  have d4 := (blk_at H3.out).cell 4
  have d5 := (blk_at H3.out).cell 5
  have d6 := (blk_at H3.out).cell 6
  go_wp2_with fail
  clear d0 d1 d2 d3 d4 d5 d6
  refine (E4.out _).mono ?_
  rintro e w4 ⟨rfl, hk⟩
  have T := H3.out.kept SB.out hk
  clear hk H0 H1 H2 H3 E1 E2 E3 E4
  generalize hg0 : w.heap.size = b0 at *
  clear hg0
  have CC := Lib.hid (show ∀ w', Holds b0 w w' (star (blkP b0 54 (ecs x)) none_) → w'.cell? ⟨b0, 2, none⟩ = some (.int .i64 x.c.k) ∧ w'.cell? ⟨b0, 3, none⟩ = some (.int .i64 x.c.s) ∧ w'.cell? ⟨b0, 4, none⟩ = some (.int .i64 x.c.q) ∧ w'.cell? ⟨b0, 5, none⟩ = some (.string x.c.nm) ∧ w'.cell? ⟨b0, 6, none⟩ = some (.int .i64 x.c.n) from
    fun w' h => ⟨(blk_at h).cell 2, (blk_at h).cell 3, (blk_at h).cell 4, (blk_at h).cell 5, (blk_at h).cell 6⟩)
  have cc := CC.out _ T
  have A0 := Lib.hid cawake_calls
  cases m with
  | false =>
    have o1 : okE false = 1 := rfl
    rw [o1] at E5
    clear o1
    go_wp2_with fail
    go_region_held3 (fun w' => w'.cell? ⟨b0, 2, none⟩ = some (.int .i64 x.c.k) ∧ w'.cell? ⟨b0, 3, none⟩ = some (.int .i64 x.c.s) ∧ w'.cell? ⟨b0, 4, none⟩ = some (.int .i64 x.c.q) ∧ w'.cell? ⟨b0, 5, none⟩ = some (.string x.c.nm) ∧ w'.cell? ⟨b0, 6, none⟩ = some (.int .i64 x.c.n)) (first | exact cc | go_keep) ((first | (go_at_call 37; refine (E5.out _).mono ?_; rintro e w5 ⟨rfl, hk5⟩; replace T := (by first | exact (T.drewN SB.out _).kept SB.out hk5 | exact T.kept SB.out hk5 : Holds b0 w w5 (star (blkP b0 54 (ecs x)) none_)); replace cc := CC.out _ T; clear hk5) | (go_at_call 38; refine (E6.out _).mono ?_; rintro e w5 ⟨rfl, hk5⟩; replace T := (by first | exact (T.drewN SB.out _).kept SB.out hk5 | exact T.kept SB.out hk5 : Holds b0 w w5 (star (blkP b0 54 (ecs x)) none_)); replace cc := CC.out _ T; clear hk5) | (go_at_call 39; refine (A0.out _).mono ?_; rintro e w5 ⟨rfl, hk5⟩; replace T := (by first | exact (T.drewN SB.out _).kept SB.out hk5 | exact T.kept SB.out hk5 : Holds b0 w w5 (star (blkP b0 54 (ecs x)) none_)); replace cc := CC.out _ T; clear hk5)))
    go_wp2_with fail
    go_ret
    exact ⟨rfl, hb _ T.below⟩
  | true =>
    have o1 : okE true = 0 := rfl
    rw [o1] at E5
    clear o1
    go_wp2_with fail
    go_region_held3 (fun w' => w'.cell? ⟨b0, 2, none⟩ = some (.int .i64 x.c.k) ∧ w'.cell? ⟨b0, 3, none⟩ = some (.int .i64 x.c.s) ∧ w'.cell? ⟨b0, 4, none⟩ = some (.int .i64 x.c.q) ∧ w'.cell? ⟨b0, 5, none⟩ = some (.string x.c.nm) ∧ w'.cell? ⟨b0, 6, none⟩ = some (.int .i64 x.c.n)) (first | exact cc | go_keep) ((first | (go_at_call 37; refine (E5.out _).mono ?_; rintro e w5 ⟨rfl, hk5⟩; replace T := (by first | exact (T.drewN SB.out _).kept SB.out hk5 | exact T.kept SB.out hk5 : Holds b0 w w5 (star (blkP b0 54 (ecs x)) none_)); replace cc := CC.out _ T; clear hk5) | (go_at_call 38; refine (E6.out _).mono ?_; rintro e w5 ⟨rfl, hk5⟩; replace T := (by first | exact (T.drewN SB.out _).kept SB.out hk5 | exact T.kept SB.out hk5 : Holds b0 w w5 (star (blkP b0 54 (ecs x)) none_)); replace cc := CC.out _ T; clear hk5) | (go_at_call 39; refine (A0.out _).mono ?_; rintro e w5 ⟨rfl, hk5⟩; replace T := (by first | exact (T.drewN SB.out _).kept SB.out hk5 | exact T.kept SB.out hk5 : Holds b0 w w5 (star (blkP b0 54 (ecs x)) none_)); replace cc := CC.out _ T; clear hk5)))
    go_wp2_with fail
    go_ret
    exact ⟨rfl, hb _ T.below⟩
open Go.ChangeShapes Go.WideShapes Go.ChangeAt in
theorem encodes_law : R.Law 8 Try.f8 R.any := by
  intro H enc W base args ds p hval hA hsz _ hlt
  rw [Try.params8] at hA hval
  obtain ⟨v0, vs0, d0, ds0, p0, q0, hargs, rfl, rfl, h0, r0⟩ := trodAll_cons hA
  obtain ⟨rfl, rfl, rfl⟩ := trodAll_nil r0
  obtain rfl : args = #[v0] := by cases args; simp_all
  obtain ⟨cs, n, rfl, ht⟩ := R.open_whole Try.underlying54 (hval 0 54 v0 rfl rfl) h0
  obtain ⟨x, hx, x64, _⟩ := ent_cells ht
  obtain rfl : cs = x.cs := Array.ext' hx
  exact (encodes_calls W x x64).mono fun e w' h => ⟨h.1, h.2.below (Nat.le_refl _) (fun _ h => h.elim)⟩
end Go.Proofs.Ytjojibgihoebaaa.A
