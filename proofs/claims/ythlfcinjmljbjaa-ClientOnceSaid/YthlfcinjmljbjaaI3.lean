/-
  The client's law: awake.
-/
import Derived.Test.YthlfcinjmljbjaaI2
namespace Go.Proofs.Ythlfcinjmljbjaa.A
open Go.RowKit Go.Proofs.Ythlfcinjmljbjaa.U
set_option linter.unusedVariables false
set_option linter.unusedSimpArgs false
set_option maxRecDepth 100000
set_option maxHeartbeats 1600000

theorem hand_one {B : Nat} {w0 w' : World} {b : Nat} {X : CS × Nat} {Q : SP} {e : Ending} {C : CS} {n : Nat} (h : HandPost B w0 b X Q e w') (hX : X = (C, n)) :
    ∃ A k c D d, e = .returned (.tuple #[.slice A k c, .slice D n d]) ∧ Holds B w0 w' (star (cliP b C) Q) := by
  subst hX
  exact h
theorem awake7 (w : World) : Calls Try.prog 7 #[] w (fun e w' => e = .returned (.bool true) ∧ Keep Nothing w w') := by
  have hb : ∀ w', Below w.heap.size w w' → Keep Nothing w w' := fun w' h => Keep.of_below h _
  have hu40 := Try.underlying40
  have hu31 := Try.underlying31
  have hu46 := Try.underlying46
  have hu38 := Try.underlying38
  have H0 := Lib.hid (Holds.start w)
  have HN := Lib.hid (x_new H0.out none_stable)
  go_enter Try.func7, Try.ntmps7
  go_wp2_with fail
  refine HN.out.mono ?_
  rintro e w1 ⟨b, rfl, h⟩
  have H1 := Lib.hid h
  have X1 := Lib.hid (x_call h none_stable (by decide) (by decide) (by decide) List.Pairwise.nil xOpen 5)
  unfold Cmd.val Cmd.cs at X1
  clear h
  go_wp2_with fail
  refine X1.out.mono ?_
  rintro e w2 hp
  obtain ⟨g, rfl, h⟩ := call_ok hp e1
  rw [s1] at h
  have H2 := Lib.hid (show Holds w.heap.size w w2 (star (cliP b C1) (star (rowP 40 20 (.slice (some ⟨g, 0, none⟩) 1 1) 1 (askCs (newC 2 3 1) ⟨⟨2, 2, 1, ⟨#[]⟩, 0⟩, 5, 5⟩).toList) none_)) from h.perm (by
    show star (rowP 40 20 (.slice (some ⟨g, 0, none⟩) 1 1) 1 (askCs (newC 2 3 1) ⟨⟨2, 2, 1, ⟨#[]⟩, 0⟩, 5, 5⟩).toList) (star (cliP b C1) none_) = _
    ac_rfl))
  have SA := Lib.hid ((rowP_stable 40 20 (.slice (some ⟨g, 0, none⟩) 1 1) 1 (askCs (newC 2 3 1) ⟨⟨2, 2, 1, ⟨#[]⟩, 0⟩, 5, 5⟩).toList).star none_stable)
  have X2 := Lib.hid (x_call H2.out SA.out (by decide) (by decide) (by decide) List.Pairwise.nil xLock 6)
  unfold Cmd.val Cmd.cs at X2
  clear h hp
  go_wp2_with fail
  refine X2.out.mono ?_
  rintro e w3 hp
  obtain ⟨rfl, h⟩ := call_no hp e2 (by decide)
  have H3 := Lib.hid h
  clear h hp
  go_wp2_with fail
  refine (tell11 w3 ⟨0, 1, 0, 0, 3⟩).mono ?_
  rintro e w4 ⟨rfl, hk⟩
  have H4 := Lib.hid (H3.out.kept ((cliP_stable _ _).star SA.out) hk)
  have X4 := Lib.hid (x_handle H4.out SA.out (by decide) (by decide) List.Pairwise.nil (by intro o ho; injection ho with ho; subst ho; decide) (tellM ⟨0, 1, 0, 0, 3⟩) (by decide) 9)
  clear hk
  go_wp2_with fail
  refine X4.out.mono ?_
  rintro e w5 hp
  obtain ⟨A5, k5, c5, D5, d5, rfl, h⟩ := hand_one hp s2
  have H5 := Lib.hid h
  have X5 := Lib.hid (x_call h SA.out (by decide) (by decide) (by decide) List.Pairwise.nil xLock 10)
  unfold Cmd.val Cmd.cs at X5
  clear h hp
  go_wp2_with fail
  refine X5.out.mono ?_
  rintro e w6 hp
  obtain ⟨g6, rfl, h⟩ := call_ok hp e3
  rw [s3] at h
  have H6 := Lib.hid (show Holds w.heap.size w w6 (star (cliP b C3) (star (rowP 40 20 (.slice (some ⟨g6, 0, none⟩) 1 1) 1 (askCs C2 ⟨⟨5, 3, 1, aN, 0⟩, 10, 10⟩).toList) (star (rowP 40 20 (.slice (some ⟨g, 0, none⟩) 1 1) 1 (askCs (newC 2 3 1) ⟨⟨2, 2, 1, ⟨#[]⟩, 0⟩, 5, 5⟩).toList) none_))) from h.perm (by
    show star (rowP 40 20 (.slice (some ⟨g6, 0, none⟩) 1 1) 1 (askCs C2 ⟨⟨5, 3, 1, aN, 0⟩, 10, 10⟩).toList) (star (cliP b C3) (star (rowP 40 20 (.slice (some ⟨g, 0, none⟩) 1 1) 1 (askCs (newC 2 3 1) ⟨⟨2, 2, 1, ⟨#[]⟩, 0⟩, 5, 5⟩).toList) none_)) = _
    ac_rfl))
  have SB := Lib.hid ((rowP_stable 40 20 (.slice (some ⟨g6, 0, none⟩) 1 1) 1 (askCs C2 ⟨⟨5, 3, 1, aN, 0⟩, 10, 10⟩).toList).star SA.out)
  clear h hp
  go_wp2_with fail
  refine (tell11 w6 ⟨3, 1, 0, 7, 0⟩).mono ?_
  rintro e w7 ⟨rfl, hk⟩
  have H7 := Lib.hid (H6.out.kept ((cliP_stable _ _).star SB.out) hk)
  have X7 := Lib.hid (x_handle H7.out SB.out (by decide) (by decide) List.Pairwise.nil (by intro o ho; injection ho with ho; subst ho; decide) (tellM ⟨3, 1, 0, 7, 0⟩) (by decide) 11)
  clear hk
  go_wp2_with fail
  refine X7.out.mono ?_
  rintro e w8 hp
  obtain ⟨A8, k8, c8, D8, d8, rfl, h⟩ := hand_one hp s4
  have H8 := Lib.hid h
  have RI : Rise C4.L := List.pairwise_singleton _ _
  have X8 := Lib.hid (x_holds h (by decide) RI aN 704)
  rw [r1] at X8
  unfold Hd.val Hd.cs at X8
  clear h hp
  go_wp2_with fail
  refine X8.out.mono ?_
  rintro e w9 ⟨rfl, hk⟩
  have H9 := Lib.hid ((H8.out.kept ((cliP_stable _ _).star SB.out) hk).newBlk ((cliP_stable _ _).star SB.out) 46 #[.string aN, .bool false, .int .u64 7])
  have H9' := Lib.hid (show Holds w.heap.size w (w9.alloc (.cells #[.string aN, .bool false, .int .u64 7] 46)) (star (cliP b C4) (star (blkP w9.heap.size 46 #[.string aN, .bool false, .int .u64 7]) (star (rowP 40 20 (.slice (some ⟨g6, 0, none⟩) 1 1) 1 (askCs C2 ⟨⟨5, 3, 1, aN, 0⟩, 10, 10⟩).toList) (star (rowP 40 20 (.slice (some ⟨g, 0, none⟩) 1 1) 1 (askCs (newC 2 3 1) ⟨⟨2, 2, 1, ⟨#[]⟩, 0⟩, 5, 5⟩).toList) none_)))) from H9.out.perm (by ac_rfl))
  have X9 := Lib.hid (x_holds H9'.out (by decide) RI aN 705)
  rw [r2] at X9
  unfold Hd.val Hd.cs at X9
  clear hk H9
  go_wp2_with fail
  refine X9.out.mono ?_
  rintro e w10 ⟨rfl, hk⟩
  have SC := Lib.hid ((blkP_stable w9.heap.size 46 #[.string aN, .bool false, .int .u64 7]).star SB.out)
  have H10 := Lib.hid ((H9'.out.kept ((cliP_stable _ _).star SC.out) hk).alloc ((cliP_stable _ _).star SC.out) (.cells #[.string .empty, .bool false, .int .u64 0] 46))
  obtain ⟨p1, p2, p3, p4, p5⟩ := ask_cells (g := g) (show Holds w.heap.size w _ (star (rowP 40 20 (.slice (some ⟨g, 0, none⟩) 1 1) 1 (askCs (newC 2 3 1) ⟨⟨2, 2, 1, ⟨#[]⟩, 0⟩, 5, 5⟩).toList) (star (cliP b C4) (star (blkP w9.heap.size 46 #[.string aN, .bool false, .int .u64 7]) (star (rowP 40 20 (.slice (some ⟨g6, 0, none⟩) 1 1) 1 (askCs C2 ⟨⟨5, 3, 1, aN, 0⟩, 10, 10⟩).toList) none_)))) from H10.out.perm (by ac_rfl))
  obtain ⟨q1, q2, q3, q4, q5⟩ := ask_cells (g := g6) (show Holds w.heap.size w _ (star (rowP 40 20 (.slice (some ⟨g6, 0, none⟩) 1 1) 1 (askCs C2 ⟨⟨5, 3, 1, aN, 0⟩, 10, 10⟩).toList) (star (cliP b C4) (star (blkP w9.heap.size 46 #[.string aN, .bool false, .int .u64 7]) (star (rowP 40 20 (.slice (some ⟨g, 0, none⟩) 1 1) 1 (askCs (newC 2 3 1) ⟨⟨2, 2, 1, ⟨#[]⟩, 0⟩, 5, 5⟩).toList) none_)))) from H10.out.perm (by ac_rfl))
  have t2 := (blk_at (show Holds w.heap.size w _ (star (blkP w9.heap.size 46 #[.string aN, .bool false, .int .u64 7]) (star (cliP b C4) (star (rowP 40 20 (.slice (some ⟨g6, 0, none⟩) 1 1) 1 (askCs C2 ⟨⟨5, 3, 1, aN, 0⟩, 10, 10⟩).toList) (star (rowP 40 20 (.slice (some ⟨g, 0, none⟩) 1 1) 1 (askCs (newC 2 3 1) ⟨⟨2, 2, 1, ⟨#[]⟩, 0⟩, 5, 5⟩).toList) none_)))) from H10.out.perm (by ac_rfl))).cell 2
  have XS := Lib.hid (x_session H10.out)
  have XV := Lib.hid (x_valid H10.out 704)
  rw [v4] at XV
  have EQ1 := fun w => eql52 w ⟨2, 2, 1, ⟨#[]⟩, 0⟩ ⟨2, 2, 1, ⟨#[]⟩, 0⟩
  rw [show eqC ⟨2, 2, 1, ⟨#[]⟩, 0⟩ ⟨2, 2, 1, ⟨#[]⟩, 0⟩ = true by rfl] at EQ1
  have EQ2 := fun w => eql52 w ⟨5, 3, 1, aN, 0⟩ ⟨5, 3, 1, aN, 0⟩
  rw [show eqC ⟨5, 3, 1, aN, 0⟩ ⟨5, 3, 1, aN, 0⟩ = true by rfl] at EQ2
  unfold Cmd.cs at EQ1 EQ2
  clear hk
  go_wp2_with fail
  refine XS.out.mono ?_
  rintro e w11 ⟨rfl, rfl⟩
  go_wp2_with fail
  refine XV.out.mono ?_
  rintro e w12 ⟨rfl, rfl⟩
  go_wp2_with fail
  go_ret
  exact ⟨rfl, hb _ H10.out.below⟩
end Go.Proofs.Ythlfcinjmljbjaa.A
