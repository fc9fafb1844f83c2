/-
  CmdsDecodes: any text as a command, as an entry.
-/
import Derived.Test.YtjojibgihoebaaaV3
import Derived.Test.YtjojibgihoebaaaT10
namespace Go.Proofs.Ytjojibgihoebaaa.A
open Go.RowKit Go.Proofs.Ytjojibgihoebaaa.U
set_option linter.unusedVariables false
set_option linter.unusedSimpArgs false
set_option maxRecDepth 100000

set_option maxHeartbeats 6400000 in
theorem decodes_calls (w : World) (s : ByteArray) (hs : s.size ≤ 9223372036854775807) : Calls Try.prog 10 #[.string s] w (fun e w' => e = .returned (.bool true) ∧ Keep Nothing w w') := by
  have hu := Try.underlying52
  have hu2 := Try.underlying54
  have SN := Lib.hid none_stable
  have SB := Lib.hid blkP_stable
  have H0 := Lib.hid (Holds.start w)
  have E1 := Lib.hid (fun w => dec_calls w s hs)
  have E2 := Lib.hid (fun w => rdec_calls w s hs)
  have E3 := Lib.hid (fun w => edec_calls w s hs)
  have E4 := Lib.hid (fun w => redec_calls w s hs)
  generalize decR s = c at *
  generalize eR s = x at *
  generalize okF (decOk s) = o1 at *
  generalize okF (eOk s) = o2 at *
  have Q1 := Lib.hid (fun w => eql52 w c c)
  have Q2 := Lib.hid (fun w => eql54 w x x)
  rw [eqC_same] at Q1
  rw [eqE_same] at Q2
  clear hs
  unfold Cmd.val at E1 E2
  unfold Cmd.cs at E1 E2 Q1
  unfold Ent.val at E3 E4
  unfold Ent.cs at Q2
  go_enter Try.func10, Try.ntmps10
  go_wp2_with fail
  refine (E1.out _).mono ?_
  rintro e w1 ⟨rfl, hk⟩
  have H1 := Lib.hid ((H0.out.kept SN.out hk).newBlk SN.out 52 #[.int .i64 c.k, .int .i64 c.s, .int .i64 c.q, .string c.nm, .int .i64 c.n])
  clear hk
  go_wp2_with fail
  refine (E2.out _).mono ?_
  rintro e w2 ⟨rfl, hk⟩
  have H2 := Lib.hid ((H1.out.kept ((SB.out _ _ _).star SN.out) hk).newBlk ((SB.out _ _ _).star SN.out) 52 #[.int .i64 c.k, .int .i64 c.s, .int .i64 c.q, .string c.nm, .int .i64 c.n])
  clear hk
  go_wp2_with fail
  refine (E3.out _).mono ?_
  rintro e w3 ⟨rfl, hk⟩
  have H3 := Lib.hid ((H2.out.kept ((SB.out _ _ _).star ((SB.out _ _ _).star SN.out)) hk).newBlk ((SB.out _ _ _).star ((SB.out _ _ _).star SN.out)) 54 #[.int .i64 x.a, .int .i64 x.b, .int .i64 x.c.k, .int .i64 x.c.s, .int .i64 x.c.q, .string x.c.nm, .int .i64 x.c.n])
  clear hk
  go_wp2_with fail
  refine (E4.out _).mono ?_
  rintro e w4 ⟨rfl, hk⟩
  have H4 := Lib.hid ((H3.out.kept ((SB.out _ _ _).star ((SB.out _ _ _).star ((SB.out _ _ _).star SN.out))) hk).newBlk ((SB.out _ _ _).star ((SB.out _ _ _).star ((SB.out _ _ _).star SN.out))) 54 #[.int .i64 x.a, .int .i64 x.b, .int .i64 x.c.k, .int .i64 x.c.s, .int .i64 x.c.q, .string x.c.nm, .int .i64 x.c.n])
  clear hk
  have a0 := (blk_at H4.out).cell 0
  have a1 := (blk_at H4.out).cell 1
  have a2 := (blk_at H4.out).cell 2
  have a3 := (blk_at H4.out).cell 3
  have a4 := (blk_at H4.out).cell 4
  have a5 := (blk_at H4.out).cell 5
  have a6 := (blk_at H4.out).cell 6
  have b0 := (blk_at H4.out.drop).cell 0
  have b1 := (blk_at H4.out.drop).cell 1
  have b2 := (blk_at H4.out.drop).cell 2
  have b3 := (blk_at H4.out.drop).cell 3
  have b4 := (blk_at H4.out.drop).cell 4
  have b5 := (blk_at H4.out.drop).cell 5
  have b6 := (blk_at H4.out.drop).cell 6
  have c0 := (blk_at H4.out.drop.drop).cell 0
  have c1 := (blk_at H4.out.drop.drop).cell 1
  have c2 := (blk_at H4.out.drop.drop).cell 2
  have c3 := (blk_at H4.out.drop.drop).cell 3
  have c4 := (blk_at H4.out.drop.drop).cell 4
  have d0 := (blk_at H4.out.drop.drop.drop).cell 0
  have d1 := (blk_at H4.out.drop.drop.drop).cell 1
  have d2 := (blk_at H4.out.drop.drop.drop).cell 2
  have d3 := (blk_at H4.out.drop.drop.drop).cell 3
  have d4 := (blk_at H4.out.drop.drop.drop).cell 4
  have q1 := Q1.out
  have q2 := Q2.out
  go_wp2_with fail
  refine (cawake_calls _).mono ?_
  rintro e w5 ⟨rfl, hk⟩
  have H5 := Lib.hid (H4.out.kept ((SB.out _ _ _).star ((SB.out _ _ _).star ((SB.out _ _ _).star ((SB.out _ _ _).star SN.out)))) hk)
  clear hk
  go_wp2_with fail
  go_ret
  exact ⟨rfl, Keep.of_below H5.out.below _⟩
theorem string_size {H : Type} {enc : TypeId × Value → H} {W : World} {b0 : Nat} {s : ByteArray} {d : DataW H} {p : List MemPlace} (h : DataW.Trod enc Try.prog W b0 (fun _ => true) true 9 (.string s) d p) : s.size ≤ 9223372036854775807 := by
  obtain ⟨fuel, hf⟩ := h
  obtain ⟨s', e0, _, hm⟩ := DataW.trod_string Try.underlying9 hf
  simp [Value.cells] at e0
  rw [e0]
  exact hm
open Go.ChangeShapes Go.WideShapes Go.ChangeAt in
theorem decodes_law : R.Law 10 Try.f10 R.any := by
  intro H enc W base args ds p hval hA hsz _ hlt
  rw [Try.params10] at hA hval
  obtain ⟨v0, vs0, d0, ds0, p0, q0, hargs, rfl, rfl, h0, r0⟩ := trodAll_cons hA
  obtain ⟨rfl, rfl, rfl⟩ := trodAll_nil r0
  obtain rfl : args = #[v0] := by cases args; simp_all
  obtain ⟨s, rfl⟩ := okWide_string Try.underlying9 (hval 0 9 v0 rfl rfl)
  exact (decodes_calls W s (string_size h0)).mono fun e w' h => ⟨h.1, h.2.below (Nat.le_refl _) (fun _ h => h.elim)⟩
end Go.Proofs.Ytjojibgihoebaaa.A
