/-
  CmdsBack: what was encoded is decoded as it was; what is decoded of any text is encoded as that text (T7).
-/
import Derived.Test.YtjojibgihoebaaaV6
namespace Go.Proofs.Ytjojibgihoebaaa.A
open Go.RowKit Go.Proofs.Ytjojibgihoebaaa.U
set_option linter.unusedVariables false
set_option linter.unusedSimpArgs false
set_option maxRecDepth 100000

theorem okF_eq (b : Bool) : (okF b == 0) = b := by cases b <;> rfl
set_option maxHeartbeats 12800000 in
theorem cback_calls (w : World) (x : Ent) (s : ByteArray) (hx : EIn64 x) (hs : s.size ≤ 9223372036854775807) : Calls Try.prog 11 #[x.val, .string s] w (fun e w' => e = .returned (.bool true) ∧ Keep Nothing w w') := by
  have hu := Try.underlying52
  have hu2 := Try.underlying54
  have hb : ∀ w', Below w.heap.size w w' → Keep Nothing w w' := fun w' h => Keep.of_below h _
  have SN := Lib.hid none_stable
  have SB := Lib.hid blkP_stable
  have H0 := Lib.hid ((Holds.start w).newBlk none_stable 54 (ecs x))
  have E1 := Lib.hid (fun w => eenc_calls w x hx)
  have D1 := Lib.hid (fun w => dec_calls w s hs)
  have A0 := Lib.hid cawake_calls
  have Z1 : Hid (∀ w, (binOp .eql 52 (.agg zcs) (.agg zcs)).run Try.prog w = .ok (.bool true) w) := Lib.hid fun w => eql52 w zeroC zeroC
  cases hd : decOk s with
  | true =>
    obtain ⟨hm, he⟩ := enc_dec hd
    have hr : decR s = decC s := decR_ok hd
    have E2 := Lib.hid (fun w => enc_calls w (decC s) (decC_64 s))
    rw [hm, he] at E2
    rw [hd, hr] at D1
    generalize decC s = c at *
    unfold Cmd.val Cmd.cs at E2 D1
    cases hxb : entB x with
    | true =>
      obtain ⟨e1, e2⟩ := edec_enc hx hxb
      have hz : (entS x).size ≤ 9223372036854775807 := by
        have l1 := u64L_len10 _ (zig_lt hx.a.1 hx.a.2)
        have l2 := u64L_len10 _ (zig_lt hx.b.1 hx.b.2)
        have hz := encS_size hx.c
        have l3 := u64L_len10 (encS x.c).size (by omega)
        have l4 := size_list (encS x.c)
        rw [entS_may hxb, ofL_size]
        unfold entL
        simp only [List.length_append, List.length_nil]
        omega
      have E3 := Lib.hid (fun w => edec_calls w (entS x) hz)
      rw [e2, show eR (entS x) = x by unfold eR; rw [if_pos e2, e1]] at E3
      rw [hxb] at E1
      have Q2 := Lib.hid (fun w => neq54 w x x)
      rw [eqE_same] at Q2
      generalize entS x = se at *
      clear hx hs hz hm he hr e1 e2 hd hxb
      unfold Ent.val at E1 E3 ⊢
      unfold Ent.cs at Q2
      have o1 : okE true = 0 := rfl
      rw [o1] at E1
      clear o1
      go_enter Try.func11, Try.ntmps11
      have d0 := (blk_at H0.out).cell 0
      have d1 := (blk_at H0.out).cell 1
      have d2 := (blk_at H0.out).cell 2
      have d3 := (blk_at H0.out).cell 3
      have d4 := (blk_at H0.out).cell 4
      have d5 := (blk_at H0.out).cell 5
      have d6 := (blk_at H0.out).cell 6
      go_wp2_with fail
      clear d0 d1 d2 d3 d4 d5 d6
      refine (E1.out _).mono ?_
      rintro e w1 ⟨rfl, hk⟩
      have H1 := Lib.hid (H0.out.kept ((SB.out _ _ _).star SN.out) hk)
      clear hk
      go_wp2_with fail
      have o1 : okF true = 0 := rfl
      rw [o1] at E3
      clear o1
      refine (E3.out _).mono ?_
      rintro e w2 ⟨rfl, hk⟩
      have H2 := Lib.hid ((H1.out.kept ((SB.out _ _ _).star SN.out) hk).newBlk ((SB.out _ _ _).star SN.out) 54 #[.int .i64 x.a, .int .i64 x.b, .int .i64 x.c.k, .int .i64 x.c.s, .int .i64 x.c.q, .string x.c.nm, .int .i64 x.c.n])
      clear hk
      have d0 := (blk_at H2.out).cell 0
      have d1 := (blk_at H2.out).cell 1
      have d2 := (blk_at H2.out).cell 2
      have d3 := (blk_at H2.out).cell 3
      have d4 := (blk_at H2.out).cell 4
      have d5 := (blk_at H2.out).cell 5
      have d6 := (blk_at H2.out).cell 6
      have c0 := (blk_at H2.out.drop).cell 0
      have c1 := (blk_at H2.out.drop).cell 1
      have c2 := (blk_at H2.out.drop).cell 2
      have c3 := (blk_at H2.out.drop).cell 3
      have c4 := (blk_at H2.out.drop).cell 4
      have c5 := (blk_at H2.out.drop).cell 5
      have c6 := (blk_at H2.out.drop).cell 6
      have q2 := Q2.out
      go_wp2_with fail
      clear q2 d0 c0 d1 c1 d2 c2 d3 c3 d4 c4 d5 c5 d6 c6
      have o1 : okF true = 0 := rfl
      rw [o1] at D1
      clear o1
      refine (D1.out _).mono ?_
      rintro e w3 ⟨rfl, hk⟩
      have H3 := Lib.hid ((H2.out.kept ((SB.out _ _ _).star ((SB.out _ _ _).star SN.out)) hk).newBlk ((SB.out _ _ _).star ((SB.out _ _ _).star SN.out)) 52 #[.int .i64 c.k, .int .i64 c.s, .int .i64 c.q, .string c.nm, .int .i64 c.n])
      clear hk
      have c0 := (blk_at H3.out).cell 0
      have c1 := (blk_at H3.out).cell 1
      have c2 := (blk_at H3.out).cell 2
      have c3 := (blk_at H3.out).cell 3
      have c4 := (blk_at H3.out).cell 4
      go_wp2_with fail
      have o1 : okE true = 0 := rfl
      rw [o1] at E2
      clear o1
      refine (E2.out _).mono ?_
      rintro e w4 ⟨rfl, hk⟩
      have H4 := Lib.hid (H3.out.kept ((SB.out _ _ _).star ((SB.out _ _ _).star ((SB.out _ _ _).star SN.out))) hk)
      clear hk
      go_wp2_with fail
      refine (A0.out _).mono ?_
      rintro e w5 ⟨rfl, hk⟩
      have H5 := Lib.hid (H4.out.kept ((SB.out _ _ _).star ((SB.out _ _ _).star ((SB.out _ _ _).star SN.out))) hk)
      clear hk
      go_wp2_with fail
      go_ret
      exact ⟨rfl, hb _ H5.out.below⟩
    | false =>
      rw [hxb] at E1
      generalize entS x = se at *
      clear hx hs hm he hr hd hxb
      unfold Ent.val at E1 ⊢
      have o1 : okE false = 1 := rfl
      rw [o1] at E1
      clear o1
      go_enter Try.func11, Try.ntmps11
      have d0 := (blk_at H0.out).cell 0
      have d1 := (blk_at H0.out).cell 1
      have d2 := (blk_at H0.out).cell 2
      have d3 := (blk_at H0.out).cell 3
      have d4 := (blk_at H0.out).cell 4
      have d5 := (blk_at H0.out).cell 5
      have d6 := (blk_at H0.out).cell 6
      go_wp2_with fail
      clear d0 d1 d2 d3 d4 d5 d6
      refine (E1.out _).mono ?_
      rintro e w1 ⟨rfl, hk⟩
      have H1 := Lib.hid (H0.out.kept ((SB.out _ _ _).star SN.out) hk)
      clear hk
      go_wp2_with fail
      have o1 : okF true = 0 := rfl
      rw [o1] at D1
      clear o1
      refine (D1.out _).mono ?_
      rintro e w3 ⟨rfl, hk⟩
      have H3 := Lib.hid ((H1.out.kept ((SB.out _ _ _).star SN.out) hk).newBlk ((SB.out _ _ _).star SN.out) 52 #[.int .i64 c.k, .int .i64 c.s, .int .i64 c.q, .string c.nm, .int .i64 c.n])
      clear hk
      have c0 := (blk_at H3.out).cell 0
      have c1 := (blk_at H3.out).cell 1
      have c2 := (blk_at H3.out).cell 2
      have c3 := (blk_at H3.out).cell 3
      have c4 := (blk_at H3.out).cell 4
      go_wp2_with fail
      have o1 : okE true = 0 := rfl
      rw [o1] at E2
      clear o1
      refine (E2.out _).mono ?_
      rintro e w4 ⟨rfl, hk⟩
      have H4 := Lib.hid (H3.out.kept ((SB.out _ _ _).star ((SB.out _ _ _).star SN.out)) hk)
      clear hk
      go_wp2_with fail
      refine (A0.out _).mono ?_
      rintro e w5 ⟨rfl, hk⟩
      have H5 := Lib.hid (H4.out.kept ((SB.out _ _ _).star ((SB.out _ _ _).star SN.out)) hk)
      clear hk
      go_wp2_with fail
      go_ret
      exact ⟨rfl, hb _ H5.out.below⟩
  | false =>
    have hr : decR s = zeroC := by unfold decR; rw [hd]; rfl
    rw [hd, hr] at D1
    replace D1 : Hid (∀ w, Calls Try.prog 40 #[.string s] w (fun e w' => e = .returned (.tuple #[.agg #[.int .i64 0, .int .i64 0, .int .i64 0, .string ByteArray.empty, .int .i64 0], .int .i64 (okF false)]) ∧ Keep Nothing w w')) := D1
    cases hxb : entB x with
    | true =>
      obtain ⟨e1, e2⟩ := edec_enc hx hxb
      have hz : (entS x).size ≤ 9223372036854775807 := by
        have l1 := u64L_len10 _ (zig_lt hx.a.1 hx.a.2)
        have l2 := u64L_len10 _ (zig_lt hx.b.1 hx.b.2)
        have hz := encS_size hx.c
        have l3 := u64L_len10 (encS x.c).size (by omega)
        have l4 := size_list (encS x.c)
        rw [entS_may hxb, ofL_size]
        unfold entL
        simp only [List.length_append, List.length_nil]
        omega
      have E3 := Lib.hid (fun w => edec_calls w (entS x) hz)
      rw [e2, show eR (entS x) = x by unfold eR; rw [if_pos e2, e1]] at E3
      rw [hxb] at E1
      have Q2 := Lib.hid (fun w => neq54 w x x)
      rw [eqE_same] at Q2
      generalize entS x = se at *
      clear hx hs hz hr e1 e2 hd hxb
      unfold Ent.val at E1 E3 ⊢
      unfold Ent.cs at Q2
      have o1 : okE true = 0 := rfl
      rw [o1] at E1
      clear o1
      go_enter Try.func11, Try.ntmps11
      have d0 := (blk_at H0.out).cell 0
      have d1 := (blk_at H0.out).cell 1
      have d2 := (blk_at H0.out).cell 2
      have d3 := (blk_at H0.out).cell 3
      have d4 := (blk_at H0.out).cell 4
      have d5 := (blk_at H0.out).cell 5
      have d6 := (blk_at H0.out).cell 6
      go_wp2_with fail
      clear d0 d1 d2 d3 d4 d5 d6
      refine (E1.out _).mono ?_
      rintro e w1 ⟨rfl, hk⟩
      have H1 := Lib.hid (H0.out.kept ((SB.out _ _ _).star SN.out) hk)
      clear hk
      go_wp2_with fail
      have o1 : okF true = 0 := rfl
      rw [o1] at E3
      clear o1
      refine (E3.out _).mono ?_
      rintro e w2 ⟨rfl, hk⟩
      have H2 := Lib.hid ((H1.out.kept ((SB.out _ _ _).star SN.out) hk).newBlk ((SB.out _ _ _).star SN.out) 54 #[.int .i64 x.a, .int .i64 x.b, .int .i64 x.c.k, .int .i64 x.c.s, .int .i64 x.c.q, .string x.c.nm, .int .i64 x.c.n])
      clear hk
      have d0 := (blk_at H2.out).cell 0
      have d1 := (blk_at H2.out).cell 1
      have d2 := (blk_at H2.out).cell 2
      have d3 := (blk_at H2.out).cell 3
      have d4 := (blk_at H2.out).cell 4
      have d5 := (blk_at H2.out).cell 5
      have d6 := (blk_at H2.out).cell 6
      have c0 := (blk_at H2.out.drop).cell 0
      have c1 := (blk_at H2.out.drop).cell 1
      have c2 := (blk_at H2.out.drop).cell 2
      have c3 := (blk_at H2.out.drop).cell 3
      have c4 := (blk_at H2.out.drop).cell 4
      have c5 := (blk_at H2.out.drop).cell 5
      have c6 := (blk_at H2.out.drop).cell 6
      have q2 := Q2.out
      go_wp2_with fail
      clear q2 d0 c0 d1 c1 d2 c2 d3 c3 d4 c4 d5 c5 d6 c6
      have o1 : okF false = 2 := rfl
      rw [o1] at D1
      clear o1
      refine (D1.out _).mono ?_
      rintro e w3 ⟨rfl, hk⟩
      have H3 := Lib.hid ((H2.out.kept ((SB.out _ _ _).star ((SB.out _ _ _).star SN.out)) hk).newBlk ((SB.out _ _ _).star ((SB.out _ _ _).star SN.out)) 52 zcs)
      clear hk
      have c0 := (blk_at H3.out).cell 0
      have c1 := (blk_at H3.out).cell 1
      have c2 := (blk_at H3.out).cell 2
      have c3 := (blk_at H3.out).cell 3
      have c4 := (blk_at H3.out).cell 4
      have z1 := Z1.out
      have H4 := H3
      go_wp2_with fail
      refine (A0.out _).mono ?_
      rintro e w5 ⟨rfl, hk⟩
      have H5 := Lib.hid (H4.out.kept ((SB.out _ _ _).star ((SB.out _ _ _).star ((SB.out _ _ _).star SN.out))) hk)
      clear hk
      go_wp2_with fail
      go_ret
      exact ⟨rfl, hb _ H5.out.below⟩
    | false =>
      rw [hxb] at E1
      generalize entS x = se at *
      clear hx hs hr hd hxb
      unfold Ent.val at E1 ⊢
      have o1 : okE false = 1 := rfl
      rw [o1] at E1
      clear o1
      go_enter Try.func11, Try.ntmps11
      have d0 := (blk_at H0.out).cell 0
      have d1 := (blk_at H0.out).cell 1
      have d2 := (blk_at H0.out).cell 2
      have d3 := (blk_at H0.out).cell 3
      have d4 := (blk_at H0.out).cell 4
      have d5 := (blk_at H0.out).cell 5
      have d6 := (blk_at H0.out).cell 6
      go_wp2_with fail
      clear d0 d1 d2 d3 d4 d5 d6
      refine (E1.out _).mono ?_
      rintro e w1 ⟨rfl, hk⟩
      have H1 := Lib.hid (H0.out.kept ((SB.out _ _ _).star SN.out) hk)
      clear hk
      go_wp2_with fail
      have o1 : okF false = 2 := rfl
      rw [o1] at D1
      clear o1
      refine (D1.out _).mono ?_
      rintro e w3 ⟨rfl, hk⟩
      have H3 := Lib.hid ((H1.out.kept ((SB.out _ _ _).star SN.out) hk).newBlk ((SB.out _ _ _).star SN.out) 52 zcs)
      clear hk
      have c0 := (blk_at H3.out).cell 0
      have c1 := (blk_at H3.out).cell 1
      have c2 := (blk_at H3.out).cell 2
      have c3 := (blk_at H3.out).cell 3
      have c4 := (blk_at H3.out).cell 4
      have z1 := Z1.out
      have H4 := H3
      go_wp2_with fail
      refine (A0.out _).mono ?_
      rintro e w5 ⟨rfl, hk⟩
      have H5 := Lib.hid (H4.out.kept ((SB.out _ _ _).star ((SB.out _ _ _).star SN.out)) hk)
      clear hk
      go_wp2_with fail
      go_ret
      exact ⟨rfl, hb _ H5.out.below⟩
open Go.ChangeShapes Go.WideShapes Go.ChangeAt in
theorem cback_law : R.Law 11 Try.f11 R.any := by
  intro H enc W base args ds p hval hA hsz _ hlt
  rw [Try.params11] at hA hval
  obtain ⟨v0, vs0, d0, ds0, p0, q0, hargs, rfl, rfl, h0, r0⟩ := trodAll_cons hA
  obtain ⟨v1, vs1, d1, ds1, p1, q1, rfl, rfl, rfl, h1, r1⟩ := trodAll_cons r0
  obtain ⟨rfl, rfl, rfl⟩ := trodAll_nil r1
  obtain rfl : args = #[v0, v1] := by cases args; simp_all
  obtain ⟨cs, n, rfl, ht⟩ := R.open_whole Try.underlying54 (hval 0 54 v0 rfl rfl) h0
  obtain ⟨x, hx, x64, _⟩ := ent_cells ht
  obtain rfl : cs = x.cs := Array.ext' hx
  obtain ⟨s, rfl⟩ := okWide_string Try.underlying9 (hval 1 9 v1 rfl rfl)
  exact (cback_calls W x s x64 (string_size h1)).mono fun e w' h => ⟨h.1, h.2.below (Nat.le_refl _) (fun _ h => h.elim)⟩
end Go.Proofs.Ytjojibgihoebaaa.A
