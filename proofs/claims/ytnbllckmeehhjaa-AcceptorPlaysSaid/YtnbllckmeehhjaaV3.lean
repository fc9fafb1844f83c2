/-
  The reference's put (chapter 13).
-/
import Derived.Test.YtnbllckmeehhjaaV2
namespace Go.Proofs.Ytnbllckmeehhjaa.A
open Go.RowKit Go.Proofs.Ytnbllckmeehhjaa.U
set_option linter.unusedVariables false
set_option linter.unusedSimpArgs false
set_option maxRecDepth 100000

set_option maxHeartbeats 6400000 in
theorem put31 (w : World) (x : Ent) (A : Option Addr) (c : Nat) (L : List Ent) (h : U.Src w A 7 L.length (ents L)) (hL : L.length ≤ 1000000) (hc : L.length ≤ c) :
    Calls Try.prog 31 #[.slice A L.length c, x.val] w (FreshEnts (putE L x) w) := by
  have hu37 := Try.underlying37
  have hu22 := Try.underlying22
  have HS := Lib.hid h
  have SN := Lib.hid none_stable
  have SR := Lib.hid rowP_stable
  have SB := Lib.hid (show Stable (star (blkP w.heap.size 37 #[.int .i64 x.a, .int .i64 x.b, .int .i64 x.c.k, .int .i64 x.c.s, .int .i64 x.c.q, .string x.c.nm, .int .i64 x.c.n]) none_) from (blkP_stable _ _ _).star SN.out)
  have hb : ∀ w', Below w.heap.size w w' → Keep Nothing w w' := fun w' h => Keep.of_below h _
  have H1 := Lib.hid (Holds.newRow (e := 37) (size := 7) (v := .slice none 0 0) (n := 0) (xs := []) (Holds.newBlk (Holds.start w) SN.out 37 #[.int .i64 x.a, .int .i64 x.b, .int .i64 x.c.k, .int .i64 x.c.s, .int .i64 x.c.q, .string x.c.nm, .int .i64 x.c.n]) SB.out (Row.nil _ 37 7) (Keep.same _ _) (fun k hk => by simp [Value.ownBlock] at hk))
  have hmax : maxLen = 9223372036854775807 := by rfl
  clear h
  unfold Ent.val Ent.cs
  go_enter Try.func31, Try.ntmps31
  go_wp2_with fail
  go_loopw [5, 6] (fun v5 v wr => ∃ (k : Nat) (A5 : Option Addr) (c5 : Nat), k ≤ L.length ∧ v = .int .i64 k ∧ v5 = .slice A5 k c5 ∧ Hid (∀ (j : Nat) (y : Ent), j < k → L[j]? = some y → y.a < x.a) ∧ Holds w.heap.size w wr (star (rowP 37 7 (.slice A5 k c5) k (ents (L.take k))) (star (blkP w.heap.size 37 #[.int .i64 x.a, .int .i64 x.b, .int .i64 x.c.k, .int .i64 x.c.s, .int .i64 x.c.q, .string x.c.nm, .int .i64 x.c.n]) none_))) (fun _ v _ => L.length - (intOf v).toNat)
  case atStart => exact ⟨0, none, 0, by omega, by simp, rfl, Lib.hid (fun j y hj _ => by omega), by rw [List.take_zero]; exact H1.out⟩
  case round =>
    obtain ⟨k, A5, c5, hk, rfl, rfl, hlow, hh⟩ := hrel
    have H := Lib.hid hh
    clear hh
    have ST := Lib.hid ((SR.out 37 7 (.slice A5 k c5) k (ents (L.take k))).star SB.out)
    have BX := blk_at (Holds.second H.out)
    have x0 := BX.cell 0
    have x1 := BX.cell 1
    have x2 := BX.cell 2
    have x3 := BX.cell 3
    have x4 := BX.cell 4
    have x5 := BX.cell 5
    have x6 := BX.cell 6
    clear BX
    have hb1 : k + 1 ≤ maxLen := by omega
    have hb2 : (k + 1) * 64 ≤ 140737488355328 := by omega
    by_cases hlt : k < L.length
    · obtain ⟨ad, y, rfl, hy, he⟩ := ent_at HS.out hlt
      obtain ⟨c0, c1, c2, c3, c4, c5', c6⟩ := he.keep (hb _ H.out.below) (fun h => h)
      have HY := Lib.hid hy
      have HE := Lib.hid he
      clear hy he
      rcases (show decide (y.a < x.a) = true ∨ (decide (y.a < x.a) = false ∧ (y.a == x.a) = true) ∨ (decide (y.a < x.a) = false ∧ (y.a == x.a) = false) by
        cases decide (y.a < x.a) <;> cases (y.a == x.a) <;> simp) with g1 | ⟨g1, g2⟩ | ⟨g1, g2⟩
      · go_wp2_with fail
        go_quiet (fail)
        have R4 := Lib.hid ((H.out.row.drewN nq).alloc (.cells #[.int .i64 y.a, .int .i64 y.b, .int .i64 y.c.k, .int .i64 y.c.s, .int .i64 y.c.q, .string y.c.nm, .int .i64 y.c.n] 37))
        go_wp2_with (at_builtin; refine wpList_app _ rfl EE (.tmp 21) (.tmp 26) rfl R4.out (Src.fresh _ y.cs 37 7 1 rfl) 1 rfl (by simp [Act.eval, Act.put]) (by simp [Value.oneCell']) hb1 hb2 ?_)
        intro v5 w5 hr hg hloc
        obtain ⟨A6, c6', rfl, _, _⟩ := hr.form
        have H5 := Lib.hid (show Holds w.heap.size w w5 (star (rowP 37 7 (.slice A6 (k + 1) c6') (k + 1) (ents (L.take (k + 1)))) (star (blkP w.heap.size 37 #[.int .i64 x.a, .int .i64 x.b, .int .i64 x.c.k, .int .i64 x.c.s, .int .i64 x.c.q, .string x.c.nm, .int .i64 x.c.n]) none_)) from by
          rw [take_one HY.out]
          exact ((H.out.drewN ST.out nq).alloc ST.out (.cells #[.int .i64 y.a, .int .i64 y.b, .int .i64 y.c.k, .int .i64 y.c.s, .int .i64 y.c.q, .string y.c.nm, .int .i64 y.c.n] 37)).grew SB.out hr hg (by simpa using hloc))
        have LO := Lib.hid (show ∀ (j : Nat) (z : Ent), j < k + 1 → L[j]? = some z → z.a < x.a from fun j z hj hz => by
          by_cases hjk : j < k
          · exact hlow.out j z hjk hz
          · obtain rfl : j = k := by omega
            rw [HY.out] at hz
            injection hz with hz
            subst hz
            exact of_decide_eq_true g1)
        clear hr hg hloc g1
        go_wp2_with fail
        go_roundw
        case rel => exact ⟨k + 1, A6, c6', by omega, by go_num, rfl, LO, H5.out⟩
        case measure => simp [intOf]; omega
      · have PUT := Lib.hid (show L.take k ++ [x] ++ L.drop (k + 1) = putE L x from put_old L k hlow.out ⟨y, HY.out, by simpa using g2⟩)
        have PLEN := Lib.hid (show k + 1 + (L.length - (k + 1)) = (putE L x).length by
          rw [← PUT.out]; simp only [List.length_append, List.length_take, List.length_drop, List.length_cons, List.length_nil]; omega)
        have hb3 : k + 1 + (L.length - (k + 1)) ≤ maxLen := by omega
        have hb4 : (k + 1 + (L.length - (k + 1))) * 64 ≤ 140737488355328 := by omega
        have hs1 := fun w => run_from (P := Try.prog) w EE (some ad) L.length c (k + 1) ((k : Int) + 1) (by omega) (by omega)
        obtain ⟨A1, hA1⟩ : ∃ A1, (if c = (k + 1) then (some ad) else Option.map (·.add ((k + 1) * 7)) (some ad)) = A1 := ⟨_, rfl⟩
        have SD0 := src_dropE (k := (k + 1)) HS.out (by omega) hc
        rw [hA1] at SD0
        have SD := Lib.hid SD0
        simp only [hA1] at hs1
        clear hA1 SD0
        have OD := Lib.hid (ents_one (L.drop ((k + 1))))
        go_wp2_with fail
        go_quiet (fail)
        have R4 := Lib.hid ((H.out.row.drewN nq).alloc (.cells #[.int .i64 x.a, .int .i64 x.b, .int .i64 x.c.k, .int .i64 x.c.s, .int .i64 x.c.q, .string x.c.nm, .int .i64 x.c.n] 37))
        go_wp2_with (at_builtin; refine wpList_app _ rfl EE (.tmp 30) (.tmp 32) rfl R4.out (Src.fresh _ x.cs 37 7 1 rfl) 1 rfl (by simp [Act.eval, Act.put]) (by simp [Value.oneCell']) hb1 hb2 ?_)
        intro v5 w5 hr hg hloc
        obtain ⟨A6, c6', rfl, _, _⟩ := hr.form
        have H5 := Lib.hid (show Holds w.heap.size w w5 (star (rowP 37 7 (.slice A6 (k + 1) c6') (k + 1) (ents (L.take k) ++ x.cl)) (star (blkP w.heap.size 37 #[.int .i64 x.a, .int .i64 x.b, .int .i64 x.c.k, .int .i64 x.c.s, .int .i64 x.c.q, .string x.c.nm, .int .i64 x.c.n]) none_)) from
          ((H.out.drewN ST.out nq).alloc ST.out (.cells #[.int .i64 x.a, .int .i64 x.b, .int .i64 x.c.k, .int .i64 x.c.s, .int .i64 x.c.q, .string x.c.nm, .int .i64 x.c.n] 37)).grew SB.out hr hg (by simpa using hloc))
        clear hr hg hloc x0 x1 x2 x3 x4 x5 x6
        have ST6 := Lib.hid ((SR.out 37 7 (.slice A6 (k + 1) c6') (k + 1) (ents (L.take k) ++ x.cl)).star SB.out)
        have BX := blk_at (Holds.second H5.out)
        have z0 := BX.cell 0
        have d0 := (HE.out.keep (hb _ H5.out.below) (fun h => h)).1
        clear BX
        go_wp2_with fail
        go_quiet (fail)
        have R5 := Lib.hid (H5.out.row.drewN nq)
        have SE := Lib.hid (src_keptE SD.out (hb _ (H5.out.drewN ST6.out nq).below))
        go_wp2_with (at_builtin; refine wpList_app _ rfl EE (.tmp 50) (.tmp 53) rfl R5.out SE.out (c - (k + 1)) (by simp [Act.eval, Act.put]) (by simp [Act.eval, Act.put]) OD.out hb3 hb4 ?_)
        intro v6 w6 hr hg hloc
        have H6 := (H5.out.drewN ST6.out nq).grew SB.out hr hg (by simpa using hloc)
        rw [PLEN.out] at H6 hr
        rw [show ents (L.take k) ++ (.int .i64 x.a :: .int .i64 x.b :: .int .i64 x.c.k :: .int .i64 x.c.s :: .int .i64 x.c.q :: .string x.c.nm :: .int .i64 x.c.n :: ents (L.drop ((k + 1)))) = ents (putE L x) by rw [← PUT.out, ents_app, ents_app, ents_one1, List.append_assoc]; rfl] at H6 hr
        obtain ⟨A7, c7, rfl, _, _⟩ := hr.form
        have H7 := Lib.hid H6
        clear hr hg hloc H6
        go_wp2_with fail
        go_ret
        exact ⟨A7, c7, rfl, H7.out.row, hb _ H7.out.below, own_le H7.out⟩
      · have GT := Lib.hid (show x.a < y.a by
          have h1 := of_decide_eq_false g1
          have h2 : y.a ≠ x.a := by simpa using g2
          omega)
        have PUT := Lib.hid (show L.take k ++ [x] ++ L.drop k = putE L x from put_new L k hlow.out (.inr ⟨y, HY.out, GT.out⟩))
        have PLEN := Lib.hid (show k + 1 + (L.length - k) = (putE L x).length by
          rw [← PUT.out]; simp only [List.length_append, List.length_take, List.length_drop, List.length_cons, List.length_nil]; omega)
        have hb3 : k + 1 + (L.length - k) ≤ maxLen := by omega
        have hb4 : (k + 1 + (L.length - k)) * 64 ≤ 140737488355328 := by omega
        have hs1 := fun w => run_from (P := Try.prog) w EE (some ad) L.length c k (k : Int) rfl (by omega)
        obtain ⟨A1, hA1⟩ : ∃ A1, (if c = k then (some ad) else Option.map (·.add (k * 7)) (some ad)) = A1 := ⟨_, rfl⟩
        have SD0 := src_dropE (k := k) HS.out (by omega) hc
        rw [hA1] at SD0
        have SD := Lib.hid SD0
        simp only [hA1] at hs1
        clear hA1 SD0
        have OD := Lib.hid (ents_one (L.drop (k)))
        go_wp2_with fail
        go_quiet (fail)
        have R4 := Lib.hid ((H.out.row.drewN nq).alloc (.cells #[.int .i64 x.a, .int .i64 x.b, .int .i64 x.c.k, .int .i64 x.c.s, .int .i64 x.c.q, .string x.c.nm, .int .i64 x.c.n] 37))
        go_wp2_with (at_builtin; refine wpList_app _ rfl EE (.tmp 30) (.tmp 32) rfl R4.out (Src.fresh _ x.cs 37 7 1 rfl) 1 rfl (by simp [Act.eval, Act.put]) (by simp [Value.oneCell']) hb1 hb2 ?_)
        intro v5 w5 hr hg hloc
        obtain ⟨A6, c6', rfl, _, _⟩ := hr.form
        have H5 := Lib.hid (show Holds w.heap.size w w5 (star (rowP 37 7 (.slice A6 (k + 1) c6') (k + 1) (ents (L.take k) ++ x.cl)) (star (blkP w.heap.size 37 #[.int .i64 x.a, .int .i64 x.b, .int .i64 x.c.k, .int .i64 x.c.s, .int .i64 x.c.q, .string x.c.nm, .int .i64 x.c.n]) none_)) from
          ((H.out.drewN ST.out nq).alloc ST.out (.cells #[.int .i64 x.a, .int .i64 x.b, .int .i64 x.c.k, .int .i64 x.c.s, .int .i64 x.c.q, .string x.c.nm, .int .i64 x.c.n] 37)).grew SB.out hr hg (by simpa using hloc))
        clear hr hg hloc x0 x1 x2 x3 x4 x5 x6
        have ST6 := Lib.hid ((SR.out 37 7 (.slice A6 (k + 1) c6') (k + 1) (ents (L.take k) ++ x.cl)).star SB.out)
        have BX := blk_at (Holds.second H5.out)
        have z0 := BX.cell 0
        have d0 := (HE.out.keep (hb _ H5.out.below) (fun h => h)).1
        clear BX
        go_wp2_with fail
        go_quiet (fail)
        have R5 := Lib.hid (H5.out.row.drewN nq)
        have SE := Lib.hid (src_keptE SD.out (hb _ (H5.out.drewN ST6.out nq).below))
        go_wp2_with (at_builtin; refine wpList_app _ rfl EE (.tmp 50) (.tmp 53) rfl R5.out SE.out (c - k) (by simp [Act.eval, Act.put]) (by simp [Act.eval, Act.put]) OD.out hb3 hb4 ?_)
        intro v6 w6 hr hg hloc
        have H6 := (H5.out.drewN ST6.out nq).grew SB.out hr hg (by simpa using hloc)
        rw [PLEN.out] at H6 hr
        rw [show ents (L.take k) ++ (.int .i64 x.a :: .int .i64 x.b :: .int .i64 x.c.k :: .int .i64 x.c.s :: .int .i64 x.c.q :: .string x.c.nm :: .int .i64 x.c.n :: ents (L.drop (k))) = ents (putE L x) by rw [← PUT.out, ents_app, ents_app, ents_one1, List.append_assoc]; rfl] at H6 hr
        obtain ⟨A7, c7, rfl, _, _⟩ := hr.form
        have H7 := Lib.hid H6
        clear hr hg hloc H6
        go_wp2_with fail
        go_ret
        exact ⟨A7, c7, rfl, H7.out.row, hb _ H7.out.below, own_le H7.out⟩
    · have hlt2 : decide (k < L.length) = false := decide_eq_false hlt
      have PUT := Lib.hid (show L.take k ++ [x] ++ L.drop k = putE L x from put_new L k hlow.out (.inl (by omega)))
      have PLEN := Lib.hid (show k + 1 + (L.length - k) = (putE L x).length by
        rw [← PUT.out]; simp only [List.length_append, List.length_take, List.length_drop, List.length_cons, List.length_nil]; omega)
      have hb3 : k + 1 + (L.length - k) ≤ maxLen := by omega
      have hb4 : (k + 1 + (L.length - k)) * 64 ≤ 140737488355328 := by omega
      have hs1 := fun w => run_from (P := Try.prog) w EE A L.length c k (k : Int) rfl (by omega)
      obtain ⟨A1, hA1⟩ : ∃ A1, (if c = k then A else Option.map (·.add (k * 7)) A) = A1 := ⟨_, rfl⟩
      have SD0 := src_dropE (k := k) HS.out (by omega) hc
      rw [hA1] at SD0
      have SD := Lib.hid SD0
      simp only [hA1] at hs1
      clear hA1 SD0
      have OD := Lib.hid (ents_one (L.drop (k)))
      go_wp2_with fail
      go_quiet (fail)
      have R4 := Lib.hid ((H.out.row.drewN nq).alloc (.cells #[.int .i64 x.a, .int .i64 x.b, .int .i64 x.c.k, .int .i64 x.c.s, .int .i64 x.c.q, .string x.c.nm, .int .i64 x.c.n] 37))
      go_wp2_with (at_builtin; refine wpList_app _ rfl EE (.tmp 30) (.tmp 32) rfl R4.out (Src.fresh _ x.cs 37 7 1 rfl) 1 rfl (by simp [Act.eval, Act.put]) (by simp [Value.oneCell']) hb1 hb2 ?_)
      intro v5 w5 hr hg hloc
      obtain ⟨A6, c6', rfl, _, _⟩ := hr.form
      have H5 := Lib.hid (show Holds w.heap.size w w5 (star (rowP 37 7 (.slice A6 (k + 1) c6') (k + 1) (ents (L.take k) ++ x.cl)) (star (blkP w.heap.size 37 #[.int .i64 x.a, .int .i64 x.b, .int .i64 x.c.k, .int .i64 x.c.s, .int .i64 x.c.q, .string x.c.nm, .int .i64 x.c.n]) none_)) from
        ((H.out.drewN ST.out nq).alloc ST.out (.cells #[.int .i64 x.a, .int .i64 x.b, .int .i64 x.c.k, .int .i64 x.c.s, .int .i64 x.c.q, .string x.c.nm, .int .i64 x.c.n] 37)).grew SB.out hr hg (by simpa using hloc))
      clear hr hg hloc x0 x1 x2 x3 x4 x5 x6
      have ST6 := Lib.hid ((SR.out 37 7 (.slice A6 (k + 1) c6') (k + 1) (ents (L.take k) ++ x.cl)).star SB.out)
      have BX := blk_at (Holds.second H5.out)
      have z0 := BX.cell 0
      clear BX
      go_wp2_with fail
      go_quiet (fail)
      have R5 := Lib.hid (H5.out.row.drewN nq)
      have SE := Lib.hid (src_keptE SD.out (hb _ (H5.out.drewN ST6.out nq).below))
      go_wp2_with (at_builtin; refine wpList_app _ rfl EE (.tmp 50) (.tmp 53) rfl R5.out SE.out (c - k) (by simp [Act.eval, Act.put]) (by simp [Act.eval, Act.put]) OD.out hb3 hb4 ?_)
      intro v6 w6 hr hg hloc
      have H6 := (H5.out.drewN ST6.out nq).grew SB.out hr hg (by simpa using hloc)
      rw [PLEN.out] at H6 hr
      rw [show ents (L.take k) ++ (.int .i64 x.a :: .int .i64 x.b :: .int .i64 x.c.k :: .int .i64 x.c.s :: .int .i64 x.c.q :: .string x.c.nm :: .int .i64 x.c.n :: ents (L.drop (k))) = ents (putE L x) by rw [← PUT.out, ents_app, ents_app, ents_one1, List.append_assoc]; rfl] at H6 hr
      obtain ⟨A7, c7, rfl, _, _⟩ := hr.form
      have H7 := Lib.hid H6
      clear hr hg hloc H6
      go_wp2_with fail
      go_ret
      exact ⟨A7, c7, rfl, H7.out.row, hb _ H7.out.below, own_le H7.out⟩
end Go.Proofs.Ytnbllckmeehhjaa.A
