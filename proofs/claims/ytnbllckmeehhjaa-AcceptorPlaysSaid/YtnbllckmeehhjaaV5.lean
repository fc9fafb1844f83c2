/-
  AcceptorRecords.
-/
import Derived.Test.YtnbllckmeehhjaaV1
import Derived.Test.YtnbllckmeehhjaaV4
import Derived.Test.YtnbllckmeehhjaaZ
namespace Go.Proofs.Ytnbllckmeehhjaa.A
open Go.RowKit Go.Proofs.Ytnbllckmeehhjaa.U
set_option linter.unusedVariables false
set_option linter.unusedSimpArgs false
set_option maxRecDepth 100000

/-- A new acceptor beside other things. -/
theorem x_newD {B : Nat} {w0 w : World} {Q : SP} (h : Holds B w0 w Q) (hQ : Stable Q) (d : DS) (A : Option Addr) (c : Nat) (hs : U.Src w A 7 d.es.length (ents d.es)) (hL : d.es.length ≤ 300000) :
    Calls Try.prog 10 #[dval d A c] w (fun e w' => ∃ a, e = .returned (.pointer (some ⟨a, 0, none⟩)) ∧ Holds B w0 w' (star (dP 60 a (newD d)) Q)) := by
  refine (new10 w d A c hs hL).mono fun e w' ⟨a, he, hh⟩ => ⟨a, he, ?_⟩
  obtain ⟨F, ⟨F1, F2, h1, h2, h3, h4⟩, hb, hB, hF⟩ := hh
  exact h.more hQ (F := F1) h1 (Keep.of_below hb Nothing) (fun k hk => hF k ((h4 k).2 (.inl hk)))
theorem prep_rise {D : DS} (h : Rise D.es) (b : Int) : Rise (prep D b).1.es := by
  unfold prep; split <;> exact h
theorem accp_rise {D : DS} (h : Rise D.es) (b : Int) (e : Ent) : Rise (accp D b e).1.es := by
  unfold accp; split
  · exact h
  · split
    · exact rise_put _ h
    · exact h
theorem recP_len (D : DS) (b : Int) : (recP D b).length ≤ 1 := by unfold recP; split <;> simp
theorem prep_recs (D : DS) (b : Int) : (prep D b).2.2.length ≤ 2 := by
  have := recP_len D b
  unfold prep; split
  · simp
  · show (recP D b).length ≤ 2; omega
theorem accp_recs (D : DS) (b : Int) (e : Ent) : (accp D b e).2.2.length ≤ 2 := by
  have := recP_len D b
  unfold accp; split
  · simp
  · split
    · show (recP D b ++ _).length ≤ 2; simp; omega
    · show (recP D b).length ≤ 2; omega
theorem saneB_len {d : DS} (h : saneB d = true) : d.es.length ≤ 1000 ∧ Rise d.es := by
  unfold saneB at h
  simp only [Bool.and_eq_true, decide_eq_true_eq] at h
  exact ⟨h.2, (okFrom_rise h.1.1.1).1⟩
set_option maxHeartbeats 25600000 in
theorem arecords_calls (w : World) (d : DS) (A : Option Addr) (c : Nat) (hs : U.Src w A 7 d.es.length (ents d.es)) (hdl : d.es.length ≤ 4611686018427387904) (Al : Option Addr) (len cap : Nat) (l : List ADeed) (hA : R.Args w w.heap.size Al len 10 ADeed.cl l) (hlen : len ≤ cap) (hcap : cap ≤ maxLen) :
    Calls Try.prog 3 #[dval d A c, .slice Al len cap] w (fun e w' => e = .returned (.bool true) ∧ Keep Nothing w w') := by
  have HA := Lib.hid hA
  have hu39 := Try.underlying39
  have hu37 := Try.underlying37
  have hu33 := Try.underlying33
  have hu24 := Try.underlying24
  have hb : ∀ w', Below w.heap.size w w' → Keep Nothing w w' := fun w' h => Keep.of_below h _
  have hmax : maxLen = 9223372036854775807 := by rfl
  have K0 := (Keep.same Nothing w).alloc (.cells #[.int .i64 d.pr, .int .i64 d.ba, .string d.sn, .slice A d.es.length c] 24)
  have HS := Lib.hid (src_keptE hs K0)
  have X0 := Blk.fresh w 24 #[.int .i64 d.pr, .int .i64 d.ba, .string d.sn, .slice A d.es.length c]
  have x0 := X0.cell 0
  have x1 := X0.cell 1
  have x2 := X0.cell 2
  have x3 := X0.cell 3
  have H0 := Lib.hid (Holds.newBlk (Holds.start w) none_stable 24 #[.int .i64 d.pr, .int .i64 d.ba, .string d.sn, .slice A d.es.length c])
  have HSA := Lib.hid (sane8 _ d A c HS.out hdl)
  have HW := Lib.hid hs
  clear hA hs K0 X0
  go_enter Try.func3, Try.ntmps3
  go_wp2_with fail
  refine HSA.out.mono ?_
  rintro e w1 ⟨rfl, hk1⟩
  have H1 := Lib.hid (H0.out.kept (by repeat (first | exact none_stable | exact dP_stable _ _ _ | exact blkP_stable _ _ _ | exact rowP_stable _ _ _ _ _ | apply Stable.star)) hk1)
  clear hk1 x0 x1 x2 x3
  cases hsn : saneB d with
  | false =>
    go_wp2_with fail
    refine (awake9 _).mono ?_
    rintro e w9 ⟨rfl, hk9⟩
    have K9 := Lib.hid hk9
    clear hk9
    go_wp2_with fail
    go_ret
    exact ⟨rfl, (hb _ H1.out.below).then K9.out⟩
  | true =>
    have ND := Lib.hid (newD_sane hsn)
    have hle := (saneB_len hsn).1
    have RI := Lib.hid (saneB_len hsn).2
    have BX := blk_at H1.out
    have x0 := BX.cell 0
    have x1 := BX.cell 1
    have x2 := BX.cell 2
    have x3 := BX.cell 3
    have HN := x_newD H1.out (by repeat (first | exact none_stable | exact dP_stable _ _ _ | exact blkP_stable _ _ _ | exact rowP_stable _ _ _ _ _ | apply Stable.star)) d A c (src_keptE HW.out (hb _ H1.out.below)) (by omega)
    rw [ND.out] at HN
    have HN1 := Lib.hid HN
    clear hsn HN BX
    go_wp2_with fail
    refine HN1.out.mono ?_
    rintro e w2 ⟨a, rfl, h2⟩
    have H2 := Lib.hid (show Holds w.heap.size w w2 (star (dP 60 a d) (star (rowP 62 9 (.slice none 0 0) 0 []) (star (blkP w.heap.size 24 #[.int .i64 d.pr, .int .i64 d.ba, .string d.sn, .slice A d.es.length c]) none_))) from
      (Holds.newRow h2 (by repeat (first | exact none_stable | exact dP_stable _ _ _ | exact blkP_stable _ _ _ | exact rowP_stable _ _ _ _ _ | apply Stable.star)) (Row.nil _ 62 9) (Keep.same _ _) (fun k hk => by simp [Value.ownBlock] at hk)).perm (by ac_rfl))
    clear h2 x0 x1 x2 x3
    go_wp2_with fail
    go_loopw [6, 7] (fun v6 v wr => ∃ (k : Nat) (D : DS) (L : List Rc) (A6 : Option Addr) (c6 : Nat), k ≤ 200 ∧ v = .int .i64 k ∧ v6 = .slice A6 L.length c6 ∧ Hid (foldL d L = D) ∧ L.length ≤ 2 * k ∧ D.es.length ≤ 1000 + k ∧ Hid (Rise D.es) ∧ Holds w.heap.size w wr (star (dP 60 a D) (star (rowP 62 9 (.slice A6 L.length c6) L.length (recs L)) (star (blkP w.heap.size 24 #[.int .i64 d.pr, .int .i64 d.ba, .string d.sn, .slice A d.es.length c]) none_)))) (fun _ v _ => 200 - (intOf v).toNat)
    case atStart => exact ⟨0, d, [], none, 0, by omega, by simp, rfl, Lib.hid rfl, by simp, by omega, RI, H2.out⟩
    case round =>
      obtain ⟨k, D, L, A6, c6, hk, rfl, rfl, hfo, hLL, hDL, hri, hh⟩ := hrel
      have H := Lib.hid hh
      clear hh
      by_cases hin : k < len ∧ k < 200
      · obtain ⟨hkl, hk3⟩ := hin
        obtain ⟨ad, x, rfl, _, hat⟩ := adeed_all HA.out hkl
        have HAT := Lib.hid hat
        have H3 := Lib.hid (show Holds w.heap.size w (wr.alloc (.cells zo4 33)) (star (dP 60 a D) (star (blkP wr.heap.size 33 zo4) (star (rowP 62 9 (.slice A6 L.length c6) L.length (recs L)) (star (blkP w.heap.size 24 #[.int .i64 d.pr, .int .i64 d.ba, .string d.sn, .slice A d.es.length c]) none_)))) from
          (Holds.newBlk H.out (by repeat (first | exact none_stable | exact dP_stable _ _ _ | exact blkP_stable _ _ _ | exact rowP_stable _ _ _ _ _ | apply Stable.star)) 33 zo4).perm (by ac_rfl))
        obtain ⟨dd0, dd1, dd2, dd3, dd4, dd5, dd6, dd7, dd8, dd9⟩ := hat _ H3.out.below
        clear hat
        rcases (show x.k = 0 ∨ (¬ x.k = 0 ∧ x.k = 1) ∨ (¬ x.k = 0 ∧ ¬ x.k = 1) by omega) with h0 | ⟨h0, h1⟩ | ⟨h0, h1⟩
        · have g0 : (x.k == 0) = true := by rw [beq_iff_eq]; exact h0
          have HQ := Lib.hid (x_prepare H3.out (by repeat (first | exact none_stable | exact dP_stable _ _ _ | exact blkP_stable _ _ _ | exact rowP_stable _ _ _ _ _ | apply Stable.star)) x.b)
          have FE := Lib.hid (prep_fold (D := D) (b := x.b))
          have hl1 := prep_recs D x.b
          have hl2 := prep_len D x.b
          have R2 := Lib.hid (prep_rise hri.out x.b)
          obtain ⟨D2, ok, rl, hE⟩ : ∃ D2 ok rl, prep D x.b = (D2, ok, rl) := ⟨_, _, _, rfl⟩
          rw [hE] at HQ FE hl1 hl2 R2
          dsimp only at hl1 hl2
          clear h0 hE
          go_wp2_with fail
          refine HQ.out.mono ?_
          rintro e w5 ⟨A5, c5, rfl, h5⟩
          dsimp only at h5 FE
          have H6 := Lib.hid (show Holds w.heap.size w w5 (star (blkP wr.heap.size 33 zo4) (star (rowP 62 9 (.slice A5 rl.length c5) rl.length (recs rl)) (star (dP 60 a D2) (star (rowP 62 9 (.slice A6 L.length c6) L.length (recs L)) (star (blkP w.heap.size 24 #[.int .i64 d.pr, .int .i64 d.ba, .string d.sn, .slice A d.es.length c]) none_))))) from h5.perm (by ac_rfl))
          have HB := blk_at H6.out
          obtain ⟨r0, f0, r1, f1, r2, f2, r3, f3, q0, q1, q2, q3, p0, p1, p2⟩ := store4 HB (.slice A5 rl.length c5) (.bool false) (.slice none 0 0) (.slice none 0 0)
          have H8 := Lib.hid (held4 H6.out (by repeat (first | exact none_stable | exact dP_stable _ _ _ | exact blkP_stable _ _ _ | exact rowP_stable _ _ _ _ _ | apply Stable.star)) (.slice A5 rl.length c5) (.bool false) (.slice none 0 0) (.slice none 0 0))
          clear h5 HQ HB
          have hb1 : L.length + rl.length ≤ maxLen := by omega
          have hb2 : (L.length + rl.length) * 80 ≤ 140737488355328 := by omega
          have HA8 := Lib.hid (show Holds w.heap.size w ((((w5.setCell ⟨wr.heap.size, 0, none⟩ (.slice A5 rl.length c5)).setCell ⟨wr.heap.size, 1, none⟩ (.bool false)).setCell ⟨wr.heap.size, 2, none⟩ (.slice none 0 0)).setCell ⟨wr.heap.size, 3, none⟩ (.slice none 0 0)) (star (rowP 62 9 (.slice A6 L.length c6) L.length (recs L)) (star (rowP 62 9 (.slice A5 rl.length c5) rl.length (recs rl)) (star (dP 60 a D2) (star (blkP wr.heap.size 33 #[.slice A5 rl.length c5, .bool false, .slice none 0 0, .slice none 0 0]) (star (blkP w.heap.size 24 #[.int .i64 d.pr, .int .i64 d.ba, .string d.sn, .slice A d.es.length c]) none_))))) from H8.out.perm (by ac_rfl))
          have OR := Lib.hid (recs_one rl)
          go_wp2_with (at_builtin; refine wpList_app _ rfl EC (.tmp 61) (.tmp 63) rfl HA8.out.row HA8.out.second.row.src c5 (by simp [Act.eval, Act.put]) (by simp [Act.eval, Act.put]) OR.out hb1 hb2 ?_)
          intro v7 w7 hr hg hloc
          have H9 := HA8.out.grew (by repeat (first | exact none_stable | exact dP_stable _ _ _ | exact blkP_stable _ _ _ | exact rowP_stable _ _ _ _ _ | apply Stable.star)) hr hg (by simpa using hloc)
          obtain ⟨L2, hL2⟩ : ∃ L2, L ++ rl = L2 := ⟨_, rfl⟩
          have hl3 : L.length + rl.length = L2.length := by rw [← hL2, List.length_append]
          rw [← recs_app, hL2, hl3] at H9
          have F2 := Lib.hid (show foldL d L2 = D2 by rw [← hL2, foldL_app, hfo.out]; exact FE.out)
          rw [hl3] at hr
          obtain ⟨A7, c7, rfl, _, _⟩ := hr.form
          have H10 := Lib.hid (show Holds w.heap.size w w7 (star (dP 60 a D2) (star (rowP 62 9 (.slice A7 L2.length c7) L2.length (recs L2)) (star (blkP w.heap.size 24 #[.int .i64 d.pr, .int .i64 d.ba, .string d.sn, .slice A d.es.length c]) none_))) from
            ((H9.perm (show _ = star (rowP 62 9 (.slice A5 rl.length c5) rl.length (recs rl)) (star (blkP wr.heap.size 33 #[.slice A5 rl.length c5, .bool false, .slice none 0 0, .slice none 0 0]) (star (dP 60 a D2) (star (rowP 62 9 (.slice A7 L2.length c7) L2.length (recs L2)) (star (blkP w.heap.size 24 #[.int .i64 d.pr, .int .i64 d.ba, .string d.sn, .slice A d.es.length c]) none_)))) by ac_rfl)).drop).drop)
          clear hr hg hloc H9 r0 f0 r1 f1 r2 f2 r3 f3 q0 q1 q2 q3 p0 p1 p2 hL2
          go_wp2_with fail
          go_roundw
          case rel => exact ⟨k + 1, D2, L2, A7, c7, by omega, by go_num, rfl, F2, by omega, by omega, R2, H10.out⟩
          case measure => simp [intOf]; omega
        · have g0 : (x.k == 0) = false := by rw [beq_eq_false_iff_ne]; exact h0
          have g1 : (x.k == 1) = true := by rw [beq_iff_eq]; exact h1
          have HQ := Lib.hid (fun n => x_accept (H3.out.drewN (by repeat (first | exact none_stable | exact dP_stable _ _ _ | exact blkP_stable _ _ _ | exact rowP_stable _ _ _ _ _ | apply Stable.star)) n) (by repeat (first | exact none_stable | exact dP_stable _ _ _ | exact blkP_stable _ _ _ | exact rowP_stable _ _ _ _ _ | apply Stable.star)) (by omega) hri.out x.b x.e)
          have FE := Lib.hid (accp_fold (D := D) (b := x.b) (e := x.e))
          have hl1 := accp_recs D x.b x.e
          have hl2 := accp_len D x.b x.e
          have R2 := Lib.hid (accp_rise hri.out x.b x.e)
          obtain ⟨D2, ok, rl, hE⟩ : ∃ D2 ok rl, accp D x.b x.e = (D2, ok, rl) := ⟨_, _, _, rfl⟩
          rw [hE] at HQ FE hl1 hl2 R2
          dsimp only at hl1 hl2
          have sx : ∀ w' : World, Below w.heap.size w w' → (fun w' : World => w'.cell? ⟨(ad.add (k * 10)).block, (ad.add (k * 10)).off + 1, none⟩ = some (.int .i64 x.b) ∧ w'.cell? ⟨(ad.add (k * 10)).block, (ad.add (k * 10)).off + 2, none⟩ = some (.int .i64 x.e.a) ∧ w'.cell? ⟨(ad.add (k * 10)).block, (ad.add (k * 10)).off + 3, none⟩ = some (.int .i64 x.e.b) ∧ w'.cell? ⟨(ad.add (k * 10)).block, (ad.add (k * 10)).off + 4, none⟩ = some (.int .i64 x.e.c.k) ∧ w'.cell? ⟨(ad.add (k * 10)).block, (ad.add (k * 10)).off + 5, none⟩ = some (.int .i64 x.e.c.s) ∧ w'.cell? ⟨(ad.add (k * 10)).block, (ad.add (k * 10)).off + 6, none⟩ = some (.int .i64 x.e.c.q) ∧ w'.cell? ⟨(ad.add (k * 10)).block, (ad.add (k * 10)).off + 7, none⟩ = some (.string x.e.c.nm) ∧ w'.cell? ⟨(ad.add (k * 10)).block, (ad.add (k * 10)).off + 8, none⟩ = some (.int .i64 x.e.c.n)) w' := fun w' hw => by
            obtain ⟨e0, e1, e2, e3, e4, e5, e6, e7, e8, e9⟩ := HAT.out w' hw
            exact ⟨e1, e2, e3, e4, e5, e6, e7, e8⟩
          have SX := Lib.hid sx
          have HB3 := Lib.hid H3.out.below
          clear h0 h1 hE sx
          go_wp2_with fail
          go_region_held3 (fun w' : World => w'.cell? ⟨(ad.add (k * 10)).block, (ad.add (k * 10)).off + 1, none⟩ = some (.int .i64 x.b) ∧ w'.cell? ⟨(ad.add (k * 10)).block, (ad.add (k * 10)).off + 2, none⟩ = some (.int .i64 x.e.a) ∧ w'.cell? ⟨(ad.add (k * 10)).block, (ad.add (k * 10)).off + 3, none⟩ = some (.int .i64 x.e.b) ∧ w'.cell? ⟨(ad.add (k * 10)).block, (ad.add (k * 10)).off + 4, none⟩ = some (.int .i64 x.e.c.k) ∧ w'.cell? ⟨(ad.add (k * 10)).block, (ad.add (k * 10)).off + 5, none⟩ = some (.int .i64 x.e.c.s) ∧ w'.cell? ⟨(ad.add (k * 10)).block, (ad.add (k * 10)).off + 6, none⟩ = some (.int .i64 x.e.c.q) ∧ w'.cell? ⟨(ad.add (k * 10)).block, (ad.add (k * 10)).off + 7, none⟩ = some (.string x.e.c.nm) ∧ w'.cell? ⟨(ad.add (k * 10)).block, (ad.add (k * 10)).off + 8, none⟩ = some (.int .i64 x.e.c.n)) (first | exact SX.out _ HB3.out | exact SX.out _ (bDrew HB3.out) | exact SX.out _ (bDrewN HB3.out _) | exact dc5 | exact dc8 | go_keep) ((first | (go_at_call 12; refine (HQ.out _).mono ?_; rintro e w5 ⟨A5, c5, rfl, h5⟩; dsimp only at h5; have H6 := Lib.hid (show Holds w.heap.size w w5 (star (blkP wr.heap.size 33 zo4) (star (rowP 62 9 (.slice A5 rl.length c5) rl.length (recs rl)) (star (dP 60 a D2) (star (rowP 62 9 (.slice A6 L.length c6) L.length (recs L)) (star (blkP w.heap.size 24 #[.int .i64 d.pr, .int .i64 d.ba, .string d.sn, .slice A d.es.length c]) none_))))) from h5.perm (by ac_rfl)); have HB := blk_at H6.out; obtain ⟨r0, f0, r1, f1, r2, f2, r3, f3, q0, q1, q2, q3, p0, p1, p2⟩ := store4 HB (.slice A5 rl.length c5) (.bool false) (.slice none 0 0) (.slice none 0 0); have H8 := Lib.hid (held4 H6.out (by repeat (first | exact none_stable | exact dP_stable _ _ _ | exact blkP_stable _ _ _ | exact rowP_stable _ _ _ _ _ | apply Stable.star)) (.slice A5 rl.length c5) (.bool false) (.slice none 0 0) (.slice none 0 0)); have dc5 := SX.out _ H6.out.below; have dc8 := SX.out _ H8.out.below; clear h5 HB)))
          have hb1 : L.length + rl.length ≤ maxLen := by omega
          have hb2 : (L.length + rl.length) * 80 ≤ 140737488355328 := by omega
          have HA8 := Lib.hid (show Holds w.heap.size w ((((w5.setCell ⟨wr.heap.size, 0, none⟩ (.slice A5 rl.length c5)).setCell ⟨wr.heap.size, 1, none⟩ (.bool false)).setCell ⟨wr.heap.size, 2, none⟩ (.slice none 0 0)).setCell ⟨wr.heap.size, 3, none⟩ (.slice none 0 0)) (star (rowP 62 9 (.slice A6 L.length c6) L.length (recs L)) (star (rowP 62 9 (.slice A5 rl.length c5) rl.length (recs rl)) (star (dP 60 a D2) (star (blkP wr.heap.size 33 #[.slice A5 rl.length c5, .bool false, .slice none 0 0, .slice none 0 0]) (star (blkP w.heap.size 24 #[.int .i64 d.pr, .int .i64 d.ba, .string d.sn, .slice A d.es.length c]) none_))))) from H8.out.perm (by ac_rfl))
          have OR := Lib.hid (recs_one rl)
          go_wp2_with (at_builtin; refine wpList_app _ rfl EC (.tmp 61) (.tmp 63) rfl HA8.out.row HA8.out.second.row.src c5 (by simp [Act.eval, Act.put]) (by simp [Act.eval, Act.put]) OR.out hb1 hb2 ?_)
          intro v7 w7 hr hg hloc
          have H9 := HA8.out.grew (by repeat (first | exact none_stable | exact dP_stable _ _ _ | exact blkP_stable _ _ _ | exact rowP_stable _ _ _ _ _ | apply Stable.star)) hr hg (by simpa using hloc)
          obtain ⟨L2, hL2⟩ : ∃ L2, L ++ rl = L2 := ⟨_, rfl⟩
          have hl3 : L.length + rl.length = L2.length := by rw [← hL2, List.length_append]
          rw [← recs_app, hL2, hl3] at H9
          have F2 := Lib.hid (show foldL d L2 = D2 by rw [← hL2, foldL_app, hfo.out]; exact FE.out)
          rw [hl3] at hr
          obtain ⟨A7, c7, rfl, _, _⟩ := hr.form
          have H10 := Lib.hid (show Holds w.heap.size w w7 (star (dP 60 a D2) (star (rowP 62 9 (.slice A7 L2.length c7) L2.length (recs L2)) (star (blkP w.heap.size 24 #[.int .i64 d.pr, .int .i64 d.ba, .string d.sn, .slice A d.es.length c]) none_))) from
            ((H9.perm (show _ = star (rowP 62 9 (.slice A5 rl.length c5) rl.length (recs rl)) (star (blkP wr.heap.size 33 #[.slice A5 rl.length c5, .bool false, .slice none 0 0, .slice none 0 0]) (star (dP 60 a D2) (star (rowP 62 9 (.slice A7 L2.length c7) L2.length (recs L2)) (star (blkP w.heap.size 24 #[.int .i64 d.pr, .int .i64 d.ba, .string d.sn, .slice A d.es.length c]) none_)))) by ac_rfl)).drop).drop)
          clear hr hg hloc H9 r0 f0 r1 f1 r2 f2 r3 f3 q0 q1 q2 q3 p0 p1 p2 hL2
          go_wp2_with fail
          go_roundw
          case rel => exact ⟨k + 1, D2, L2, A7, c7, by omega, by go_num, rfl, F2, by omega, by omega, R2, H10.out⟩
          case measure => simp [intOf]; omega
        · have g0 : (x.k == 0) = false := by rw [beq_eq_false_iff_ne]; exact h0
          have g1 : (x.k == 1) = false := by rw [beq_eq_false_iff_ne]; exact h1
          have H6 := Lib.hid (show Holds w.heap.size w (wr.alloc (.cells zo4 33)) (star (rowP 62 9 (.slice A6 L.length c6) L.length (recs L)) (star (dP 60 a D) (star (blkP wr.heap.size 33 zo4) (star (blkP w.heap.size 24 #[.int .i64 d.pr, .int .i64 d.ba, .string d.sn, .slice A d.es.length c]) none_)))) from H3.out.perm (by ac_rfl))
          have BX := blk_at H6.out.second.drop.second
          have z0 := BX.cell 0
          have H10 := Lib.hid (show Holds w.heap.size w (wr.alloc (.cells zo4 33)) (star (dP 60 a D) (star (rowP 62 9 (.slice A6 L.length c6) L.length (recs L)) (star (blkP w.heap.size 24 #[.int .i64 d.pr, .int .i64 d.ba, .string d.sn, .slice A d.es.length c]) none_))) from
            (H6.out.perm (show _ = star (blkP wr.heap.size 33 zo4) (star (dP 60 a D) (star (rowP 62 9 (.slice A6 L.length c6) L.length (recs L)) (star (blkP w.heap.size 24 #[.int .i64 d.pr, .int .i64 d.ba, .string d.sn, .slice A d.es.length c]) none_))) by ac_rfl)).drop)
          have hnc : L.length ≤ c6 := by
            obtain ⟨_, _, e, h, _⟩ := H6.out.row.form
            injection e with _ _ e
            omega
          clear h0 h1 BX
          rcases A6 with _ | a6
          all_goals go_wp2_with fail
          all_goals go_roundw
          case rel => exact ⟨k + 1, D, L, none, c6, by omega, by go_num, rfl, hfo, by omega, by omega, hri, H10.out⟩
          case measure => simp [intOf]; omega
          case rel => exact ⟨k + 1, D, L, some a6, c6, by omega, by go_num, rfl, hfo, by omega, by omega, hri, H10.out⟩
          case measure => simp [intOf]; omega
      · have BX := blk_at (H.out.second.drop.second)
        have HF := Lib.hid (fold14 wr d A c (src_keptE HW.out (hb _ H.out.below)) (by omega) A6 L.length c6 L H.out.second.row.src (by omega))
        rw [hfo.out] at HF
        have x0 := BX.cell 0
        have x1 := BX.cell 1
        have x2 := BX.cell 2
        have x3 := BX.cell 3
        clear BX
        rcases (show ¬ k < len ∨ (k < len ∧ ¬ k < 200) by omega) with hex | ⟨hex1, hex2⟩
        all_goals
          go_wp2_with fail
          refine HF.out.mono ?_
          rintro e w5 ⟨A5, c5, rfl, hr5, hk5, ho5⟩
          have R5 := Lib.hid hr5
          have K5 := Lib.hid hk5
          have HDU := Lib.hid (x_durable (H.out.kept (by repeat (first | exact none_stable | exact dP_stable _ _ _ | exact blkP_stable _ _ _ | exact rowP_stable _ _ _ _ _ | apply Stable.star)) hk5) (by omega))
          clear hr5 hk5 ho5
          go_wp2_with fail
          refine HDU.out.mono ?_
          rintro e w6 ⟨A7, c7, rfl, hr7, hk7, ho7⟩
          have HSM := Lib.hid (same13 w6 D A5 A7 c5 c7 (src_keptE R5.out.src hk7) hr7.src (by omega))
          have K7 := Lib.hid (K5.out.then hk7)
          clear hr7 hk7 ho7
          go_wp2_with fail
          refine HSM.out.mono ?_
          rintro e w8 ⟨rfl, hk8⟩
          have K8 := Lib.hid (K7.out.then hk8)
          clear hk8
          go_wp2_with fail
          refine (awake9 _).mono ?_
          rintro e w9 ⟨rfl, hk9⟩
          have K9 := Lib.hid (K8.out.then hk9)
          clear hk9
          go_wp2_with fail
          go_ret
          exact ⟨rfl, (hb _ H.out.below).then K9.out⟩
end Go.Proofs.Ytnbllckmeehhjaa.A
