/-
  AcceptorPlays.
-/
import Derived.Test.YtnbllckmeehhjaaVa
namespace Go.Proofs.Ytnbllckmeehhjaa.A
open Go.RowKit Go.Proofs.Ytnbllckmeehhjaa.U
set_option linter.unusedVariables false
set_option linter.unusedSimpArgs false
set_option maxRecDepth 100000

theorem kept_all {B : Nat} {w0 w : World} {P : SP} (h : Holds B w0 w P) (hP : Stable P) : ∀ X, Keep Nothing w X → Holds B w0 X P := fun X hk => h.kept hP hk
theorem keepN {B : Nat} {w0 w : World} {P : SP} (h : Holds B w0 w P) : ∀ n, Keep Nothing w (w.drewN n) := fun n => (Keep.same Nothing w).drewN n
theorem keep0 {B : Nat} {w0 w : World} {P : SP} (h : Holds B w0 w P) : Keep Nothing w w := Keep.same Nothing w
/-- No slot is above what an int bears. -/
def Lit_ (L : List Ent) : Prop := ∀ x ∈ L, x.a ≤ 9223372036854775807
theorem prep_lit {D : DS} (h : Lit_ D.es) (b : Int) : Lit_ (prep D b).1.es := by unfold prep; split <;> exact h
theorem accp_lit {D : DS} (h : Lit_ D.es) (b : Int) (e : Ent) (he : e.a ≤ 9223372036854775807) : Lit_ (accp D b e).1.es := by
  unfold accp; split
  · exact h
  · split
    · intro x hx
      rcases mem_putE hx with rfl | hx
      · exact he
      · exact h x hx
    · exact h
theorem cut_lit {D : DS} (h : Lit_ D.es) (b : Int) (s : ByteArray) : Lit_ (cut D b s).es := by
  unfold cut; split
  · exact h
  · exact fun x hx => h x (List.mem_filter.1 hx).1
theorem cut_rise {D : DS} (h : Rise D.es) (b : Int) (s : ByteArray) : Rise (cut D b s).es := by
  unfold cut; split
  · exact h
  · exact rise_filter h _
theorem cut_len (D : DS) (b : Int) (s : ByteArray) : (cut D b s).es.length ≤ D.es.length + 1 := by
  unfold cut; split
  · omega
  · have := List.length_filter_le (fun x : Ent => decide (b < x.a)) D.es
    show (above D.es b).length ≤ _
    unfold above
    omega
set_option maxHeartbeats 25600000 in
theorem aplays_calls (w : World) (d : DS) (A : Option Addr) (c : Nat) (hs : U.Src w A 7 d.es.length (ents d.es)) (hdl : d.es.length ≤ 4611686018427387904) (hdm : Lit_ d.es) (Al : Option Addr) (len cap : Nat) (l : List ADeed) (hA : R.Args w w.heap.size Al len 10 ADeed.cl l)
    (hlm : ∀ x ∈ l, I64 x.b ∧ x.e.a ≤ 9223372036854775807) (hlen : len ≤ cap) (hcap : cap ≤ maxLen) :
    Calls Try.prog 6 #[dval d A c, .slice Al len cap] w (fun e w' => e = .returned (.bool true) ∧ Keep Nothing w w') := by
  have HA := Lib.hid hA
  have HLM := Lib.hid hlm
  have HDM := Lib.hid hdm
  have hu39 := Try.underlying39
  have hu37 := Try.underlying37
  have hu33 := Try.underlying33
  have hu24 := Try.underlying24
  have hb : ∀ w', Below w.heap.size w w' → Keep Nothing w w' := fun w' h => Keep.of_below h _
  have hmax : maxLen = 9223372036854775807 := by rfl
  have K0 := (Keep.same Nothing w).alloc (.cells #[.int .i64 d.pr, .int .i64 d.ba, .string d.sn, .slice A d.es.length c] 24)
  have HS := Lib.hid (src_keptE hs K0)
  have X0 := Blk.fresh w 24 #[.int .i64 d.pr, .int .i64 d.ba, .string d.sn, .slice A d.es.length c]
  have x0 := X0.cell 0
  have x1 := X0.cell 1
  have x2 := X0.cell 2
  have x3 := X0.cell 3
  have H0 := Lib.hid (Holds.newBlk (Holds.start w) none_stable 24 #[.int .i64 d.pr, .int .i64 d.ba, .string d.sn, .slice A d.es.length c])
  have HSA := Lib.hid (sane8 _ d A c HS.out hdl)
  have HW := Lib.hid hs
  clear hA hs K0 X0 hlm hdm
  go_enter Try.func6, Try.ntmps6
  go_wp2_with fail
  refine HSA.out.mono ?_
  rintro e w1 ⟨rfl, hk1⟩
  have H1 := Lib.hid (H0.out.kept (by repeat (first | exact none_stable | exact dP_stable _ _ _ | exact blkP_stable _ _ _ | exact rowP_stable _ _ _ _ _ | apply Stable.star)) hk1)
  clear hk1 x0 x1 x2 x3
  cases hsn : saneB d with
  | false =>
    go_wp2_with fail
    refine (awake9 _).mono ?_
    rintro e w9 ⟨rfl, hk9⟩
    have K9 := Lib.hid hk9
    clear hk9
    go_wp2_with fail
    go_ret
    exact ⟨rfl, (hb _ H1.out.below).then K9.out⟩
  | true =>
    have ND := Lib.hid (newD_sane hsn)
    have HSN := Lib.hid hsn
    have hle := (saneB_len hsn).1
    have RI := Lib.hid (saneB_len hsn).2
    have HH1 := Lib.hid (kept_all H1.out (by repeat (first | exact none_stable | exact dP_stable _ _ _ | exact blkP_stable _ _ _ | exact rowP_stable _ _ _ _ _ | apply Stable.star)))
    have KD := Lib.hid (keepN H1.out)
    have SX := Lib.hid (show ∀ X, Keep Nothing w1 X → (fun w' : World => w'.cell? ⟨w.heap.size, 0, none⟩ = some (.int .i64 d.pr) ∧ w'.cell? ⟨w.heap.size, 1, none⟩ = some (.int .i64 d.ba) ∧ w'.cell? ⟨w.heap.size, 2, none⟩ = some (.string d.sn) ∧ w'.cell? ⟨w.heap.size, 3, none⟩ = some (.slice A d.es.length c)) X from fun X hk => by
      have g := blk_at (HH1.out X hk)
      exact ⟨g.cell 0, g.cell 1, g.cell 2, g.cell 3⟩)
    have HN1 := Lib.hid (show ∀ n, Calls Try.prog 10 #[dval d A c] (w1.drewN n) (fun e w' => ∃ a, e = .returned (.pointer (some ⟨a, 0, none⟩)) ∧ Holds w.heap.size w w' (star (dP 60 a d) (star (blkP w.heap.size 24 #[.int .i64 d.pr, .int .i64 d.ba, .string d.sn, .slice A d.es.length c]) none_))) from fun n => by
      have HN := x_newD (HH1.out _ (KD.out n)) (by repeat (first | exact none_stable | exact dP_stable _ _ _ | exact blkP_stable _ _ _ | exact rowP_stable _ _ _ _ _ | apply Stable.star)) d A c (src_keptE HW.out (hb _ (HH1.out _ (KD.out n)).below)) (by omega)
      rw [ND.out] at HN
      exact HN)
    have sx0 := SX.out _ (keep0 H1.out)
    clear hsn
    dsimp only at sx0
    obtain ⟨x0, x1, x2, x3⟩ := sx0
    go_wp2_with fail
    go_region_held3 (fun w' : World => w'.cell? ⟨w.heap.size, 0, none⟩ = some (.int .i64 d.pr) ∧ w'.cell? ⟨w.heap.size, 1, none⟩ = some (.int .i64 d.ba) ∧ w'.cell? ⟨w.heap.size, 2, none⟩ = some (.string d.sn) ∧ w'.cell? ⟨w.heap.size, 3, none⟩ = some (.slice A d.es.length c)) (first | exact SX.out _ (keep0 H1.out) | exact SX.out _ (KD.out _) | exact s2 | exact s3 | go_keep) ((first
      | (go_at_call 10; refine (HN1.out _).mono ?_; rintro e w2 ⟨a, rfl, h2⟩; have H2 := Lib.hid h2; have s2 : (fun w' : World => w'.cell? ⟨w.heap.size, 0, none⟩ = some (.int .i64 d.pr) ∧ w'.cell? ⟨w.heap.size, 1, none⟩ = some (.int .i64 d.ba) ∧ w'.cell? ⟨w.heap.size, 2, none⟩ = some (.string d.sn) ∧ w'.cell? ⟨w.heap.size, 3, none⟩ = some (.slice A d.es.length c)) w2 := ⟨(blk_at h2.second).cell 0, (blk_at h2.second).cell 1, (blk_at h2.second).cell 2, (blk_at h2.second).cell 3⟩; clear h2)
      | (go_at_call 19; refine (x_new19 H2.out (by repeat (first | exact none_stable | exact dP_stable _ _ _ | exact blkP_stable _ _ _ | exact rowP_stable _ _ _ _ _ | apply Stable.star)) d A c (src_keptE HW.out (hb _ H2.out.below)) HSN.out).mono ?_; rintro e w3 ⟨b, rfl, h3⟩; have H3 := Lib.hid h3; have s3 : (fun w' : World => w'.cell? ⟨w.heap.size, 0, none⟩ = some (.int .i64 d.pr) ∧ w'.cell? ⟨w.heap.size, 1, none⟩ = some (.int .i64 d.ba) ∧ w'.cell? ⟨w.heap.size, 2, none⟩ = some (.string d.sn) ∧ w'.cell? ⟨w.heap.size, 3, none⟩ = some (.slice A d.es.length c)) w3 := ⟨(blk_at h3.second.drop.second).cell 0, (blk_at h3.second.drop.second).cell 1, (blk_at h3.second.drop.second).cell 2, (blk_at h3.second.drop.second).cell 3⟩; clear h3 s2)))
    have H4 := Lib.hid (show Holds w.heap.size w w3 (star (dP 60 a d) (star (dP 74 b d) none_)) from (H3.out.perm (show _ = star (blkP w.heap.size 24 #[.int .i64 d.pr, .int .i64 d.ba, .string d.sn, .slice A d.es.length c]) (star (dP 60 a d) (star (dP 74 b d) none_)) by ac_rfl)).drop)
    have HSA0 := Lib.hid (x_same20 H4.out (by repeat (first | exact none_stable | exact dP_stable _ _ _ | exact blkP_stable _ _ _ | exact rowP_stable _ _ _ _ _ | apply Stable.star)) (by omega) RI.out 0)
    clear x0 x1 x2 x3 s3
    go_wp2_with fail
    refine HSA0.out.mono ?_
    rintro e w4 ⟨rfl, hk4⟩
    have H5 := Lib.hid (H4.out.kept (by repeat (first | exact none_stable | exact dP_stable _ _ _ | exact blkP_stable _ _ _ | exact rowP_stable _ _ _ _ _ | apply Stable.star)) hk4)
    clear hk4
    go_wp2_with fail
    go_loopw [7] (fun v wr => ∃ (k : Nat) (D : DS), k ≤ 200 ∧ v = .int .i64 k ∧ D.es.length ≤ 1000 + k ∧ Hid (Rise D.es) ∧ Hid (Lit_ D.es) ∧ Holds w.heap.size w wr (star (dP 60 a D) (star (dP 74 b D) none_))) (fun v _ => 200 - (intOf v).toNat)
    case atStart => exact ⟨0, d, by omega, by simp, by omega, RI, HDM, H5.out⟩
    case round =>
      obtain ⟨k, D, hk, rfl, hDL, hri, hlit, hh⟩ := hrel
      have H := Lib.hid hh
      clear hh
      by_cases hin : k < len ∧ k < 200
      · obtain ⟨hkl, hk3⟩ := hin
        obtain ⟨ad, x, rfl, hxl, hat⟩ := adeed_all HA.out hkl
        have XB := Lib.hid (HLM.out x (List.mem_of_getElem? hxl))
        obtain ⟨dd0, dd1, dd2, dd3, dd4, dd5, dd6, dd7, dd8, dd9⟩ := hat _ H.out.below
        have h1 := Holds.newBlk (Holds.newBlk (Holds.newBlk H.out (by repeat (first | exact none_stable | exact dP_stable _ _ _ | exact blkP_stable _ _ _ | exact rowP_stable _ _ _ _ _ | apply Stable.star)) 39 #[.int .i64 x.k, .int .i64 x.b, .int .i64 x.e.a, .int .i64 x.e.b, .int .i64 x.e.c.k, .int .i64 x.e.c.s, .int .i64 x.e.c.q, .string x.e.c.nm, .int .i64 x.e.c.n, .string x.s]) (by repeat (first | exact none_stable | exact dP_stable _ _ _ | exact blkP_stable _ _ _ | exact rowP_stable _ _ _ _ _ | apply Stable.star)) 33 zo4) (by repeat (first | exact none_stable | exact dP_stable _ _ _ | exact blkP_stable _ _ _ | exact rowP_stable _ _ _ _ _ | apply Stable.star)) 33 zo4
        rw [size_alloc, size_alloc] at h1
        have HZ := Lib.hid (show Holds w.heap.size w (((wr.alloc (.cells #[.int .i64 x.k, .int .i64 x.b, .int .i64 x.e.a, .int .i64 x.e.b, .int .i64 x.e.c.k, .int .i64 x.e.c.s, .int .i64 x.e.c.q, .string x.e.c.nm, .int .i64 x.e.c.n, .string x.s] 39)).alloc (.cells zo4 33)).alloc (.cells zo4 33)) (star (dP 60 a D) (star (dP 74 b D) (star (blkP wr.heap.size 39 #[.int .i64 x.k, .int .i64 x.b, .int .i64 x.e.a, .int .i64 x.e.b, .int .i64 x.e.c.k, .int .i64 x.e.c.s, .int .i64 x.e.c.q, .string x.e.c.nm, .int .i64 x.e.c.n, .string x.s]) (star (blkP (wr.heap.size + 1) 33 zo4) (star (blkP (wr.heap.size + 1 + 1) 33 zo4) none_))))) from h1.perm (by ac_rfl))
        have BX := blk_at (HZ.out.perm (show _ = star (blkP wr.heap.size 39 #[.int .i64 x.k, .int .i64 x.b, .int .i64 x.e.a, .int .i64 x.e.b, .int .i64 x.e.c.k, .int .i64 x.e.c.s, .int .i64 x.e.c.q, .string x.e.c.nm, .int .i64 x.e.c.n, .string x.s]) (star (dP 60 a D) (star (dP 74 b D) (star (blkP (wr.heap.size + 1) 33 zo4) (star (blkP (wr.heap.size + 1 + 1) 33 zo4) none_)))) by ac_rfl))
        have x0 := BX.cell 0
        have x1 := BX.cell 1
        have x2 := BX.cell 2
        have x3 := BX.cell 3
        have x4 := BX.cell 4
        have x5 := BX.cell 5
        have x6 := BX.cell 6
        have x7 := BX.cell 7
        have x8 := BX.cell 8
        have x9 := BX.cell 9
        clear hat hxl h1 BX
        rcases (show x.k = 0 ∨ (¬ x.k = 0 ∧ x.k = 1) ∨ (¬ x.k = 0 ∧ ¬ x.k = 1) by omega) with h0 | ⟨h0, h1⟩ | ⟨h0, h1⟩
        · have g0 : (x.k == 0) = true := by rw [beq_iff_eq]; exact h0
          have HQ := Lib.hid (x_prepare HZ.out (by repeat (first | exact none_stable | exact dP_stable _ _ _ | exact blkP_stable _ _ _ | exact rowP_stable _ _ _ _ _ | apply Stable.star)) x.b)
          have hl1 := prep_recs D x.b
          have hl2 := prep_len D x.b
          have R2 := Lib.hid (prep_rise hri.out x.b)
          have M2 := Lib.hid (prep_lit hlit.out x.b)
          obtain ⟨q, hE⟩ : ∃ q, prep D x.b = q := ⟨_, rfl⟩
          have HE := Lib.hid hE
          rw [hE] at HQ hl1 hl2 R2 M2
          obtain ⟨D2, ok, rl⟩ := q
          dsimp only at hl1 hl2
          clear h0 hE
          go_wp2_with fail
          refine HQ.out.mono ?_
          rintro e w5 ⟨A5, c5, rfl, h5⟩
          dsimp only at h5
          have H5 := Lib.hid (show Holds w.heap.size w w5 (star (blkP (wr.heap.size + 1) 33 zo4) (star (dP 74 b D) (star (blkP wr.heap.size 39 #[.int .i64 x.k, .int .i64 x.b, .int .i64 x.e.a, .int .i64 x.e.b, .int .i64 x.e.c.k, .int .i64 x.e.c.s, .int .i64 x.e.c.q, .string x.e.c.nm, .int .i64 x.e.c.n, .string x.s]) (star (blkP (wr.heap.size + 1 + 1) 33 zo4) (star (dP 60 a D2) (star (rowP 62 9 (.slice A5 rl.length c5) rl.length (recs rl)) none_)))))) from h5.perm (by ac_rfl))
          have B5 := blk_at H5.out
          obtain ⟨r0, f0, r1, f1, r2, f2, r3, f3, q0, q1, q2, q3, p0, p1, p2⟩ := store4 B5 (.slice A5 rl.length c5) (.bool false) (.slice none 0 0) (.slice none 0 0)
          have H6 := Lib.hid (show Holds w.heap.size w _ (star (dP 74 b D) (star (blkP wr.heap.size 39 #[.int .i64 x.k, .int .i64 x.b, .int .i64 x.e.a, .int .i64 x.e.b, .int .i64 x.e.c.k, .int .i64 x.e.c.s, .int .i64 x.e.c.q, .string x.e.c.nm, .int .i64 x.e.c.n, .string x.s]) (star (blkP (wr.heap.size + 1 + 1) 33 zo4) (star (dP 60 a D2) (star (blkP (wr.heap.size + 1) 33 #[.slice A5 rl.length c5, .bool false, .slice none 0 0, .slice none 0 0]) (star (rowP 62 9 (.slice A5 rl.length c5) rl.length (recs rl)) none_)))))) from (held4 H5.out (by repeat (first | exact none_stable | exact dP_stable _ _ _ | exact blkP_stable _ _ _ | exact rowP_stable _ _ _ _ _ | apply Stable.star)) (.slice A5 rl.length c5) (.bool false) (.slice none 0 0) (.slice none 0 0)).perm (by ac_rfl))
          have BX := blk_at (H6.out.second)
          have y1 := BX.cell 1
          clear h5 B5 BX x1 x2 x3 x4 x5 x6 x7 x8
          have HQ3 := x_prepare21 H6.out (by repeat (first | exact none_stable | exact dP_stable _ _ _ | exact blkP_stable _ _ _ | exact rowP_stable _ _ _ _ _ | apply Stable.star)) x.b
          rw [HE.out] at HQ3
          have HQ4 := Lib.hid HQ3
          clear HQ3
          go_wp2_with fail
          refine HQ4.out.mono ?_
          rintro e w7 ⟨A6, c6, rfl, h7⟩
          dsimp only at h7
          have H7 := Lib.hid (show Holds w.heap.size w w7 (star (blkP (wr.heap.size + 1 + 1) 33 zo4) (star (blkP wr.heap.size 39 #[.int .i64 x.k, .int .i64 x.b, .int .i64 x.e.a, .int .i64 x.e.b, .int .i64 x.e.c.k, .int .i64 x.e.c.s, .int .i64 x.e.c.q, .string x.e.c.nm, .int .i64 x.e.c.n, .string x.s]) (star (dP 60 a D2) (star (blkP (wr.heap.size + 1) 33 #[.slice A5 rl.length c5, .bool false, .slice none 0 0, .slice none 0 0]) (star (rowP 62 9 (.slice A5 rl.length c5) rl.length (recs rl)) (star (rowP 62 9 (.slice A6 rl.length c6) rl.length (recs rl)) (star (dP 74 b D2) none_))))))) from h7.perm (by ac_rfl))
          have B7 := blk_at H7.out
          clear r0 f0 r1 f1 r2 f2 r3 f3 q0 q1 q2 q3 p0 p1 p2
          obtain ⟨r0, f0, r1, f1, r2, f2, r3, f3, q0, q1, q2, q3, p0, p1, p2⟩ := store4 B7 (.slice A6 rl.length c6) (.bool false) (.slice none 0 0) (.slice none 0 0)
          have H8 := Lib.hid (held4 H7.out (by repeat (first | exact none_stable | exact dP_stable _ _ _ | exact blkP_stable _ _ _ | exact rowP_stable _ _ _ _ _ | apply Stable.star)) (.slice A6 rl.length c6) (.bool false) (.slice none 0 0) (.slice none 0 0))
          clear h7 B7 y1
          have HP := Lib.hid (show Holds w.heap.size w _ (star (dP 60 a D2) (star (dP 74 b D2) (star (blkP wr.heap.size 39 #[.int .i64 x.k, .int .i64 x.b, .int .i64 x.e.a, .int .i64 x.e.b, .int .i64 x.e.c.k, .int .i64 x.e.c.s, .int .i64 x.e.c.q, .string x.e.c.nm, .int .i64 x.e.c.n, .string x.s]) (star (blkP (wr.heap.size + 1) 33 #[.slice A5 rl.length c5, .bool false, .slice none 0 0, .slice none 0 0]) (star (blkP (wr.heap.size + 1 + 1) 33 #[.slice A6 rl.length c6, .bool false, .slice none 0 0, .slice none 0 0]) (star (rowP 62 9 (.slice A5 rl.length c5) rl.length (recs rl)) (star (rowP 62 9 (.slice A6 rl.length c6) rl.length (recs rl)) none_))))))) from H8.out.perm (by ac_rfl))
          have HH := Lib.hid (kept_all HP.out (by repeat (first | exact none_stable | exact dP_stable _ _ _ | exact blkP_stable _ _ _ | exact rowP_stable _ _ _ _ _ | apply Stable.star)))
          have KD := Lib.hid (keepN HP.out)
          have KS := Lib.hid (keep0 HP.out)
          have SX := Lib.hid (show ∀ X, Holds w.heap.size w X (star (dP 60 a D2) (star (dP 74 b D2) (star (blkP wr.heap.size 39 #[.int .i64 x.k, .int .i64 x.b, .int .i64 x.e.a, .int .i64 x.e.b, .int .i64 x.e.c.k, .int .i64 x.e.c.s, .int .i64 x.e.c.q, .string x.e.c.nm, .int .i64 x.e.c.n, .string x.s]) (star (blkP (wr.heap.size + 1) 33 #[.slice A5 rl.length c5, .bool false, .slice none 0 0, .slice none 0 0]) (star (blkP (wr.heap.size + 1 + 1) 33 #[.slice A6 rl.length c6, .bool false, .slice none 0 0, .slice none 0 0]) (star (rowP 62 9 (.slice A5 rl.length c5) rl.length (recs rl)) (star (rowP 62 9 (.slice A6 rl.length c6) rl.length (recs rl)) none_))))))) → (fun w' : World => w'.cell? ⟨wr.heap.size + 1, 0, none⟩ = some (.slice A5 rl.length c5) ∧ w'.cell? ⟨wr.heap.size + 1, 1, none⟩ = some (.bool false) ∧ w'.cell? ⟨wr.heap.size + 1, 2, none⟩ = some (.slice none 0 0) ∧ w'.cell? ⟨wr.heap.size + 1, 3, none⟩ = some (.slice none 0 0) ∧ w'.cell? ⟨wr.heap.size + 1 + 1, 0, none⟩ = some (.slice A6 rl.length c6) ∧ w'.cell? ⟨wr.heap.size, 2, none⟩ = some (.int .i64 x.e.a)) X from fun X h => by
            have g9 := blk_at (h.perm (show _ = (star (blkP (wr.heap.size + 1) 33 #[.slice A5 rl.length c5, .bool false, .slice none 0 0, .slice none 0 0]) (star (dP 60 a D2) (star (dP 74 b D2) (star (blkP wr.heap.size 39 #[.int .i64 x.k, .int .i64 x.b, .int .i64 x.e.a, .int .i64 x.e.b, .int .i64 x.e.c.k, .int .i64 x.e.c.s, .int .i64 x.e.c.q, .string x.e.c.nm, .int .i64 x.e.c.n, .string x.s]) (star (blkP (wr.heap.size + 1 + 1) 33 #[.slice A6 rl.length c6, .bool false, .slice none 0 0, .slice none 0 0]) (star (rowP 62 9 (.slice A5 rl.length c5) rl.length (recs rl)) (star (rowP 62 9 (.slice A6 rl.length c6) rl.length (recs rl)) none_))))))) by ac_rfl))
            have g10 := blk_at (h.perm (show _ = (star (blkP (wr.heap.size + 1 + 1) 33 #[.slice A6 rl.length c6, .bool false, .slice none 0 0, .slice none 0 0]) (star (dP 60 a D2) (star (dP 74 b D2) (star (blkP wr.heap.size 39 #[.int .i64 x.k, .int .i64 x.b, .int .i64 x.e.a, .int .i64 x.e.b, .int .i64 x.e.c.k, .int .i64 x.e.c.s, .int .i64 x.e.c.q, .string x.e.c.nm, .int .i64 x.e.c.n, .string x.s]) (star (blkP (wr.heap.size + 1) 33 #[.slice A5 rl.length c5, .bool false, .slice none 0 0, .slice none 0 0]) (star (rowP 62 9 (.slice A5 rl.length c5) rl.length (recs rl)) (star (rowP 62 9 (.slice A6 rl.length c6) rl.length (recs rl)) none_))))))) by ac_rfl))
            have g8 := blk_at (h.perm (show _ = (star (blkP wr.heap.size 39 #[.int .i64 x.k, .int .i64 x.b, .int .i64 x.e.a, .int .i64 x.e.b, .int .i64 x.e.c.k, .int .i64 x.e.c.s, .int .i64 x.e.c.q, .string x.e.c.nm, .int .i64 x.e.c.n, .string x.s]) (star (dP 60 a D2) (star (dP 74 b D2) (star (blkP (wr.heap.size + 1) 33 #[.slice A5 rl.length c5, .bool false, .slice none 0 0, .slice none 0 0]) (star (blkP (wr.heap.size + 1 + 1) 33 #[.slice A6 rl.length c6, .bool false, .slice none 0 0, .slice none 0 0]) (star (rowP 62 9 (.slice A5 rl.length c5) rl.length (recs rl)) (star (rowP 62 9 (.slice A6 rl.length c6) rl.length (recs rl)) none_))))))) by ac_rfl))
            exact ⟨g9.cell 0, g9.cell 1, g9.cell 2, g9.cell 3, g10.cell 0, g8.cell 2⟩)
          have S5 := Lib.hid (show ∀ X, Holds w.heap.size w X (star (dP 60 a D2) (star (dP 74 b D2) (star (blkP wr.heap.size 39 #[.int .i64 x.k, .int .i64 x.b, .int .i64 x.e.a, .int .i64 x.e.b, .int .i64 x.e.c.k, .int .i64 x.e.c.s, .int .i64 x.e.c.q, .string x.e.c.nm, .int .i64 x.e.c.n, .string x.s]) (star (blkP (wr.heap.size + 1) 33 #[.slice A5 rl.length c5, .bool false, .slice none 0 0, .slice none 0 0]) (star (blkP (wr.heap.size + 1 + 1) 33 #[.slice A6 rl.length c6, .bool false, .slice none 0 0, .slice none 0 0]) (star (rowP 62 9 (.slice A5 rl.length c5) rl.length (recs rl)) (star (rowP 62 9 (.slice A6 rl.length c6) rl.length (recs rl)) none_))))))) → U.Src X A5 9 rl.length (recs rl) from fun X h => (h.perm (show _ = (star (rowP 62 9 (.slice A5 rl.length c5) rl.length (recs rl)) (star (dP 60 a D2) (star (dP 74 b D2) (star (blkP wr.heap.size 39 #[.int .i64 x.k, .int .i64 x.b, .int .i64 x.e.a, .int .i64 x.e.b, .int .i64 x.e.c.k, .int .i64 x.e.c.s, .int .i64 x.e.c.q, .string x.e.c.nm, .int .i64 x.e.c.n, .string x.s]) (star (blkP (wr.heap.size + 1) 33 #[.slice A5 rl.length c5, .bool false, .slice none 0 0, .slice none 0 0]) (star (blkP (wr.heap.size + 1 + 1) 33 #[.slice A6 rl.length c6, .bool false, .slice none 0 0, .slice none 0 0]) (star (rowP 62 9 (.slice A6 rl.length c6) rl.length (recs rl)) none_))))))) by ac_rfl)).row.src)
          have S6 := Lib.hid (show ∀ X, Holds w.heap.size w X (star (dP 60 a D2) (star (dP 74 b D2) (star (blkP wr.heap.size 39 #[.int .i64 x.k, .int .i64 x.b, .int .i64 x.e.a, .int .i64 x.e.b, .int .i64 x.e.c.k, .int .i64 x.e.c.s, .int .i64 x.e.c.q, .string x.e.c.nm, .int .i64 x.e.c.n, .string x.s]) (star (blkP (wr.heap.size + 1) 33 #[.slice A5 rl.length c5, .bool false, .slice none 0 0, .slice none 0 0]) (star (blkP (wr.heap.size + 1 + 1) 33 #[.slice A6 rl.length c6, .bool false, .slice none 0 0, .slice none 0 0]) (star (rowP 62 9 (.slice A5 rl.length c5) rl.length (recs rl)) (star (rowP 62 9 (.slice A6 rl.length c6) rl.length (recs rl)) none_))))))) → U.Src X A6 9 rl.length (recs rl) from fun X h => (h.perm (show _ = (star (rowP 62 9 (.slice A6 rl.length c6) rl.length (recs rl)) (star (dP 60 a D2) (star (dP 74 b D2) (star (blkP wr.heap.size 39 #[.int .i64 x.k, .int .i64 x.b, .int .i64 x.e.a, .int .i64 x.e.b, .int .i64 x.e.c.k, .int .i64 x.e.c.s, .int .i64 x.e.c.q, .string x.e.c.nm, .int .i64 x.e.c.n, .string x.s]) (star (blkP (wr.heap.size + 1) 33 #[.slice A5 rl.length c5, .bool false, .slice none 0 0, .slice none 0 0]) (star (blkP (wr.heap.size + 1 + 1) 33 #[.slice A6 rl.length c6, .bool false, .slice none 0 0, .slice none 0 0]) (star (rowP 62 9 (.slice A5 rl.length c5) rl.length (recs rl)) none_))))))) by ac_rfl)).row.src)
          have m := SX.out _ HP.out
          try dsimp only at m
          obtain ⟨m0, m1, m2, m3, m4, m5⟩ := m
          go_wp2_with fail
          refine (recs25 _ rl A5 A6 c5 c6 (S5.out _ HP.out) (S6.out _ HP.out) (by first | omega | simp)).mono ?_
          rintro e w9 ⟨rfl, hk9⟩
          have K9 := Lib.hid hk9
          have m := SX.out _ (HH.out _ K9.out)
          try dsimp only at m
          clear m0 m1 m2 m3 m4 m5 hk9 r0 f0 r1 f1 r2 f2 r3 f3 q0 q1 q2 q3 p0 p1 p2
          obtain ⟨m0, m1, m2, m3, m4, m5⟩ := m
          go_wp2_with fail
          refine (x_same20 (HH.out _ K9.out) (by repeat (first | exact none_stable | exact dP_stable _ _ _ | exact blkP_stable _ _ _ | exact rowP_stable _ _ _ _ _ | apply Stable.star)) (by omega) R2.out x.e.a).mono ?_
          rintro e w10 ⟨rfl, hk10⟩
          have K10 := Lib.hid (K9.out.then hk10)
          clear hk10 m0 m1 m2 m3 m4 m5
          go_wp2_with fail
          go_roundw
          case rel => exact ⟨k + 1, D2, by omega, by go_num, by omega, R2, M2, ((HH.out _ K10.out).perm (show _ = (star (blkP wr.heap.size 39 #[.int .i64 x.k, .int .i64 x.b, .int .i64 x.e.a, .int .i64 x.e.b, .int .i64 x.e.c.k, .int .i64 x.e.c.s, .int .i64 x.e.c.q, .string x.e.c.nm, .int .i64 x.e.c.n, .string x.s]) (star (blkP (wr.heap.size + 1) 33 #[.slice A5 rl.length c5, .bool false, .slice none 0 0, .slice none 0 0]) (star (blkP (wr.heap.size + 1 + 1) 33 #[.slice A6 rl.length c6, .bool false, .slice none 0 0, .slice none 0 0]) (star (rowP 62 9 (.slice A5 rl.length c5) rl.length (recs rl)) (star (rowP 62 9 (.slice A6 rl.length c6) rl.length (recs rl)) (star (dP 60 a D2) (star (dP 74 b D2) none_))))))) by ac_rfl)).drop.drop.drop.drop.drop⟩
          case measure => simp [intOf]; omega
        · have g0 : (x.k == 0) = false := by rw [beq_eq_false_iff_ne]; exact h0
          have g1 : (x.k == 1) = true := by rw [beq_iff_eq]; exact h1
          have HQ := Lib.hid (x_accept HZ.out (by repeat (first | exact none_stable | exact dP_stable _ _ _ | exact blkP_stable _ _ _ | exact rowP_stable _ _ _ _ _ | apply Stable.star)) (by omega) hri.out x.b x.e)
          have hl1 := accp_recs D x.b x.e
          have hl2 := accp_len D x.b x.e
          have R2 := Lib.hid (accp_rise hri.out x.b x.e)
          have M2 := Lib.hid (accp_lit hlit.out x.b x.e XB.out.2)
          obtain ⟨q, hE⟩ : ∃ q, accp D x.b x.e = q := ⟨_, rfl⟩
          have HE := Lib.hid hE
          rw [hE] at HQ hl1 hl2 R2 M2
          obtain ⟨D2, ok, rl⟩ := q
          dsimp only at hl1 hl2
          clear h0 h1 hE
          go_wp2_with fail
          refine HQ.out.mono ?_
          rintro e w5 ⟨A5, c5, rfl, h5⟩
          dsimp only at h5
          have H5 := Lib.hid (show Holds w.heap.size w w5 (star (blkP (wr.heap.size + 1) 33 zo4) (star (dP 74 b D) (star (blkP wr.heap.size 39 #[.int .i64 x.k, .int .i64 x.b, .int .i64 x.e.a, .int .i64 x.e.b, .int .i64 x.e.c.k, .int .i64 x.e.c.s, .int .i64 x.e.c.q, .string x.e.c.nm, .int .i64 x.e.c.n, .string x.s]) (star (blkP (wr.heap.size + 1 + 1) 33 zo4) (star (dP 60 a D2) (star (rowP 62 9 (.slice A5 rl.length c5) rl.length (recs rl)) none_)))))) from h5.perm (by ac_rfl))
          have B5 := blk_at H5.out
          obtain ⟨r0, f0, r1, f1, r2, f2, r3, f3, q0, q1, q2, q3, p0, p1, p2⟩ := store4 B5 (.slice A5 rl.length c5) (.bool false) (.slice none 0 0) (.slice none 0 0)
          have H6 := Lib.hid (show Holds w.heap.size w _ (star (dP 74 b D) (star (blkP wr.heap.size 39 #[.int .i64 x.k, .int .i64 x.b, .int .i64 x.e.a, .int .i64 x.e.b, .int .i64 x.e.c.k, .int .i64 x.e.c.s, .int .i64 x.e.c.q, .string x.e.c.nm, .int .i64 x.e.c.n, .string x.s]) (star (blkP (wr.heap.size + 1 + 1) 33 zo4) (star (dP 60 a D2) (star (blkP (wr.heap.size + 1) 33 #[.slice A5 rl.length c5, .bool false, .slice none 0 0, .slice none 0 0]) (star (rowP 62 9 (.slice A5 rl.length c5) rl.length (recs rl)) none_)))))) from (held4 H5.out (by repeat (first | exact none_stable | exact dP_stable _ _ _ | exact blkP_stable _ _ _ | exact rowP_stable _ _ _ _ _ | apply Stable.star)) (.slice A5 rl.length c5) (.bool false) (.slice none 0 0) (.slice none 0 0)).perm (by ac_rfl))
          have BX := blk_at (H6.out.second)
          have y1 := BX.cell 1
          have y2 := BX.cell 2
          have y3 := BX.cell 3
          have y4 := BX.cell 4
          have y5 := BX.cell 5
          have y6 := BX.cell 6
          have y7 := BX.cell 7
          have y8 := BX.cell 8
          clear h5 B5 BX x1 x2 x3 x4 x5 x6 x7 x8
          have HQ3 := x_accept22 H6.out (by repeat (first | exact none_stable | exact dP_stable _ _ _ | exact blkP_stable _ _ _ | exact rowP_stable _ _ _ _ _ | apply Stable.star)) (by omega) x.b x.e
          rw [HE.out] at HQ3
          have HQ4 := Lib.hid HQ3
          clear HQ3
          go_wp2_with fail
          refine HQ4.out.mono ?_
          rintro e w7 ⟨A6, c6, rfl, h7⟩
          dsimp only at h7
          have H7 := Lib.hid (show Holds w.heap.size w w7 (star (blkP (wr.heap.size + 1 + 1) 33 zo4) (star (blkP wr.heap.size 39 #[.int .i64 x.k, .int .i64 x.b, .int .i64 x.e.a, .int .i64 x.e.b, .int .i64 x.e.c.k, .int .i64 x.e.c.s, .int .i64 x.e.c.q, .string x.e.c.nm, .int .i64 x.e.c.n, .string x.s]) (star (dP 60 a D2) (star (blkP (wr.heap.size + 1) 33 #[.slice A5 rl.length c5, .bool false, .slice none 0 0, .slice none 0 0]) (star (rowP 62 9 (.slice A5 rl.length c5) rl.length (recs rl)) (star (rowP 62 9 (.slice A6 rl.length c6) rl.length (recs rl)) (star (dP 74 b D2) none_))))))) from h7.perm (by ac_rfl))
          have B7 := blk_at H7.out
          clear r0 f0 r1 f1 r2 f2 r3 f3 q0 q1 q2 q3 p0 p1 p2
          obtain ⟨r0, f0, r1, f1, r2, f2, r3, f3, q0, q1, q2, q3, p0, p1, p2⟩ := store4 B7 (.slice A6 rl.length c6) (.bool false) (.slice none 0 0) (.slice none 0 0)
          have H8 := Lib.hid (held4 H7.out (by repeat (first | exact none_stable | exact dP_stable _ _ _ | exact blkP_stable _ _ _ | exact rowP_stable _ _ _ _ _ | apply Stable.star)) (.slice A6 rl.length c6) (.bool false) (.slice none 0 0) (.slice none 0 0))
          clear h7 B7 y1 y2 y3 y4 y5 y6 y7 y8
          have HP := Lib.hid (show Holds w.heap.size w _ (star (dP 60 a D2) (star (dP 74 b D2) (star (blkP wr.heap.size 39 #[.int .i64 x.k, .int .i64 x.b, .int .i64 x.e.a, .int .i64 x.e.b, .int .i64 x.e.c.k, .int .i64 x.e.c.s, .int .i64 x.e.c.q, .string x.e.c.nm, .int .i64 x.e.c.n, .string x.s]) (star (blkP (wr.heap.size + 1) 33 #[.slice A5 rl.length c5, .bool false, .slice none 0 0, .slice none 0 0]) (star (blkP (wr.heap.size + 1 + 1) 33 #[.slice A6 rl.length c6, .bool false, .slice none 0 0, .slice none 0 0]) (star (rowP 62 9 (.slice A5 rl.length c5) rl.length (recs rl)) (star (rowP 62 9 (.slice A6 rl.length c6) rl.length (recs rl)) none_))))))) from H8.out.perm (by ac_rfl))
          have HH := Lib.hid (kept_all HP.out (by repeat (first | exact none_stable | exact dP_stable _ _ _ | exact blkP_stable _ _ _ | exact rowP_stable _ _ _ _ _ | apply Stable.star)))
          have KD := Lib.hid (keepN HP.out)
          have KS := Lib.hid (keep0 HP.out)
          have SX := Lib.hid (show ∀ X, Holds w.heap.size w X (star (dP 60 a D2) (star (dP 74 b D2) (star (blkP wr.heap.size 39 #[.int .i64 x.k, .int .i64 x.b, .int .i64 x.e.a, .int .i64 x.e.b, .int .i64 x.e.c.k, .int .i64 x.e.c.s, .int .i64 x.e.c.q, .string x.e.c.nm, .int .i64 x.e.c.n, .string x.s]) (star (blkP (wr.heap.size + 1) 33 #[.slice A5 rl.length c5, .bool false, .slice none 0 0, .slice none 0 0]) (star (blkP (wr.heap.size + 1 + 1) 33 #[.slice A6 rl.length c6, .bool false, .slice none 0 0, .slice none 0 0]) (star (rowP 62 9 (.slice A5 rl.length c5) rl.length (recs rl)) (star (rowP 62 9 (.slice A6 rl.length c6) rl.length (recs rl)) none_))))))) → (fun w' : World => w'.cell? ⟨wr.heap.size + 1, 0, none⟩ = some (.slice A5 rl.length c5) ∧ w'.cell? ⟨wr.heap.size + 1, 1, none⟩ = some (.bool false) ∧ w'.cell? ⟨wr.heap.size + 1, 2, none⟩ = some (.slice none 0 0) ∧ w'.cell? ⟨wr.heap.size + 1, 3, none⟩ = some (.slice none 0 0) ∧ w'.cell? ⟨wr.heap.size + 1 + 1, 0, none⟩ = some (.slice A6 rl.length c6) ∧ w'.cell? ⟨wr.heap.size, 2, none⟩ = some (.int .i64 x.e.a)) X from fun X h => by
            have g9 := blk_at (h.perm (show _ = (star (blkP (wr.heap.size + 1) 33 #[.slice A5 rl.length c5, .bool false, .slice none 0 0, .slice none 0 0]) (star (dP 60 a D2) (star (dP 74 b D2) (star (blkP wr.heap.size 39 #[.int .i64 x.k, .int .i64 x.b, .int .i64 x.e.a, .int .i64 x.e.b, .int .i64 x.e.c.k, .int .i64 x.e.c.s, .int .i64 x.e.c.q, .string x.e.c.nm, .int .i64 x.e.c.n, .string x.s]) (star (blkP (wr.heap.size + 1 + 1) 33 #[.slice A6 rl.length c6, .bool false, .slice none 0 0, .slice none 0 0]) (star (rowP 62 9 (.slice A5 rl.length c5) rl.length (recs rl)) (star (rowP 62 9 (.slice A6 rl.length c6) rl.length (recs rl)) none_))))))) by ac_rfl))
            have g10 := blk_at (h.perm (show _ = (star (blkP (wr.heap.size + 1 + 1) 33 #[.slice A6 rl.length c6, .bool false, .slice none 0 0, .slice none 0 0]) (star (dP 60 a D2) (star (dP 74 b D2) (star (blkP wr.heap.size 39 #[.int .i64 x.k, .int .i64 x.b, .int .i64 x.e.a, .int .i64 x.e.b, .int .i64 x.e.c.k, .int .i64 x.e.c.s, .int .i64 x.e.c.q, .string x.e.c.nm, .int .i64 x.e.c.n, .string x.s]) (star (blkP (wr.heap.size + 1) 33 #[.slice A5 rl.length c5, .bool false, .slice none 0 0, .slice none 0 0]) (star (rowP 62 9 (.slice A5 rl.length c5) rl.length (recs rl)) (star (rowP 62 9 (.slice A6 rl.length c6) rl.length (recs rl)) none_))))))) by ac_rfl))
            have g8 := blk_at (h.perm (show _ = (star (blkP wr.heap.size 39 #[.int .i64 x.k, .int .i64 x.b, .int .i64 x.e.a, .int .i64 x.e.b, .int .i64 x.e.c.k, .int .i64 x.e.c.s, .int .i64 x.e.c.q, .string x.e.c.nm, .int .i64 x.e.c.n, .string x.s]) (star (dP 60 a D2) (star (dP 74 b D2) (star (blkP (wr.heap.size + 1) 33 #[.slice A5 rl.length c5, .bool false, .slice none 0 0, .slice none 0 0]) (star (blkP (wr.heap.size + 1 + 1) 33 #[.slice A6 rl.length c6, .bool false, .slice none 0 0, .slice none 0 0]) (star (rowP 62 9 (.slice A5 rl.length c5) rl.length (recs rl)) (star (rowP 62 9 (.slice A6 rl.length c6) rl.length (recs rl)) none_))))))) by ac_rfl))
            exact ⟨g9.cell 0, g9.cell 1, g9.cell 2, g9.cell 3, g10.cell 0, g8.cell 2⟩)
          have S5 := Lib.hid (show ∀ X, Holds w.heap.size w X (star (dP 60 a D2) (star (dP 74 b D2) (star (blkP wr.heap.size 39 #[.int .i64 x.k, .int .i64 x.b, .int .i64 x.e.a, .int .i64 x.e.b, .int .i64 x.e.c.k, .int .i64 x.e.c.s, .int .i64 x.e.c.q, .string x.e.c.nm, .int .i64 x.e.c.n, .string x.s]) (star (blkP (wr.heap.size + 1) 33 #[.slice A5 rl.length c5, .bool false, .slice none 0 0, .slice none 0 0]) (star (blkP (wr.heap.size + 1 + 1) 33 #[.slice A6 rl.length c6, .bool false, .slice none 0 0, .slice none 0 0]) (star (rowP 62 9 (.slice A5 rl.length c5) rl.length (recs rl)) (star (rowP 62 9 (.slice A6 rl.length c6) rl.length (recs rl)) none_))))))) → U.Src X A5 9 rl.length (recs rl) from fun X h => (h.perm (show _ = (star (rowP 62 9 (.slice A5 rl.length c5) rl.length (recs rl)) (star (dP 60 a D2) (star (dP 74 b D2) (star (blkP wr.heap.size 39 #[.int .i64 x.k, .int .i64 x.b, .int .i64 x.e.a, .int .i64 x.e.b, .int .i64 x.e.c.k, .int .i64 x.e.c.s, .int .i64 x.e.c.q, .string x.e.c.nm, .int .i64 x.e.c.n, .string x.s]) (star (blkP (wr.heap.size + 1) 33 #[.slice A5 rl.length c5, .bool false, .slice none 0 0, .slice none 0 0]) (star (blkP (wr.heap.size + 1 + 1) 33 #[.slice A6 rl.length c6, .bool false, .slice none 0 0, .slice none 0 0]) (star (rowP 62 9 (.slice A6 rl.length c6) rl.length (recs rl)) none_))))))) by ac_rfl)).row.src)
          have S6 := Lib.hid (show ∀ X, Holds w.heap.size w X (star (dP 60 a D2) (star (dP 74 b D2) (star (blkP wr.heap.size 39 #[.int .i64 x.k, .int .i64 x.b, .int .i64 x.e.a, .int .i64 x.e.b, .int .i64 x.e.c.k, .int .i64 x.e.c.s, .int .i64 x.e.c.q, .string x.e.c.nm, .int .i64 x.e.c.n, .string x.s]) (star (blkP (wr.heap.size + 1) 33 #[.slice A5 rl.length c5, .bool false, .slice none 0 0, .slice none 0 0]) (star (blkP (wr.heap.size + 1 + 1) 33 #[.slice A6 rl.length c6, .bool false, .slice none 0 0, .slice none 0 0]) (star (rowP 62 9 (.slice A5 rl.length c5) rl.length (recs rl)) (star (rowP 62 9 (.slice A6 rl.length c6) rl.length (recs rl)) none_))))))) → U.Src X A6 9 rl.length (recs rl) from fun X h => (h.perm (show _ = (star (rowP 62 9 (.slice A6 rl.length c6) rl.length (recs rl)) (star (dP 60 a D2) (star (dP 74 b D2) (star (blkP wr.heap.size 39 #[.int .i64 x.k, .int .i64 x.b, .int .i64 x.e.a, .int .i64 x.e.b, .int .i64 x.e.c.k, .int .i64 x.e.c.s, .int .i64 x.e.c.q, .string x.e.c.nm, .int .i64 x.e.c.n, .string x.s]) (star (blkP (wr.heap.size + 1) 33 #[.slice A5 rl.length c5, .bool false, .slice none 0 0, .slice none 0 0]) (star (blkP (wr.heap.size + 1 + 1) 33 #[.slice A6 rl.length c6, .bool false, .slice none 0 0, .slice none 0 0]) (star (rowP 62 9 (.slice A5 rl.length c5) rl.length (recs rl)) none_))))))) by ac_rfl)).row.src)
          have m := SX.out _ HP.out
          try dsimp only at m
          obtain ⟨m0, m1, m2, m3, m4, m5⟩ := m
          go_wp2_with fail
          refine (recs25 _ rl A5 A6 c5 c6 (S5.out _ HP.out) (S6.out _ HP.out) (by first | omega | simp)).mono ?_
          rintro e w9 ⟨rfl, hk9⟩
          have K9 := Lib.hid hk9
          have m := SX.out _ (HH.out _ K9.out)
          try dsimp only at m
          clear m0 m1 m2 m3 m4 m5 hk9 r0 f0 r1 f1 r2 f2 r3 f3 q0 q1 q2 q3 p0 p1 p2
          obtain ⟨m0, m1, m2, m3, m4, m5⟩ := m
          go_wp2_with fail
          refine (x_same20 (HH.out _ K9.out) (by repeat (first | exact none_stable | exact dP_stable _ _ _ | exact blkP_stable _ _ _ | exact rowP_stable _ _ _ _ _ | apply Stable.star)) (by omega) R2.out x.e.a).mono ?_
          rintro e w10 ⟨rfl, hk10⟩
          have K10 := Lib.hid (K9.out.then hk10)
          clear hk10 m0 m1 m2 m3 m4 m5
          go_wp2_with fail
          go_roundw
          case rel => exact ⟨k + 1, D2, by omega, by go_num, by omega, R2, M2, ((HH.out _ K10.out).perm (show _ = (star (blkP wr.heap.size 39 #[.int .i64 x.k, .int .i64 x.b, .int .i64 x.e.a, .int .i64 x.e.b, .int .i64 x.e.c.k, .int .i64 x.e.c.s, .int .i64 x.e.c.q, .string x.e.c.nm, .int .i64 x.e.c.n, .string x.s]) (star (blkP (wr.heap.size + 1) 33 #[.slice A5 rl.length c5, .bool false, .slice none 0 0, .slice none 0 0]) (star (blkP (wr.heap.size + 1 + 1) 33 #[.slice A6 rl.length c6, .bool false, .slice none 0 0, .slice none 0 0]) (star (rowP 62 9 (.slice A5 rl.length c5) rl.length (recs rl)) (star (rowP 62 9 (.slice A6 rl.length c6) rl.length (recs rl)) (star (dP 60 a D2) (star (dP 74 b D2) none_))))))) by ac_rfl)).drop.drop.drop.drop.drop⟩
          case measure => simp [intOf]; omega
        · have g0 : (x.k == 0) = false := by rw [beq_eq_false_iff_ne]; exact h0
          have g1 : (x.k == 1) = false := by rw [beq_eq_false_iff_ne]; exact h1
          have HQ := Lib.hid (x_cut HZ.out (by repeat (first | exact none_stable | exact dP_stable _ _ _ | exact blkP_stable _ _ _ | exact rowP_stable _ _ _ _ _ | apply Stable.star)) (by omega) x.b x.s)
          have hl2 := cut_len D x.b x.s
          have R2 := Lib.hid (cut_rise hri.out x.b x.s)
          have M2 := Lib.hid (cut_lit hlit.out x.b x.s)
          have HQ4 := Lib.hid (fun (W : World) (h : Holds w.heap.size w W (star (dP 74 b D) (star (blkP wr.heap.size 39 #[.int .i64 x.k, .int .i64 x.b, .int .i64 x.e.a, .int .i64 x.e.b, .int .i64 x.e.c.k, .int .i64 x.e.c.s, .int .i64 x.e.c.q, .string x.e.c.nm, .int .i64 x.e.c.n, .string x.s]) (star (dP 60 a (cut D x.b x.s)) (star (blkP (wr.heap.size + 1) 33 zo4) (star (blkP (wr.heap.size + 1 + 1) 33 zo4) none_)))))) => x_cut24 h (by repeat (first | exact none_stable | exact dP_stable _ _ _ | exact blkP_stable _ _ _ | exact rowP_stable _ _ _ _ _ | apply Stable.star)) (by omega) hlit.out x.b XB.out.1.1 XB.out.1.2 x.s)
          obtain ⟨D2, hE⟩ : ∃ D2, cut D x.b x.s = D2 := ⟨_, rfl⟩
          have HE := Lib.hid hE
          rw [hE] at HQ HQ4 hl2 R2 M2
          clear h0 h1 hE
          go_wp2_with fail
          refine HQ.out.mono ?_
          rintro e w5 ⟨rfl, h5⟩
          have H6 := Lib.hid (show Holds w.heap.size w w5 (star (dP 74 b D) (star (blkP wr.heap.size 39 #[.int .i64 x.k, .int .i64 x.b, .int .i64 x.e.a, .int .i64 x.e.b, .int .i64 x.e.c.k, .int .i64 x.e.c.s, .int .i64 x.e.c.q, .string x.e.c.nm, .int .i64 x.e.c.n, .string x.s]) (star (dP 60 a D2) (star (blkP (wr.heap.size + 1) 33 zo4) (star (blkP (wr.heap.size + 1 + 1) 33 zo4) none_))))) from h5.perm (by ac_rfl))
          have BX := blk_at H6.out.second
          clear x0 x1 x2 x3 x4 x5 x6 x7 x8 x9 h5
          have x1 := BX.cell 1
          have x9 := BX.cell 9
          clear BX
          go_wp2_with fail
          refine (HQ4.out _ H6.out).mono ?_
          rintro e w7 ⟨rfl, h7⟩
          have h8 := Holds.newRow (e := 62) (size := 9) (v := .slice none 0 0) (n := 0) (xs := []) (Holds.newRow (e := 62) (size := 9) (v := .slice none 0 0) (n := 0) (xs := []) h7 (by repeat (first | exact none_stable | exact dP_stable _ _ _ | exact blkP_stable _ _ _ | exact rowP_stable _ _ _ _ _ | apply Stable.star)) (Row.nil _ 62 9) (Keep.same _ _) (fun k hk => by simp [Value.ownBlock] at hk)) (by repeat (first | exact none_stable | exact dP_stable _ _ _ | exact blkP_stable _ _ _ | exact rowP_stable _ _ _ _ _ | apply Stable.star)) (Row.nil _ 62 9) (Keep.same _ _) (fun k hk => by simp [Value.ownBlock] at hk)
          have H8 := Lib.hid (show Holds w.heap.size w w7 (star (dP 74 b D2) (star (blkP wr.heap.size 39 #[.int .i64 x.k, .int .i64 x.b, .int .i64 x.e.a, .int .i64 x.e.b, .int .i64 x.e.c.k, .int .i64 x.e.c.s, .int .i64 x.e.c.q, .string x.e.c.nm, .int .i64 x.e.c.n, .string x.s]) (star (dP 60 a D2) (star (blkP (wr.heap.size + 1) 33 #[.slice none 0 0, .bool false, .slice none 0 0, .slice none 0 0]) (star (blkP (wr.heap.size + 1 + 1) 33 #[.slice none 0 0, .bool false, .slice none 0 0, .slice none 0 0]) (star (rowP 62 9 (.slice none 0 0) 0 (recs [])) (star (rowP 62 9 (.slice none 0 0) 0 (recs [])) none_))))))) from h8.perm (by ac_rfl))
          clear h7 h8 x1 x9
          have HP := Lib.hid (show Holds w.heap.size w _ (star (dP 60 a D2) (star (dP 74 b D2) (star (blkP wr.heap.size 39 #[.int .i64 x.k, .int .i64 x.b, .int .i64 x.e.a, .int .i64 x.e.b, .int .i64 x.e.c.k, .int .i64 x.e.c.s, .int .i64 x.e.c.q, .string x.e.c.nm, .int .i64 x.e.c.n, .string x.s]) (star (blkP (wr.heap.size + 1) 33 #[.slice none 0 0, .bool false, .slice none 0 0, .slice none 0 0]) (star (blkP (wr.heap.size + 1 + 1) 33 #[.slice none 0 0, .bool false, .slice none 0 0, .slice none 0 0]) (star (rowP 62 9 (.slice none 0 0) 0 (recs ([] : List Rc))) (star (rowP 62 9 (.slice none 0 0) 0 (recs ([] : List Rc))) none_))))))) from H8.out.perm (by ac_rfl))
          have HH := Lib.hid (kept_all HP.out (by repeat (first | exact none_stable | exact dP_stable _ _ _ | exact blkP_stable _ _ _ | exact rowP_stable _ _ _ _ _ | apply Stable.star)))
          have KD := Lib.hid (keepN HP.out)
          have KS := Lib.hid (keep0 HP.out)
          have SX := Lib.hid (show ∀ X, Holds w.heap.size w X (star (dP 60 a D2) (star (dP 74 b D2) (star (blkP wr.heap.size 39 #[.int .i64 x.k, .int .i64 x.b, .int .i64 x.e.a, .int .i64 x.e.b, .int .i64 x.e.c.k, .int .i64 x.e.c.s, .int .i64 x.e.c.q, .string x.e.c.nm, .int .i64 x.e.c.n, .string x.s]) (star (blkP (wr.heap.size + 1) 33 #[.slice none 0 0, .bool false, .slice none 0 0, .slice none 0 0]) (star (blkP (wr.heap.size + 1 + 1) 33 #[.slice none 0 0, .bool false, .slice none 0 0, .slice none 0 0]) (star (rowP 62 9 (.slice none 0 0) 0 (recs ([] : List Rc))) (star (rowP 62 9 (.slice none 0 0) 0 (recs ([] : List Rc))) none_))))))) → (fun w' : World => w'.cell? ⟨wr.heap.size + 1, 0, none⟩ = some (.slice none 0 0) ∧ w'.cell? ⟨wr.heap.size + 1, 1, none⟩ = some (.bool false) ∧ w'.cell? ⟨wr.heap.size + 1, 2, none⟩ = some (.slice none 0 0) ∧ w'.cell? ⟨wr.heap.size + 1, 3, none⟩ = some (.slice none 0 0) ∧ w'.cell? ⟨wr.heap.size + 1 + 1, 0, none⟩ = some (.slice none 0 0) ∧ w'.cell? ⟨wr.heap.size, 2, none⟩ = some (.int .i64 x.e.a)) X from fun X h => by
            have g9 := blk_at (h.perm (show _ = (star (blkP (wr.heap.size + 1) 33 #[.slice none 0 0, .bool false, .slice none 0 0, .slice none 0 0]) (star (dP 60 a D2) (star (dP 74 b D2) (star (blkP wr.heap.size 39 #[.int .i64 x.k, .int .i64 x.b, .int .i64 x.e.a, .int .i64 x.e.b, .int .i64 x.e.c.k, .int .i64 x.e.c.s, .int .i64 x.e.c.q, .string x.e.c.nm, .int .i64 x.e.c.n, .string x.s]) (star (blkP (wr.heap.size + 1 + 1) 33 #[.slice none 0 0, .bool false, .slice none 0 0, .slice none 0 0]) (star (rowP 62 9 (.slice none 0 0) 0 (recs ([] : List Rc))) (star (rowP 62 9 (.slice none 0 0) 0 (recs ([] : List Rc))) none_))))))) by ac_rfl))
            have g10 := blk_at (h.perm (show _ = (star (blkP (wr.heap.size + 1 + 1) 33 #[.slice none 0 0, .bool false, .slice none 0 0, .slice none 0 0]) (star (dP 60 a D2) (star (dP 74 b D2) (star (blkP wr.heap.size 39 #[.int .i64 x.k, .int .i64 x.b, .int .i64 x.e.a, .int .i64 x.e.b, .int .i64 x.e.c.k, .int .i64 x.e.c.s, .int .i64 x.e.c.q, .string x.e.c.nm, .int .i64 x.e.c.n, .string x.s]) (star (blkP (wr.heap.size + 1) 33 #[.slice none 0 0, .bool false, .slice none 0 0, .slice none 0 0]) (star (rowP 62 9 (.slice none 0 0) 0 (recs ([] : List Rc))) (star (rowP 62 9 (.slice none 0 0) 0 (recs ([] : List Rc))) none_))))))) by ac_rfl))
            have g8 := blk_at (h.perm (show _ = (star (blkP wr.heap.size 39 #[.int .i64 x.k, .int .i64 x.b, .int .i64 x.e.a, .int .i64 x.e.b, .int .i64 x.e.c.k, .int .i64 x.e.c.s, .int .i64 x.e.c.q, .string x.e.c.nm, .int .i64 x.e.c.n, .string x.s]) (star (dP 60 a D2) (star (dP 74 b D2) (star (blkP (wr.heap.size + 1) 33 #[.slice none 0 0, .bool false, .slice none 0 0, .slice none 0 0]) (star (blkP (wr.heap.size + 1 + 1) 33 #[.slice none 0 0, .bool false, .slice none 0 0, .slice none 0 0]) (star (rowP 62 9 (.slice none 0 0) 0 (recs ([] : List Rc))) (star (rowP 62 9 (.slice none 0 0) 0 (recs ([] : List Rc))) none_))))))) by ac_rfl))
            exact ⟨g9.cell 0, g9.cell 1, g9.cell 2, g9.cell 3, g10.cell 0, g8.cell 2⟩)
          have S5 := Lib.hid (show ∀ X, Holds w.heap.size w X (star (dP 60 a D2) (star (dP 74 b D2) (star (blkP wr.heap.size 39 #[.int .i64 x.k, .int .i64 x.b, .int .i64 x.e.a, .int .i64 x.e.b, .int .i64 x.e.c.k, .int .i64 x.e.c.s, .int .i64 x.e.c.q, .string x.e.c.nm, .int .i64 x.e.c.n, .string x.s]) (star (blkP (wr.heap.size + 1) 33 #[.slice none 0 0, .bool false, .slice none 0 0, .slice none 0 0]) (star (blkP (wr.heap.size + 1 + 1) 33 #[.slice none 0 0, .bool false, .slice none 0 0, .slice none 0 0]) (star (rowP 62 9 (.slice none 0 0) 0 (recs ([] : List Rc))) (star (rowP 62 9 (.slice none 0 0) 0 (recs ([] : List Rc))) none_))))))) → U.Src X none 9 0 (recs ([] : List Rc)) from fun X h => (h.perm (show _ = (star (rowP 62 9 (.slice none 0 0) 0 (recs ([] : List Rc))) (star (dP 60 a D2) (star (dP 74 b D2) (star (blkP wr.heap.size 39 #[.int .i64 x.k, .int .i64 x.b, .int .i64 x.e.a, .int .i64 x.e.b, .int .i64 x.e.c.k, .int .i64 x.e.c.s, .int .i64 x.e.c.q, .string x.e.c.nm, .int .i64 x.e.c.n, .string x.s]) (star (blkP (wr.heap.size + 1) 33 #[.slice none 0 0, .bool false, .slice none 0 0, .slice none 0 0]) (star (blkP (wr.heap.size + 1 + 1) 33 #[.slice none 0 0, .bool false, .slice none 0 0, .slice none 0 0]) (star (rowP 62 9 (.slice none 0 0) 0 (recs ([] : List Rc))) none_))))))) by ac_rfl)).row.src)
          have S6 := Lib.hid (show ∀ X, Holds w.heap.size w X (star (dP 60 a D2) (star (dP 74 b D2) (star (blkP wr.heap.size 39 #[.int .i64 x.k, .int .i64 x.b, .int .i64 x.e.a, .int .i64 x.e.b, .int .i64 x.e.c.k, .int .i64 x.e.c.s, .int .i64 x.e.c.q, .string x.e.c.nm, .int .i64 x.e.c.n, .string x.s]) (star (blkP (wr.heap.size + 1) 33 #[.slice none 0 0, .bool false, .slice none 0 0, .slice none 0 0]) (star (blkP (wr.heap.size + 1 + 1) 33 #[.slice none 0 0, .bool false, .slice none 0 0, .slice none 0 0]) (star (rowP 62 9 (.slice none 0 0) 0 (recs ([] : List Rc))) (star (rowP 62 9 (.slice none 0 0) 0 (recs ([] : List Rc))) none_))))))) → U.Src X none 9 0 (recs ([] : List Rc)) from fun X h => (h.perm (show _ = (star (rowP 62 9 (.slice none 0 0) 0 (recs ([] : List Rc))) (star (dP 60 a D2) (star (dP 74 b D2) (star (blkP wr.heap.size 39 #[.int .i64 x.k, .int .i64 x.b, .int .i64 x.e.a, .int .i64 x.e.b, .int .i64 x.e.c.k, .int .i64 x.e.c.s, .int .i64 x.e.c.q, .string x.e.c.nm, .int .i64 x.e.c.n, .string x.s]) (star (blkP (wr.heap.size + 1) 33 #[.slice none 0 0, .bool false, .slice none 0 0, .slice none 0 0]) (star (blkP (wr.heap.size + 1 + 1) 33 #[.slice none 0 0, .bool false, .slice none 0 0, .slice none 0 0]) (star (rowP 62 9 (.slice none 0 0) 0 (recs ([] : List Rc))) none_))))))) by ac_rfl)).row.src)
          have m := SX.out _ HP.out
          try dsimp only at m
          obtain ⟨m0, m1, m2, m3, m4, m5⟩ := m
          go_wp2_with fail
          refine (recs25 _ ([] : List Rc) none none 0 0 (S5.out _ HP.out) (S6.out _ HP.out) (by first | omega | simp)).mono ?_
          rintro e w9 ⟨rfl, hk9⟩
          have K9 := Lib.hid hk9
          have m := SX.out _ (HH.out _ K9.out)
          try dsimp only at m
          clear m0 m1 m2 m3 m4 m5 hk9 
          obtain ⟨m0, m1, m2, m3, m4, m5⟩ := m
          go_wp2_with fail
          refine (x_same20 (HH.out _ K9.out) (by repeat (first | exact none_stable | exact dP_stable _ _ _ | exact blkP_stable _ _ _ | exact rowP_stable _ _ _ _ _ | apply Stable.star)) (by omega) R2.out x.e.a).mono ?_
          rintro e w10 ⟨rfl, hk10⟩
          have K10 := Lib.hid (K9.out.then hk10)
          clear hk10 m0 m1 m2 m3 m4 m5
          go_wp2_with fail
          go_roundw
          case rel => exact ⟨k + 1, D2, by omega, by go_num, by omega, R2, M2, ((HH.out _ K10.out).perm (show _ = (star (blkP wr.heap.size 39 #[.int .i64 x.k, .int .i64 x.b, .int .i64 x.e.a, .int .i64 x.e.b, .int .i64 x.e.c.k, .int .i64 x.e.c.s, .int .i64 x.e.c.q, .string x.e.c.nm, .int .i64 x.e.c.n, .string x.s]) (star (blkP (wr.heap.size + 1) 33 #[.slice none 0 0, .bool false, .slice none 0 0, .slice none 0 0]) (star (blkP (wr.heap.size + 1 + 1) 33 #[.slice none 0 0, .bool false, .slice none 0 0, .slice none 0 0]) (star (rowP 62 9 (.slice none 0 0) 0 (recs ([] : List Rc))) (star (rowP 62 9 (.slice none 0 0) 0 (recs ([] : List Rc))) (star (dP 60 a D2) (star (dP 74 b D2) none_))))))) by ac_rfl)).drop.drop.drop.drop.drop⟩
          case measure => simp [intOf]; omega
      · rcases (show ¬ k < len ∨ (k < len ∧ ¬ k < 200) by omega) with hex | ⟨hex1, hex2⟩
        all_goals go_wp2_with fail
        all_goals refine (awake9 _).mono ?_
        all_goals rintro e w9 ⟨rfl, hk9⟩
        all_goals have K9 := Lib.hid hk9
        all_goals clear hk9
        all_goals go_wp2_with fail
        all_goals go_ret
        all_goals exact ⟨rfl, (hb _ H.out.below).then K9.out⟩
end Go.Proofs.Ytnbllckmeehhjaa.A
