/-
  Rows of deeds as arguments; AcceptorRises.
-/
import Derived.Test.YtnbllckmeehhjaaQ5
namespace Go.Proofs.Ytnbllckmeehhjaa.A
open Go.RowKit Go.Proofs.Ytnbllckmeehhjaa.U
set_option linter.unusedVariables false
set_option linter.unusedSimpArgs false
set_option maxRecDepth 100000

def DeedAt (w : World) (p : Addr) (x : ADeed) : Prop :=
  w.cell? p = some (.int .i64 x.k) ∧ w.cell? ⟨p.block, p.off + 1, none⟩ = some (.int .i64 x.b) ∧ w.cell? ⟨p.block, p.off + 2, none⟩ = some (.int .i64 x.e.a) ∧ w.cell? ⟨p.block, p.off + 3, none⟩ = some (.int .i64 x.e.b) ∧ w.cell? ⟨p.block, p.off + 4, none⟩ = some (.int .i64 x.e.c.k) ∧
  w.cell? ⟨p.block, p.off + 5, none⟩ = some (.int .i64 x.e.c.s) ∧ w.cell? ⟨p.block, p.off + 6, none⟩ = some (.int .i64 x.e.c.q) ∧ w.cell? ⟨p.block, p.off + 7, none⟩ = some (.string x.e.c.nm) ∧ w.cell? ⟨p.block, p.off + 8, none⟩ = some (.int .i64 x.e.c.n) ∧ w.cell? ⟨p.block, p.off + 9, none⟩ = some (.string x.s)
theorem adeed_all {w : World} {B : Nat} {A : Option Addr} {len : Nat} {l : List ADeed} (h : R.Args w B A len 10 ADeed.cl l) {k : Nat} (hk : k < len) :
    ∃ (ad : Addr) (x : ADeed), A = some ad ∧ l[k]? = some x ∧ ∀ w', Below B w w' → DeedAt w' (ad.add (k * 10)) x := by
  have hl := h.1
  have hx : l[k]? = some (l[k]'(by omega)) := List.getElem?_eq_getElem (by omega)
  obtain ⟨ad, e, hB, hc⟩ := h.2 k _ hx
  have hb : (ad.add (k * 10)).block < B := by rw [addBlock]; exact hB
  refine ⟨ad, _, e, hx, fun w' hw => ?_⟩
  have g : ∀ j u, 0 < j → (l[k]'(by omega)).cl[j]? = some u → w'.cell? ⟨(ad.add (k * 10)).block, (ad.add (k * 10)).off + j, none⟩ = some u := fun j u hj hu =>
    (hw.cell (p := ⟨(ad.add (k * 10)).block, (ad.add (k * 10)).off + j, none⟩) hb).trans (by rw [← addLater ad (k * 10) j hj]; exact hc j u hu)
  exact ⟨(hw.cell hb).trans (hc 0 _ rfl), g 1 _ (by omega) rfl, g 2 _ (by omega) rfl, g 3 _ (by omega) rfl, g 4 _ (by omega) rfl, g 5 _ (by omega) rfl, g 6 _ (by omega) rfl, g 7 _ (by omega) rfl, g 8 _ (by omega) rfl, g 9 _ (by omega) rfl⟩
open Go.ChangeShapes Go.WideShapes Go.ChangeAt in
theorem open_adeeds {H : Type} {enc : TypeId × Value → H} {W : World} {base : Nat} {v : Value} {d : DataW H} {p : List MemPlace}
    (hv : Value.okWide Try.prog W .any base 25 v) (h : DataW.Trod enc Try.prog W 0 (fun _ => true) true 25 v d p) (hlt : ∀ x ∈ p, x.block < W.heap.size) (hw : R.Light 25 d) :
    ∃ A len cap l, v = .slice A len cap ∧ len ≤ cap ∧ cap ≤ maxLen ∧ R.Args W W.heap.size A len 10 ADeed.cl l := by
  obtain ⟨A, len, cap, rfl, hc1, hc2, _, hel⟩ := R.open_arg Try.underlying25 cells39 hv h hlt hw (by omega)
  obtain ⟨l, hl, hp⟩ := R.exists_list (p := fun i (x : ADeed) => ∃ ad, A = some ad ∧ ad.block < W.heap.size ∧ ∀ j u, x.cl[j]? = some u → W.cell? (ad.add (i * 10 + j)) = some u) len (fun i hi => by
    obtain ⟨ad, cs, n, y, rfl, hB, hcl, hat, ht, hy, hly⟩ := hel i hi
    obtain ⟨x, rfl⟩ := adeed_cells ht hy hly
    exact ⟨x, ad, rfl, hB, fun j u hu => (hat j (by have := (List.getElem?_eq_some_iff.1 hu).1; simpa using this)).trans hu⟩)
  exact ⟨A, len, cap, l, rfl, hc1, hc2, hl, hp⟩
theorem none_rose {D : DS} (h : Sound D) (b : Int) : Sound D ∧ D.pr ≤ D.pr ∧ ∀ y ∈ D.es, Rose D D b y :=
  ⟨h, Int.le_refl _, fun y hy => ⟨y, find_self h.1 hy, Int.le_refl _, fun _ e => absurd rfl e, (h.2.2.2 y hy).2⟩⟩
theorem accp_len (D : DS) (b : Int) (e : Ent) : (accp D b e).1.es.length ≤ D.es.length + 1 := by
  unfold accp
  split
  · exact Nat.le_succ _
  · split
    · exact putE_len _ _
    · exact Nat.le_succ _
theorem prep_len (D : DS) (b : Int) : (prep D b).1.es.length ≤ D.es.length + 1 := by
  unfold prep
  split <;> exact Nat.le_succ _
set_option maxHeartbeats 12800000 in
theorem arises_calls (w : World) (A : Option Addr) (len cap : Nat) (l : List ADeed) (hA : R.Args w w.heap.size A len 10 ADeed.cl l) (hlen : len ≤ cap) (hcap : cap ≤ maxLen) :
    Calls Try.prog 5 #[.slice A len cap] w (fun e w' => e = .returned (.bool true) ∧ Keep Nothing w w') := by
  have HA := Lib.hid hA
  have hu39 := Try.underlying39
  have hu37 := Try.underlying37
  have hb : ∀ w', Below w.heap.size w w' → Keep Nothing w w' := fun w' h => Keep.of_below h _
  have SN := Lib.hid none_stable
  have SD := Lib.hid (dP_stable 60)
  have SB := Lib.hid blkP_stable
  have SR := Lib.hid rowP_stable
  have HN := Lib.hid (x_new (Holds.start w) SN.out)
  have hmax : maxLen = 9223372036854775807 := by rfl
  clear hA
  go_enter Try.func5, Try.ntmps5
  go_wp2_with fail
  refine HN.out.mono ?_
  rintro e w1 ⟨a, rfl, h⟩
  have H1 := Lib.hid h
  clear h
  go_wp2_with fail
  generalize hg1 : w.heap.size = b1 at *
  clear hg1
  go_loopw [4] (fun v wr => ∃ (k : Nat) (D : DS), k ≤ 200 ∧ v = .int .i64 k ∧ D.es.length ≤ k ∧ Sound D ∧ Holds b1 w wr (star (dP 60 a D) none_)) (fun v _ => 200 - (intOf v).toNat)
  case atStart => exact ⟨0, zD, by omega, by simp, by simp, sound_zero, H1.out⟩
  case round =>
    obtain ⟨k, D, hk, rfl, hL, hsd, hh⟩ := hrel
    have H := Lib.hid hh
    have SO := Lib.hid hsd
    clear hh hsd
    by_cases hin : k < len ∧ k < 200
    · obtain ⟨hkl, hk3⟩ := hin
      obtain ⟨ad, x, rfl, _, hat⟩ := adeed_all HA.out hkl
      obtain ⟨dd0, dd1, dd2, dd3, dd4, dd5, dd6, dd7, dd8, dd9⟩ := hat _ H.out.below
      clear hat
      have H2 := Lib.hid (Holds.second (Holds.newBlk H.out ((SD.out a D).star SN.out) 39 x.cs))
      have HP := Lib.hid (x_promised H2.out)
      have HF := x_from H2.out (by omega) SO.out.1 0
      rw [sound_from SO.out] at HF
      have HF' := Lib.hid HF
      clear HF
      have BX := blk_at H2.out.second
      unfold ADeed.cs at BX HP H2 HF'
      go_wp2_with fail
      refine HP.out.mono ?_
      rintro e w2 ⟨rfl, rfl⟩
      go_wp2_with fail
      refine HF'.out.mono ?_
      rintro e w3 ⟨A3, c3, rfl, hr3, hk3, ho3⟩
      have STR := Lib.hid (show Stable (star (rowP 37 7 (.slice A3 D.es.length c3) D.es.length (ents D.es)) (star (blkP wr.heap.size 39 #[.int .i64 x.k, .int .i64 x.b, .int .i64 x.e.a, .int .i64 x.e.b, .int .i64 x.e.c.k, .int .i64 x.e.c.s, .int .i64 x.e.c.q, .string x.e.c.nm, .int .i64 x.e.c.n, .string x.s]) none_)) from (SR.out _ _ _ _ _).star ((SB.out _ _ _).star SN.out))
      have H3 := Lib.hid (show Holds b1 w w3 (star (dP 60 a D) (star (rowP 37 7 (.slice A3 D.es.length c3) D.es.length (ents D.es)) (star (blkP wr.heap.size 39 #[.int .i64 x.k, .int .i64 x.b, .int .i64 x.e.a, .int .i64 x.e.b, .int .i64 x.e.c.k, .int .i64 x.e.c.s, .int .i64 x.e.c.q, .string x.e.c.nm, .int .i64 x.e.c.n, .string x.s]) none_))) from Holds.second (Holds.newRow H2.out ((SD.out a D).star ((SB.out _ _ _).star SN.out)) hr3 hk3 ho3))
      have BX3 := blk_at (Holds.second H3.out).drop.second
      have x0 := BX3.cell 0
      have x1 := BX3.cell 1
      have x2 := BX3.cell 2
      have x3 := BX3.cell 3
      have x4 := BX3.cell 4
      have x5 := BX3.cell 5
      have x6 := BX3.cell 6
      have x7 := BX3.cell 7
      have x8 := BX3.cell 8
      clear hr3 hk3 ho3 BX BX3 dd0 dd1 dd2 dd3 dd4 dd5 dd6 dd7 dd8 dd9
      rcases (show x.k = 0 ∨ (¬ x.k = 0 ∧ x.k = 1) ∨ (¬ x.k = 0 ∧ ¬ x.k = 1) by omega) with h0 | ⟨h0, h1⟩ | ⟨h0, h1⟩
      · have g0 : (x.k == 0) = true := by rw [beq_iff_eq]; exact h0
        have HQ := Lib.hid (x_prepare H3.out STR.out x.b)
        have GD := Lib.hid (prep_sound SO.out x.b)
        have hl4 := prep_len D x.b
        obtain ⟨D', ok, rl, hE⟩ : ∃ D' ok rl, prep D x.b = (D', ok, rl) := ⟨_, _, _, rfl⟩
        rw [hE] at HQ GD hl4
        dsimp only at GD hl4
        clear h0 hE
        go_wp2_with fail
        refine HQ.out.mono ?_
        rintro e w5 ⟨A5, c5, rfl, h5⟩
        dsimp only at h5
        have H5 := Lib.hid h5.drop
        clear h5 HQ x0 x1 x2 x3 x4 x5 x6 x7 x8
        go_wp2_with fail
        refine (x_promised H5.out).mono ?_
        rintro e w6 ⟨rfl, rfl⟩
        have hpr : decide (D'.pr < D.pr) = false := decide_eq_false (by have := GD.out.2.1; omega)
        go_wp2_with fail
        go_loopw [8] (fun v wr2 => ∃ j : Nat, j ≤ D.es.length ∧ v = .int .i64 j ∧ Holds b1 w wr2 (star (dP 60 a D') (star (rowP 37 7 (.slice A3 D.es.length c3) D.es.length (ents D.es)) (star (blkP wr.heap.size 39 #[.int .i64 x.k, .int .i64 x.b, .int .i64 x.e.a, .int .i64 x.e.b, .int .i64 x.e.c.k, .int .i64 x.e.c.s, .int .i64 x.e.c.q, .string x.e.c.nm, .int .i64 x.e.c.n, .string x.s]) none_)))) (fun v _ => D.es.length - (intOf v).toNat)
        case atStart => exact ⟨0, by omega, by simp, H5.out⟩
        case round =>
          obtain ⟨j, hj, rfl, hh⟩ := hrel
          have HJ := Lib.hid hh
          clear hh
          by_cases hjl : j < D.es.length
          · obtain ⟨ad2, y, rfl, hy, he⟩ := ent_at (Holds.second HJ.out).row.src hjl
            obtain ⟨x9, hf, r1, r2, r3⟩ := GD.out.2.2 y (List.mem_of_getElem? hy)
            have e0 := he.1
            have HA2 := x_at HJ.out (by omega) y.a
            unfold AtPost at HA2
            rw [hf] at HA2
            simp only [entOr, Option.getD_some, Option.isSome_some] at HA2
            have HA3 := Lib.hid HA2
            have HE := Lib.hid he
            clear HA2 hf hy he
            go_wp2_with fail
            refine HA3.out.mono ?_
            rintro e w7 ⟨rfl, hk7⟩
            have HW := Lib.hid ((HJ.out.kept ((SD.out a D').star STR.out) hk7).alloc ((SD.out a D').star STR.out) (.cells x9.cs 37))
            obtain ⟨e0', e1, e2, e3, e4, e5, e6⟩ := HE.out.keep (hk7.alloc (.cells x9.cs 37)) (fun h => h)
            have Z := Blk.fresh w7 37 x9.cs
            have z0 := Z.cell 0
            have z1 := Z.cell 1
            have z2 := Z.cell 2
            have z3 := Z.cell 3
            have z4 := Z.cell 4
            have z5 := Z.cell 5
            have z6 := Z.cell 6
            have xb := (blk_at (Holds.second HW.out).drop.second).cell 1
            have T16 := Lib.hid (fun n => x_promised (HW.out.drewN ((SD.out a D').star STR.out) n))
            have hq := fun w => neqE w x9 y
            have g5 : decide (x9.b < y.b) = false := decide_eq_false (by omega)
            have g6 : decide (D'.pr < x9.b) = false := decide_eq_false (by omega)
            unfold Ent.cs at hq Z z0 z1 z2 z3 z4 z5 z6 T16
            clear hk7 Z e0
            rcases (show (x9.b == y.b) = false ∨ ((x9.b == y.b) = true ∧ eqE x9 y = true) ∨ ((x9.b == y.b) = true ∧ eqE x9 y = false ∧ (x.b != x9.b) = false) by
              cases hb9 : (x9.b == y.b) with
              | false => exact .inl rfl
              | true =>
                cases h9 : eqE x9 y with
                | true => exact .inr (.inl ⟨rfl, rfl⟩)
                | false =>
                  have hne : x9 ≠ y := fun h => by rw [h, eqE_same] at h9; cases h9
                  have := r2 (by simpa using hb9) hne
                  exact .inr (.inr ⟨rfl, rfl, by rw [this]; simp⟩)) with g7 | ⟨g7, g8⟩ | ⟨g7, g8, g9⟩
            all_goals clear r1 r2 r3
            all_goals (try rw [g8] at hq)
            all_goals go_wp2_with fail
            all_goals go_quiet ((go_at_call 16; exact Calls.quiet_of_same (T16.out _)))
            all_goals go_wp2_with fail
            all_goals go_roundw
            case rel => exact ⟨j + 1, by omega, by go_num, HW.out.drewN ((SD.out a D').star STR.out) _⟩
            case measure => simp [intOf]; omega
            case rel => exact ⟨j + 1, by omega, by go_num, HW.out.drewN ((SD.out a D').star STR.out) _⟩
            case measure => simp [intOf]; omega
            case rel => exact ⟨j + 1, by omega, by go_num, HW.out.drewN ((SD.out a D').star STR.out) _⟩
            case measure => simp [intOf]; omega
          · go_wp2_with fail
            go_roundw
            case rel => exact ⟨k + 1, D', by omega, by go_num, by omega, GD.out.1, (Holds.second (Holds.second HJ.out).drop).drop⟩
            case measure => simp [intOf]; omega
      · have g0 : (x.k == 0) = false := by rw [beq_eq_false_iff_ne]; exact h0
        have g1 : (x.k == 1) = true := by rw [beq_iff_eq]; exact h1
        have HQ := Lib.hid (x_accept H3.out STR.out (by omega) SO.out.1 x.b x.e)
        have GD := Lib.hid (accp_sound SO.out x.b x.e)
        have hl4 := accp_len D x.b x.e
        obtain ⟨D', ok, rl, hE⟩ : ∃ D' ok rl, accp D x.b x.e = (D', ok, rl) := ⟨_, _, _, rfl⟩
        rw [hE] at HQ GD hl4
        dsimp only at GD hl4
        unfold Ent.val Ent.cs at HQ
        clear h0 h1 hE
        go_wp2_with fail
        refine HQ.out.mono ?_
        rintro e w5 ⟨A5, c5, rfl, h5⟩
        dsimp only at h5
        have H5 := Lib.hid h5.drop
        clear h5 HQ x0 x1 x2 x3 x4 x5 x6 x7 x8
        go_wp2_with fail
        refine (x_promised H5.out).mono ?_
        rintro e w6 ⟨rfl, rfl⟩
        have hpr : decide (D'.pr < D.pr) = false := decide_eq_false (by have := GD.out.2.1; omega)
        go_wp2_with fail
        go_loopw [8] (fun v wr2 => ∃ j : Nat, j ≤ D.es.length ∧ v = .int .i64 j ∧ Holds b1 w wr2 (star (dP 60 a D') (star (rowP 37 7 (.slice A3 D.es.length c3) D.es.length (ents D.es)) (star (blkP wr.heap.size 39 #[.int .i64 x.k, .int .i64 x.b, .int .i64 x.e.a, .int .i64 x.e.b, .int .i64 x.e.c.k, .int .i64 x.e.c.s, .int .i64 x.e.c.q, .string x.e.c.nm, .int .i64 x.e.c.n, .string x.s]) none_)))) (fun v _ => D.es.length - (intOf v).toNat)
        case atStart => exact ⟨0, by omega, by simp, H5.out⟩
        case round =>
          obtain ⟨j, hj, rfl, hh⟩ := hrel
          have HJ := Lib.hid hh
          clear hh
          by_cases hjl : j < D.es.length
          · obtain ⟨ad2, y, rfl, hy, he⟩ := ent_at (Holds.second HJ.out).row.src hjl
            obtain ⟨x9, hf, r1, r2, r3⟩ := GD.out.2.2 y (List.mem_of_getElem? hy)
            have e0 := he.1
            have HA2 := x_at HJ.out (by omega) y.a
            unfold AtPost at HA2
            rw [hf] at HA2
            simp only [entOr, Option.getD_some, Option.isSome_some] at HA2
            have HA3 := Lib.hid HA2
            have HE := Lib.hid he
            clear HA2 hf hy he
            go_wp2_with fail
            refine HA3.out.mono ?_
            rintro e w7 ⟨rfl, hk7⟩
            have HW := Lib.hid ((HJ.out.kept ((SD.out a D').star STR.out) hk7).alloc ((SD.out a D').star STR.out) (.cells x9.cs 37))
            obtain ⟨e0', e1, e2, e3, e4, e5, e6⟩ := HE.out.keep (hk7.alloc (.cells x9.cs 37)) (fun h => h)
            have Z := Blk.fresh w7 37 x9.cs
            have z0 := Z.cell 0
            have z1 := Z.cell 1
            have z2 := Z.cell 2
            have z3 := Z.cell 3
            have z4 := Z.cell 4
            have z5 := Z.cell 5
            have z6 := Z.cell 6
            have xb := (blk_at (Holds.second HW.out).drop.second).cell 1
            have T16 := Lib.hid (fun n => x_promised (HW.out.drewN ((SD.out a D').star STR.out) n))
            have hq := fun w => neqE w x9 y
            have g5 : decide (x9.b < y.b) = false := decide_eq_false (by omega)
            have g6 : decide (D'.pr < x9.b) = false := decide_eq_false (by omega)
            unfold Ent.cs at hq Z z0 z1 z2 z3 z4 z5 z6 T16
            clear hk7 Z e0
            rcases (show (x9.b == y.b) = false ∨ ((x9.b == y.b) = true ∧ eqE x9 y = true) ∨ ((x9.b == y.b) = true ∧ eqE x9 y = false ∧ (x.b != x9.b) = false) by
              cases hb9 : (x9.b == y.b) with
              | false => exact .inl rfl
              | true =>
                cases h9 : eqE x9 y with
                | true => exact .inr (.inl ⟨rfl, rfl⟩)
                | false =>
                  have hne : x9 ≠ y := fun h => by rw [h, eqE_same] at h9; cases h9
                  have := r2 (by simpa using hb9) hne
                  exact .inr (.inr ⟨rfl, rfl, by rw [this]; simp⟩)) with g7 | ⟨g7, g8⟩ | ⟨g7, g8, g9⟩
            all_goals clear r1 r2 r3
            all_goals (try rw [g8] at hq)
            all_goals go_wp2_with fail
            all_goals go_quiet ((go_at_call 16; exact Calls.quiet_of_same (T16.out _)))
            all_goals go_wp2_with fail
            all_goals go_roundw
            case rel => exact ⟨j + 1, by omega, by go_num, HW.out.drewN ((SD.out a D').star STR.out) _⟩
            case measure => simp [intOf]; omega
            case rel => exact ⟨j + 1, by omega, by go_num, HW.out.drewN ((SD.out a D').star STR.out) _⟩
            case measure => simp [intOf]; omega
            case rel => exact ⟨j + 1, by omega, by go_num, HW.out.drewN ((SD.out a D').star STR.out) _⟩
            case measure => simp [intOf]; omega
          · go_wp2_with fail
            go_roundw
            case rel => exact ⟨k + 1, D', by omega, by go_num, by omega, GD.out.1, (Holds.second (Holds.second HJ.out).drop).drop⟩
            case measure => simp [intOf]; omega
      · have g0 : (x.k == 0) = false := by rw [beq_eq_false_iff_ne]; exact h0
        have g1 : (x.k == 1) = false := by rw [beq_eq_false_iff_ne]; exact h1
        have GD' := Lib.hid (none_rose SO.out x.b)
        have hl4' : D.es.length ≤ D.es.length + 1 := Nat.le_succ _
        obtain ⟨D', hD'⟩ : ∃ D', D' = D := ⟨_, rfl⟩
        have GD := Lib.hid (show Sound D' ∧ D.pr ≤ D'.pr ∧ ∀ y ∈ D.es, Rose D D' x.b y by rw [hD']; exact GD'.out)
        have H5 := Lib.hid (show Holds b1 w w3 (star (dP 60 a D') (star (rowP 37 7 (.slice A3 D.es.length c3) D.es.length (ents D.es)) (star (blkP wr.heap.size 39 #[.int .i64 x.k, .int .i64 x.b, .int .i64 x.e.a, .int .i64 x.e.b, .int .i64 x.e.c.k, .int .i64 x.e.c.s, .int .i64 x.e.c.q, .string x.e.c.nm, .int .i64 x.e.c.n, .string x.s]) none_))) by rw [hD']; exact H3.out)
        have hl4 : D'.es.length ≤ D.es.length + 1 := by rw [hD']; exact hl4'
        clear h0 h1 hD' hl4'
        go_wp2_with fail
        refine (x_promised H5.out).mono ?_
        rintro e w6 ⟨rfl, rfl⟩
        have hpr : decide (D'.pr < D.pr) = false := decide_eq_false (by have := GD.out.2.1; omega)
        go_wp2_with fail
        go_loopw [8] (fun v wr2 => ∃ j : Nat, j ≤ D.es.length ∧ v = .int .i64 j ∧ Holds b1 w wr2 (star (dP 60 a D') (star (rowP 37 7 (.slice A3 D.es.length c3) D.es.length (ents D.es)) (star (blkP wr.heap.size 39 #[.int .i64 x.k, .int .i64 x.b, .int .i64 x.e.a, .int .i64 x.e.b, .int .i64 x.e.c.k, .int .i64 x.e.c.s, .int .i64 x.e.c.q, .string x.e.c.nm, .int .i64 x.e.c.n, .string x.s]) none_)))) (fun v _ => D.es.length - (intOf v).toNat)
        case atStart => exact ⟨0, by omega, by simp, H5.out⟩
        case round =>
          obtain ⟨j, hj, rfl, hh⟩ := hrel
          have HJ := Lib.hid hh
          clear hh
          by_cases hjl : j < D.es.length
          · obtain ⟨ad2, y, rfl, hy, he⟩ := ent_at (Holds.second HJ.out).row.src hjl
            obtain ⟨x9, hf, r1, r2, r3⟩ := GD.out.2.2 y (List.mem_of_getElem? hy)
            have e0 := he.1
            have HA2 := x_at HJ.out (by omega) y.a
            unfold AtPost at HA2
            rw [hf] at HA2
            simp only [entOr, Option.getD_some, Option.isSome_some] at HA2
            have HA3 := Lib.hid HA2
            have HE := Lib.hid he
            clear HA2 hf hy he
            go_wp2_with fail
            refine HA3.out.mono ?_
            rintro e w7 ⟨rfl, hk7⟩
            have HW := Lib.hid ((HJ.out.kept ((SD.out a D').star STR.out) hk7).alloc ((SD.out a D').star STR.out) (.cells x9.cs 37))
            obtain ⟨e0', e1, e2, e3, e4, e5, e6⟩ := HE.out.keep (hk7.alloc (.cells x9.cs 37)) (fun h => h)
            have Z := Blk.fresh w7 37 x9.cs
            have z0 := Z.cell 0
            have z1 := Z.cell 1
            have z2 := Z.cell 2
            have z3 := Z.cell 3
            have z4 := Z.cell 4
            have z5 := Z.cell 5
            have z6 := Z.cell 6
            have xb := (blk_at (Holds.second HW.out).drop.second).cell 1
            have T16 := Lib.hid (fun n => x_promised (HW.out.drewN ((SD.out a D').star STR.out) n))
            have hq := fun w => neqE w x9 y
            have g5 : decide (x9.b < y.b) = false := decide_eq_false (by omega)
            have g6 : decide (D'.pr < x9.b) = false := decide_eq_false (by omega)
            unfold Ent.cs at hq Z z0 z1 z2 z3 z4 z5 z6 T16
            clear hk7 Z e0
            rcases (show (x9.b == y.b) = false ∨ ((x9.b == y.b) = true ∧ eqE x9 y = true) ∨ ((x9.b == y.b) = true ∧ eqE x9 y = false ∧ (x.b != x9.b) = false) by
              cases hb9 : (x9.b == y.b) with
              | false => exact .inl rfl
              | true =>
                cases h9 : eqE x9 y with
                | true => exact .inr (.inl ⟨rfl, rfl⟩)
                | false =>
                  have hne : x9 ≠ y := fun h => by rw [h, eqE_same] at h9; cases h9
                  have := r2 (by simpa using hb9) hne
                  exact .inr (.inr ⟨rfl, rfl, by rw [this]; simp⟩)) with g7 | ⟨g7, g8⟩ | ⟨g7, g8, g9⟩
            all_goals clear r1 r2 r3
            all_goals (try rw [g8] at hq)
            all_goals go_wp2_with fail
            all_goals go_quiet ((go_at_call 16; exact Calls.quiet_of_same (T16.out _)))
            all_goals go_wp2_with fail
            all_goals go_roundw
            case rel => exact ⟨j + 1, by omega, by go_num, HW.out.drewN ((SD.out a D').star STR.out) _⟩
            case measure => simp [intOf]; omega
            case rel => exact ⟨j + 1, by omega, by go_num, HW.out.drewN ((SD.out a D').star STR.out) _⟩
            case measure => simp [intOf]; omega
            case rel => exact ⟨j + 1, by omega, by go_num, HW.out.drewN ((SD.out a D').star STR.out) _⟩
            case measure => simp [intOf]; omega
          · go_wp2_with fail
            go_roundw
            case rel => exact ⟨k + 1, D', by omega, by go_num, by omega, GD.out.1, (Holds.second (Holds.second HJ.out).drop).drop⟩
            case measure => simp [intOf]; omega
    · rcases (show ¬ k < len ∨ (k < len ∧ ¬ k < 200) by omega) with hex | ⟨hex1, hex2⟩
      all_goals go_wp2_with fail
      all_goals refine (awake9 _).mono ?_
      all_goals rintro e w9 ⟨rfl, hk9⟩
      all_goals have K9 := Lib.hid hk9
      all_goals clear hk9
      all_goals go_wp2_with fail
      all_goals go_ret
      all_goals exact ⟨rfl, (hb _ H.out.below).then K9.out⟩
open Go.ChangeShapes Go.WideShapes Go.ChangeAt in
theorem arises_law : R.Law 5 Try.f5 R.any := by
  intro H enc W base args ds p hval hA hsz _ hlt
  rw [Try.params5] at hA hval hsz
  obtain ⟨v0, vs0, d0, ds0, p0, q0, hargs, rfl, rfl, h0, r0⟩ := trodAll_cons hA
  obtain ⟨rfl, rfl, rfl⟩ := trodAll_nil r0
  obtain rfl : args = #[v0] := by cases args; simp_all
  obtain ⟨A, len, cap, l, rfl, h1, h2, h3⟩ := open_adeeds (hval 0 25 v0 rfl rfl) h0 (fun q hq => hlt q (List.mem_append_left _ hq)) (R.light_of (j := 0) hsz rfl rfl)
  exact (arises_calls W A len cap l h3 h1 h2).mono fun e w' h => ⟨h.1, h.2.below (Nat.le_refl _) (fun _ h => h.elim)⟩
end Go.Proofs.Ytnbllckmeehhjaa.A
