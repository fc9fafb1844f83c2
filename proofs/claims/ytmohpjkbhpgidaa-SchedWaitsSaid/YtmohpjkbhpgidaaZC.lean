/-
  SchedWaits, many. Printed by gen_zb.py.
-/
import Derived.Test.YtmohpjkbhpgidaaZB
namespace Go.Proofs.Ytmohpjkbhpgidaa.A
open Go.ChangeShapes Go.WideShapes Go.ChangeAt Go.RowKit Go.Joins Go.Proofs.Ytmohpjkbhpgidaa.U
set_option linter.unusedVariables false
set_option linter.unusedSimpArgs false
set_option maxRecDepth 100000
set_option maxHeartbeats 1600000

theorem wait16a (w : World) (n : Int) (Ap : Option Addr) (np cp : Nat) (picks : List Int) (hp : U.Src w Ap 1 np (ints picks)) (h1 : 8 < n) :
    Calls Try.prog 16 #[.int .i64 n, .slice Ap np cp] w (fun e w' => e = .returned (.bool true) ∧ Keep Nothing w w') := by
  have HP := Lib.hid hp
  have hu := Try.underlying97
  have hu2 := Try.underlying103
  clear hp
  have T0 := Lib.hid (tks_one w (wtO 8) 3 rfl (by decide))
  go_enter Try.func16, Try.ntmps16
  go_wp2_with fail
  go_loopw [5, 6] (fun tv iv wr => ∃ (k : Nat) (Z : List (Value × List Op3)) (A : Option Addr) (c : Nat), k ≤ 8 ∧ iv = .int .i64 k ∧ tv = .slice A Z.length c ∧ Z.length = k + 1 ∧ Z.map (·.2) = wtO 8 :: List.replicate k wtR ∧ Holds w.heap.size w wr (star (tksP (.slice A Z.length c) Z) none_)) (fun _ iv _ => 8 - (intOf iv).toNat)
  case atStart => exact ⟨0, _, _, _, by omega, by simp, rfl, rfl, rfl, T0.out⟩
  case round =>
    obtain ⟨k, Z, A, c, hk, rfl, rfl, hZ, hZm, hh⟩ := hrel
    have HH := Lib.hid hh
    have HZ := Lib.hid hZ
    have HM := Lib.hid hZm
    have HK := Lib.hid hk
    clear hh hZ hZm
    by_cases hlt : k < 8
    · have HLT := Lib.hid (show k + 1 ≤ 8 by omega)
      skip
      have T1 := Lib.hid (tks_made HH.out none_stable wtR 2 rfl (by decide) (.cells #[.slice (some ⟨wr.heap.size, 0, none⟩) 2 2] 99))
      have S1 := Lib.hid (show Stable (star (rowP 97 3 (.slice (some ⟨wr.heap.size, 0, none⟩) 2 2) 2 (opsV wtR)) (star (innP Z) none_)) from (rowP_stable _ _ _ _ _).star ((innP_stable Z).star none_stable))
      have SRC := Lib.hid (show U.Src ((wr.alloc (.cells (opsV wtR).toArray 97)).alloc (.cells #[.slice (some ⟨wr.heap.size, 0, none⟩) 2 2] 99)) (some ⟨wr.heap.size + 1, 0, none⟩) 1 1 [.slice (some ⟨wr.heap.size, 0, none⟩) 2 2] from by
        have h := U.Src.fresh (wr.alloc (.cells (opsV wtR).toArray 97)) #[.slice (some ⟨wr.heap.size, 0, none⟩) 2 2] 99 1 1 rfl
        rw [size_alloc] at h
        exact h)
      have hml : Z.length + 1 ≤ maxLen := by have := HZ.out; have := HK.out; unfold maxLen; omega
      have hb : (Z.length + 1) * 24 ≤ 140737488355328 := by have := HZ.out; have := HK.out; omega
      clear hk
      go_wp2_with (at_builtin; refine wpList_app _ rfl E89 (.tmp 30) (.tmp 34) rfl T1.out.row SRC.out 1 rfl rfl (by simp [Value.oneCell']) hml hb ?_)
      intro v5 w5 hr5 hg5 hl5
      obtain ⟨A5, c5, rfl, _, _⟩ := hr5.form
      have h5 := T1.out.grew S1.out hr5 hg5 (by rw [size_alloc, size_alloc] at *; exact hl5)
      have H5 := Lib.hid (tks_push (L := wtR) (Z := Z) rfl rfl h5)
      clear hr5 hg5 hl5 h5
      go_wp2_with fail
      go_roundw
      case rel =>
        refine ⟨k + 1, Z ++ [(.slice (some ⟨wr.heap.size, 0, none⟩) 2 2, wtR)], A5, c5, HLT.out, by go_num, by simp, by simp [HZ.out], ?_, ?_⟩
        · rw [List.map_append, HM.out, List.replicate_succ']; rfl
        · rw [List.length_append]; exact H5.out
      case measure => have := HLT.out; simp [intOf]; omega
    · obtain rfl : k = 8 := by omega
      clear hk
      by_cases hbig : 1000 < np
      · go_wp2_with fail
        refine (awake54 _).mono ?_
        rintro e w6 ⟨rfl, hk6⟩
        have H6 := Lib.hid (HH.out.kept ((tksP_stable _ _).star none_stable) (Keep.then (by repeat (first | with_reducible (exact Keep.same _ _) | with_reducible (apply Keep.drew) | with_reducible (apply Keep.alloc))) hk6))
        clear hk6
        go_wp2_with fail
        go_ret
        exact ⟨rfl, Keep.of_below H6.out.below _⟩
      · have hl2 : ∀ z ∈ Z, z.2 = wtO 8 ∨ z.2 = wtR := fun z hz => by
          have h1 : z.2 ∈ Z.map (·.2) := List.mem_map_of_mem hz
          rw [HM.out] at h1
          rcases List.mem_cons.1 h1 with h1 | h1
          · exact .inl h1
          · exact .inr (List.eq_of_mem_replicate h1)
        have AO := Lib.hid (tks_args HH.out (fun z hz => by rcases hl2 z hz with h | h <;> rw [h] <;> first | decide | (show 3 ≤ 1000000; omega)))
        have LT := Lib.hid (show Below w.heap.size w wr ∧ w.heap.size ≤ wr.heap.size from ⟨HH.out.below, by obtain ⟨_, _, _, h, _⟩ := HH.out; exact h⟩)
        have hTS : Z.map (·.2) = wtO (8 : Nat) :: List.replicate 8 wtR := HM.out
        have G0 := Lib.hid (new_good (wtO (8 : Nat) :: List.replicate 8 wtR) (fun l hl => by
          rcases List.mem_cons.1 hl with rfl | hl
          · exact ⟨by show 3 ≤ _; omega, fun x hx => by simp only [wtO, List.mem_cons, List.not_mem_nil, or_false] at hx; rcases hx with rfl | rfl | rfl <;> dsimp only <;> omega⟩
          · rw [List.eq_of_mem_replicate hl]
            exact ⟨by decide, fun x hx => by simp only [wtR, List.mem_cons, List.not_mem_nil, or_false] at hx; rcases hx with rfl | rfl <;> exact ⟨by decide, by decide⟩⟩) (by rw [List.length_cons, List.length_replicate]; omega))
        have NEW := Lib.hid (e_new wr A c (wtO (8 : Nat) :: List.replicate 8 wtR) (by rw [← hTS]; exact AO.out) (by rw [List.length_cons, List.length_replicate]; omega))
        rw [show (wtO (8 : Nat) :: List.replicate 8 wtR).length = Z.length by rw [← hTS, List.length_map]] at NEW
        obtain ⟨t1, x1, ht1, hr1, hx1, ha1, he1, hw1⟩ := wt_first 8 (by omega) (by omega)
        have hmu1 := Nat.lt_of_lt_of_le (mu_step (x := x1) ht1 hr1) (wt_mu 8 (by omega))
        have hpl : picks.length = np := by have := HP.out.1; rw [ints, List.length_map] at this; omega
        have FST := Lib.hid (And.intro ht1 (And.intro hr1 hx1))
        have W1 := Lib.hid hw1
        have E1 := Lib.hid he1
        have A1 := Lib.hid ha1
        have MU1 := Lib.hid hmu1
        have G1 := Lib.hid (G0.out.step (x := x1) ht1 hr1)
        clear hl2 hTS ht1 hr1 hx1 ha1 he1 hw1 hmu1
        go_wp2_with fail
        refine NEW.out.mono ?_
        rintro e wn ⟨b, bm, rfl, hh⟩
        have HS := Lib.hid (holds_new hh (schE_stable.star none_stable) LT.out.1 LT.out.2)
        have ST1 := Lib.hid (show Calls Try.prog 62 #[.pointer (some ⟨b, 0, none⟩), .int .i64 0] wn _ from e_step HS.out none_stable G0.out (by omega) 0 t1 FST.out.1 FST.out.2.1 x1 FST.out.2.2)
        generalize (stepX (newS (wtO (8 : Nat) :: List.replicate 8 wtR)) 0 t1 x1).2 = S1 at *
        generalize (stepX (newS (wtO (8 : Nat) :: List.replicate 8 wtR)) 0 t1 x1).1 = er1 at *
        have er0 := E1.out
        subst er0
        have at0 := A1.out
        rw [at0] at ST1
        clear hh at0
        go_wp2_with fail
        refine ST1.out.mono ?_
        rintro e ws ⟨rfl, hhs⟩
        have HS2 := Lib.hid (hhs.alloc (schE_stable.star none_stable) (.cells #[.int .i64 0, .int .i64 0, .int .i64 0] 103))
        clear hhs
        go_wp2_with fail
        go_loopw [10, 11] (fun dv iv wr => ∃ (k d : Nat) (D : Int) (S : PS), k ≤ 60 ∧ iv = .int .i64 k ∧ dv = .int .i64 D ∧ D = d ∧ WtI 8 S d ∧ mu S.T + k ≤ 60 ∧ GoodS S (k + 1) ∧ Holds w.heap.size w wr (star (schE b bm S) none_)) (fun _ iv _ => 100 - (intOf iv).toNat)
        case atStart => exact ⟨0, 0, 0, S1, by omega, by simp, rfl, rfl, W1.out, by have := MU1.out; omega, G1.out, HS2.out.kept (schE_stable.star none_stable) (by repeat (first | with_reducible (exact Keep.same _ _) | with_reducible (apply Keep.drew) | with_reducible (apply Keep.alloc)))⟩
        case round =>
          obtain ⟨k, d, D, S, hk, rfl, rfl, hD, hwi, hmu, hgS, hh⟩ := hrel
          have HH := Lib.hid hh
          have GS := Lib.hid hgS
          have WI := Lib.hid hwi
          have MU := Lib.hid hmu
          have HDD := Lib.hid hD
          have HE := HH
          have RD := Lib.hid (fun w' (hk' : Keep Nothing wr w') => e_ready (hh.kept (schE_stable.star none_stable) hk') hgS.len)
          have hk200 : k < 100 := by omega
          clear hh hgS hwi hmu hD
          go_wp2_with fail
          refine (RD.out _ (by repeat (first | with_reducible (exact Keep.same _ _) | with_reducible (apply Keep.drew) | with_reducible (apply Keep.alloc)))).mono ?_
          generalize hPL : pickT Tk.ready S.T S.T.length = L
          rintro e w2 ⟨A3, c3, rfl, hr3, hk3, hf3⟩
          have R3 := Lib.hid hr3
          have hkk := (Keep.then (by repeat (first | with_reducible (exact Keep.same _ _) | with_reducible (apply Keep.drew) | with_reducible (apply Keep.alloc))) hk3 : Keep Nothing wr w2)
          have H3 := Lib.hid (HE.out.kept (schE_stable.star none_stable) hkk)
          have hLl : L.length ≤ 1000000 := by have := pickT_len Tk.ready S.T S.T.length; have := GS.out.len; rw [← hPL]; omega
          have PL := Lib.hid hPL
          clear hk3 hr3 hf3 hkk hPL
          rcases Nat.eq_zero_or_pos L.length with h0 | h0
          · have NR := Lib.hid (show ∀ t ∈ S.T, t.ready = false by
              rcases round_case picks k S with ⟨_, h⟩ | ⟨i, t, x, ht, hr, hx, he⟩
              · exact h
              · rw [round_none (by rw [PL.out]; exact h0)] at he
                cases he)
            have EE := Lib.hid (wt_end 8 S d WI.out NR.out)
            have ED := Lib.hid (fun w' (hk' : Keep Nothing w2 w') => e_ended (H3.out.kept (schE_stable.star none_stable) hk') GS.out.len)
            have hz : ((L.length : Int) == 0) = true := by rw [beq_iff_eq]; omega
            go_wp2_with fail
            refine (ED.out _ (by repeat (first | with_reducible (exact Keep.same _ _) | with_reducible (apply Keep.drew) | with_reducible (apply Keep.alloc)))).mono ?_
            rintro e w5 ⟨rfl, hk5⟩
            rw [EE.out]
            have K5 := Lib.hid (Keep.then (by repeat (first | with_reducible (exact Keep.same _ _) | with_reducible (apply Keep.drew) | with_reducible (apply Keep.alloc))) hk5 : Keep Nothing w2 w5)
            clear hk5
            go_wp2_with fail
            refine (awake54 _).mono ?_
            rintro e w6 ⟨rfl, hk6⟩
            have K6 := Lib.hid ((Keep.of_below H3.out.below Nothing).then (K5.out.then (Keep.then (by repeat (first | with_reducible (exact Keep.same _ _) | with_reducible (apply Keep.drew) | with_reducible (apply Keep.alloc))) hk6)))
            clear hk6
            go_wp2_with fail
            go_ret
            exact ⟨rfl, K6.out⟩
          · have hz : ((L.length : Int) == 0) = false := by rw [beq_eq_false_iff_ne]; omega
            by_cases hkn : k < np
            · obtain ⟨pk, hpk⟩ : ∃ pk, picks[k]? = some pk := ⟨_, List.getElem?_eq_getElem (by rw [hpl]; exact hkn)⟩
              obtain ⟨i, t, x, hq0, hq1, hLq, ht, hrd, hx, hrx⟩ := round_some (picks := picks) (n := k) (S := S) rfl (by rw [PL.out]; exact h0)
              rw [PL.out] at hq0 hq1 hLq
              have hpi : pickI picks k L.length = (pk.tmod (L.length : Int) + L.length).tmod L.length := by unfold pickI; rw [hpk]
              obtain ⟨q, hq⟩ : ∃ q : Nat, pickI picks k L.length = (q : Int) := ⟨_, (Int.toNat_of_nonneg hq0).symm⟩
              rw [hq] at hq1 hLq hpi
              simp only [Int.toNat_natCast] at hq1 hLq
              have hw : wrap64 (pk.tmod (L.length : Int) + L.length) = pk.tmod (L.length : Int) + L.length := by
                have h1 := Int.lt_tmod_of_pos pk (show (0 : Int) < L.length by omega)
                have h2 := Int.tmod_lt_of_pos pk (show (0 : Int) < L.length by omega)
                exact wrap64_in (by omega) (by omega)
              have hw2 : (wrap64 (pk.tmod (L.length : Int) + L.length)).tmod (L.length : Int) = (q : Int) := by rw [hw, hpi]
              obtain ⟨adp, rfl, hcp⟩ := HP.out.2 (by omega)
              have KB := Lib.hid (Keep.of_below H3.out.below Nothing)
              have cp := KB.out.cell (hcp k (.int .i64 pk) (by unfold ints; rw [List.getElem?_map, hpk]; rfl)) (fun h => h)
              clear hcp hq0 hpk hpi hw hq
              obtain ⟨adl, rfl, hcl⟩ := R3.out.src.2 (by omega)
              have cl := hcl q (.int .i64 (i : Int)) (by unfold ints; rw [List.getElem?_map, hLq]; rfl)
              clear hcl
              have ST := Lib.hid (fun w' (hk' : Keep Nothing w2 w') => show Calls Try.prog 62 #[.pointer (some ⟨b, 0, none⟩), .int .i64 (i : Int)] w' (fun e w' => e = .returned (.tuple #[.agg #[.int .i64 (i : Int), .int .i64 (t.at_ : Int), .int .i64 (stepX S i t x).1], .int .i64 0]) ∧ Holds w.heap.size w w' (star (schE b bm (stepX S i t x).2) none_)) from e_step (H3.out.kept (schE_stable.star none_stable) hk') none_stable GS.out (by omega) i t ht hrd x hx)
              have GS' := Lib.hid (GS.out.step (x := x) ht hrd)
              obtain ⟨w1, w2', w3⟩ := wt_step 8 (by omega) (by omega) S d WI.out i t x ht hrd hx
              have MU' := Lib.hid (mu_step (x := x) ht hrd)
              have WR := Lib.hid w1
              have WI' := Lib.hid w3
              have W2 := Lib.hid w2'
              clear ht hrd hx hrx hLq w1 w2' w3
              generalize hS' : (stepX S i t x).2 = S' at *
              generalize her : (stepX S i t x).1 = er at *
              have er0 := WR.out
              subst er0
              have dn := WI.out
              obtain ⟨I, hI⟩ : ∃ I : Int, I = (i : Int) := ⟨_, rfl⟩
              obtain ⟨a, ha⟩ : ∃ a : Int, a = (t.at_ : Int) := ⟨_, rfl⟩
              rw [← hI] at cl ST
              rw [← ha] at ST
              have HI := Lib.hid hI
              have HA := Lib.hid ha
              have dle : d ≤ 8 := by obtain ⟨t0, R, L', e, hR, hu, hd, _⟩ := dn; rw [hd, ← hR]; exact dones_le R
              have DLE := Lib.hid dle
              clear hS' her hI ha dn dle
              have hwd : wrap64 (D + 1) = D + 1 := wrap64_in (by have := HDD.out; omega) (by have := HDD.out; have := DLE.out; omega)
              have hwd2 : IntKind.i64.wrap (D + 1) = D + 1 := by rw [IntKind.wrap_i64]; have := HDD.out; have := DLE.out; omega
              rcases (show i = 0 ∨ 0 < i by omega) with hi | hi
              · have d1 : (I == 0) = true := by have := HI.out; simp; omega
                have d2 : decide (0 < I) = false := decide_eq_false (by have := HI.out; omega)
                rcases Decidable.em (t.at_ = 2) with h2 | h2
                · have d3 : (a == 2) = true := by have := HA.out; simp; omega
                  have d4 : decide (D < 8) = false := decide_eq_false (by have := HDD.out; have := W2.out hi h2; omega)
                  have HN2 := Lib.hid (show ¬ (0 < i ∧ t.at_ = 1) by omega)
                  clear hi h2
                  go_wp2_with fail
                  refine (ST.out _ (by repeat (first | with_reducible (exact Keep.same _ _) | with_reducible (apply Keep.drew) | with_reducible (apply Keep.alloc)))).mono ?_
                  rintro e w4 ⟨rfl, hh4⟩
                  have H4 := Lib.hid (hh4.alloc (schE_stable.star none_stable) (.cells #[.int .i64 I, .int .i64 a, .int .i64 0] 103))
                  have B4 := Blk.fresh w4 103 #[.int .i64 I, .int .i64 a, .int .i64 0]
                  have f0 := B4.cell 0
                  have f1 := B4.cell 1
                  have f2 := B4.cell 2
                  clear hh4 B4
                  go_wp2_with fail
                  go_roundw
                  case rel =>
                    have w3 := WI'.out
                    rw [if_neg HN2.out] at w3
                    exact ⟨k + 1, d, D, S', by have := MU.out; have := MU'.out; omega, by go_num, rfl, by have := HDD.out; omega, w3, by have := MU.out; have := MU'.out; omega, GS'.out, H4.out.kept (schE_stable.star none_stable) (by repeat (first | with_reducible (exact Keep.same _ _) | with_reducible (apply Keep.drew) | with_reducible (apply Keep.alloc)))⟩
                  case measure => simp [intOf]; omega
                · have d3 : (a == 2) = false := by have := HA.out; simp; omega
                  have HN2 := Lib.hid (show ¬ (0 < i ∧ t.at_ = 1) by omega)
                  clear hi h2
                  go_wp2_with fail
                  refine (ST.out _ (by repeat (first | with_reducible (exact Keep.same _ _) | with_reducible (apply Keep.drew) | with_reducible (apply Keep.alloc)))).mono ?_
                  rintro e w4 ⟨rfl, hh4⟩
                  have H4 := Lib.hid (hh4.alloc (schE_stable.star none_stable) (.cells #[.int .i64 I, .int .i64 a, .int .i64 0] 103))
                  have B4 := Blk.fresh w4 103 #[.int .i64 I, .int .i64 a, .int .i64 0]
                  have f0 := B4.cell 0
                  have f1 := B4.cell 1
                  have f2 := B4.cell 2
                  clear hh4 B4
                  go_wp2_with fail
                  go_roundw
                  case rel =>
                    have w3 := WI'.out
                    rw [if_neg HN2.out] at w3
                    exact ⟨k + 1, d, D, S', by have := MU.out; have := MU'.out; omega, by go_num, rfl, by have := HDD.out; omega, w3, by have := MU.out; have := MU'.out; omega, GS'.out, H4.out.kept (schE_stable.star none_stable) (by repeat (first | with_reducible (exact Keep.same _ _) | with_reducible (apply Keep.drew) | with_reducible (apply Keep.alloc)))⟩
                  case measure => simp [intOf]; omega
              · have d1 : (I == 0) = false := by have := HI.out; simp; omega
                have d2 : decide (0 < I) = true := decide_eq_true (by have := HI.out; omega)
                rcases Decidable.em (t.at_ = 1) with h2 | h2
                · have d3 : (a == 1) = true := by have := HA.out; simp; omega
                  have HN2 := Lib.hid (show 0 < i ∧ t.at_ = 1 from ⟨hi, h2⟩)
                  clear hi h2
                  go_wp2_with fail
                  refine (ST.out _ (by repeat (first | with_reducible (exact Keep.same _ _) | with_reducible (apply Keep.drew) | with_reducible (apply Keep.alloc)))).mono ?_
                  rintro e w4 ⟨rfl, hh4⟩
                  have H4 := Lib.hid (hh4.alloc (schE_stable.star none_stable) (.cells #[.int .i64 I, .int .i64 a, .int .i64 0] 103))
                  have B4 := Blk.fresh w4 103 #[.int .i64 I, .int .i64 a, .int .i64 0]
                  have f0 := B4.cell 0
                  have f1 := B4.cell 1
                  have f2 := B4.cell 2
                  clear hh4 B4
                  go_wp2_with fail
                  go_roundw
                  case rel =>
                    have w3 := WI'.out
                    rw [if_pos HN2.out] at w3
                    exact ⟨k + 1, d + 1, D + 1, S', by have := MU.out; have := MU'.out; omega, by go_num, rfl, by have := HDD.out; omega, w3, by have := MU.out; have := MU'.out; omega, GS'.out, H4.out.kept (schE_stable.star none_stable) (by repeat (first | with_reducible (exact Keep.same _ _) | with_reducible (apply Keep.drew) | with_reducible (apply Keep.alloc)))⟩
                  case measure => simp [intOf]; omega
                · have d3 : (a == 1) = false := by have := HA.out; simp; omega
                  have HN2 := Lib.hid (show ¬ (0 < i ∧ t.at_ = 1) by omega)
                  clear hi h2
                  go_wp2_with fail
                  refine (ST.out _ (by repeat (first | with_reducible (exact Keep.same _ _) | with_reducible (apply Keep.drew) | with_reducible (apply Keep.alloc)))).mono ?_
                  rintro e w4 ⟨rfl, hh4⟩
                  have H4 := Lib.hid (hh4.alloc (schE_stable.star none_stable) (.cells #[.int .i64 I, .int .i64 a, .int .i64 0] 103))
                  have B4 := Blk.fresh w4 103 #[.int .i64 I, .int .i64 a, .int .i64 0]
                  have f0 := B4.cell 0
                  have f1 := B4.cell 1
                  have f2 := B4.cell 2
                  clear hh4 B4
                  go_wp2_with fail
                  go_roundw
                  case rel =>
                    have w3 := WI'.out
                    rw [if_neg HN2.out] at w3
                    exact ⟨k + 1, d, D, S', by have := MU.out; have := MU'.out; omega, by go_num, rfl, by have := HDD.out; omega, w3, by have := MU.out; have := MU'.out; omega, GS'.out, H4.out.kept (schE_stable.star none_stable) (by repeat (first | with_reducible (exact Keep.same _ _) | with_reducible (apply Keep.drew) | with_reducible (apply Keep.alloc)))⟩
                  case measure => simp [intOf]; omega
            · obtain ⟨i, t, x, hq0, hq1, hLq, ht, hrd, hx, hrx⟩ := round_some (picks := picks) (n := k) (S := S) rfl (by rw [PL.out]; exact h0)
              rw [PL.out] at hq0 hq1 hLq
              obtain ⟨q, hqz, hq⟩ : ∃ q : Nat, q = 0 ∧ pickI picks k L.length = (q : Int) := ⟨0, rfl, by unfold pickI; rw [List.getElem?_eq_none (by omega)]; rfl⟩
              rw [hq] at hq1 hLq
              simp only [Int.toNat_natCast] at hq1 hLq
              subst hqz
              clear hq0 hq
              obtain ⟨adl, rfl, hcl⟩ := R3.out.src.2 (by omega)
              have cl := hcl 0 (.int .i64 (i : Int)) (by unfold ints; rw [List.getElem?_map, hLq]; rfl)
              clear hcl
              rw [show adl.add 0 = adl from rfl] at cl
              have ST := Lib.hid (fun w' (hk' : Keep Nothing w2 w') => show Calls Try.prog 62 #[.pointer (some ⟨b, 0, none⟩), .int .i64 (i : Int)] w' (fun e w' => e = .returned (.tuple #[.agg #[.int .i64 (i : Int), .int .i64 (t.at_ : Int), .int .i64 (stepX S i t x).1], .int .i64 0]) ∧ Holds w.heap.size w w' (star (schE b bm (stepX S i t x).2) none_)) from e_step (H3.out.kept (schE_stable.star none_stable) hk') none_stable GS.out (by omega) i t ht hrd x hx)
              have GS' := Lib.hid (GS.out.step (x := x) ht hrd)
              obtain ⟨w1, w2', w3⟩ := wt_step 8 (by omega) (by omega) S d WI.out i t x ht hrd hx
              have MU' := Lib.hid (mu_step (x := x) ht hrd)
              have WR := Lib.hid w1
              have WI' := Lib.hid w3
              have W2 := Lib.hid w2'
              clear ht hrd hx hrx hLq w1 w2' w3
              generalize hS' : (stepX S i t x).2 = S' at *
              generalize her : (stepX S i t x).1 = er at *
              have er0 := WR.out
              subst er0
              have dn := WI.out
              obtain ⟨I, hI⟩ : ∃ I : Int, I = (i : Int) := ⟨_, rfl⟩
              obtain ⟨a, ha⟩ : ∃ a : Int, a = (t.at_ : Int) := ⟨_, rfl⟩
              rw [← hI] at cl ST
              rw [← ha] at ST
              have HI := Lib.hid hI
              have HA := Lib.hid ha
              have dle : d ≤ 8 := by obtain ⟨t0, R, L', e, hR, hu, hd, _⟩ := dn; rw [hd, ← hR]; exact dones_le R
              have DLE := Lib.hid dle
              clear hS' her hI ha dn dle
              have hwd : wrap64 (D + 1) = D + 1 := wrap64_in (by have := HDD.out; omega) (by have := HDD.out; have := DLE.out; omega)
              have hwd2 : IntKind.i64.wrap (D + 1) = D + 1 := by rw [IntKind.wrap_i64]; have := HDD.out; have := DLE.out; omega
              rcases (show i = 0 ∨ 0 < i by omega) with hi | hi
              · have d1 : (I == 0) = true := by have := HI.out; simp; omega
                have d2 : decide (0 < I) = false := decide_eq_false (by have := HI.out; omega)
                rcases Decidable.em (t.at_ = 2) with h2 | h2
                · have d3 : (a == 2) = true := by have := HA.out; simp; omega
                  have d4 : decide (D < 8) = false := decide_eq_false (by have := HDD.out; have := W2.out hi h2; omega)
                  have HN2 := Lib.hid (show ¬ (0 < i ∧ t.at_ = 1) by omega)
                  clear hi h2
                  go_wp2_with fail
                  refine (ST.out _ (by repeat (first | with_reducible (exact Keep.same _ _) | with_reducible (apply Keep.drew) | with_reducible (apply Keep.alloc)))).mono ?_
                  rintro e w4 ⟨rfl, hh4⟩
                  have H4 := Lib.hid (hh4.alloc (schE_stable.star none_stable) (.cells #[.int .i64 I, .int .i64 a, .int .i64 0] 103))
                  have B4 := Blk.fresh w4 103 #[.int .i64 I, .int .i64 a, .int .i64 0]
                  have f0 := B4.cell 0
                  have f1 := B4.cell 1
                  have f2 := B4.cell 2
                  clear hh4 B4
                  go_wp2_with fail
                  go_roundw
                  case rel =>
                    have w3 := WI'.out
                    rw [if_neg HN2.out] at w3
                    exact ⟨k + 1, d, D, S', by have := MU.out; have := MU'.out; omega, by go_num, rfl, by have := HDD.out; omega, w3, by have := MU.out; have := MU'.out; omega, GS'.out, H4.out.kept (schE_stable.star none_stable) (by repeat (first | with_reducible (exact Keep.same _ _) | with_reducible (apply Keep.drew) | with_reducible (apply Keep.alloc)))⟩
                  case measure => simp [intOf]; omega
                · have d3 : (a == 2) = false := by have := HA.out; simp; omega
                  have HN2 := Lib.hid (show ¬ (0 < i ∧ t.at_ = 1) by omega)
                  clear hi h2
                  go_wp2_with fail
                  refine (ST.out _ (by repeat (first | with_reducible (exact Keep.same _ _) | with_reducible (apply Keep.drew) | with_reducible (apply Keep.alloc)))).mono ?_
                  rintro e w4 ⟨rfl, hh4⟩
                  have H4 := Lib.hid (hh4.alloc (schE_stable.star none_stable) (.cells #[.int .i64 I, .int .i64 a, .int .i64 0] 103))
                  have B4 := Blk.fresh w4 103 #[.int .i64 I, .int .i64 a, .int .i64 0]
                  have f0 := B4.cell 0
                  have f1 := B4.cell 1
                  have f2 := B4.cell 2
                  clear hh4 B4
                  go_wp2_with fail
                  go_roundw
                  case rel =>
                    have w3 := WI'.out
                    rw [if_neg HN2.out] at w3
                    exact ⟨k + 1, d, D, S', by have := MU.out; have := MU'.out; omega, by go_num, rfl, by have := HDD.out; omega, w3, by have := MU.out; have := MU'.out; omega, GS'.out, H4.out.kept (schE_stable.star none_stable) (by repeat (first | with_reducible (exact Keep.same _ _) | with_reducible (apply Keep.drew) | with_reducible (apply Keep.alloc)))⟩
                  case measure => simp [intOf]; omega
              · have d1 : (I == 0) = false := by have := HI.out; simp; omega
                have d2 : decide (0 < I) = true := decide_eq_true (by have := HI.out; omega)
                rcases Decidable.em (t.at_ = 1) with h2 | h2
                · have d3 : (a == 1) = true := by have := HA.out; simp; omega
                  have HN2 := Lib.hid (show 0 < i ∧ t.at_ = 1 from ⟨hi, h2⟩)
                  clear hi h2
                  go_wp2_with fail
                  refine (ST.out _ (by repeat (first | with_reducible (exact Keep.same _ _) | with_reducible (apply Keep.drew) | with_reducible (apply Keep.alloc)))).mono ?_
                  rintro e w4 ⟨rfl, hh4⟩
                  have H4 := Lib.hid (hh4.alloc (schE_stable.star none_stable) (.cells #[.int .i64 I, .int .i64 a, .int .i64 0] 103))
                  have B4 := Blk.fresh w4 103 #[.int .i64 I, .int .i64 a, .int .i64 0]
                  have f0 := B4.cell 0
                  have f1 := B4.cell 1
                  have f2 := B4.cell 2
                  clear hh4 B4
                  go_wp2_with fail
                  go_roundw
                  case rel =>
                    have w3 := WI'.out
                    rw [if_pos HN2.out] at w3
                    exact ⟨k + 1, d + 1, D + 1, S', by have := MU.out; have := MU'.out; omega, by go_num, rfl, by have := HDD.out; omega, w3, by have := MU.out; have := MU'.out; omega, GS'.out, H4.out.kept (schE_stable.star none_stable) (by repeat (first | with_reducible (exact Keep.same _ _) | with_reducible (apply Keep.drew) | with_reducible (apply Keep.alloc)))⟩
                  case measure => simp [intOf]; omega
                · have d3 : (a == 1) = false := by have := HA.out; simp; omega
                  have HN2 := Lib.hid (show ¬ (0 < i ∧ t.at_ = 1) by omega)
                  clear hi h2
                  go_wp2_with fail
                  refine (ST.out _ (by repeat (first | with_reducible (exact Keep.same _ _) | with_reducible (apply Keep.drew) | with_reducible (apply Keep.alloc)))).mono ?_
                  rintro e w4 ⟨rfl, hh4⟩
                  have H4 := Lib.hid (hh4.alloc (schE_stable.star none_stable) (.cells #[.int .i64 I, .int .i64 a, .int .i64 0] 103))
                  have B4 := Blk.fresh w4 103 #[.int .i64 I, .int .i64 a, .int .i64 0]
                  have f0 := B4.cell 0
                  have f1 := B4.cell 1
                  have f2 := B4.cell 2
                  clear hh4 B4
                  go_wp2_with fail
                  go_roundw
                  case rel =>
                    have w3 := WI'.out
                    rw [if_neg HN2.out] at w3
                    exact ⟨k + 1, d, D, S', by have := MU.out; have := MU'.out; omega, by go_num, rfl, by have := HDD.out; omega, w3, by have := MU.out; have := MU'.out; omega, GS'.out, H4.out.kept (schE_stable.star none_stable) (by repeat (first | with_reducible (exact Keep.same _ _) | with_reducible (apply Keep.drew) | with_reducible (apply Keep.alloc)))⟩
                  case measure => simp [intOf]; omega
end Go.Proofs.Ytmohpjkbhpgidaa.A
