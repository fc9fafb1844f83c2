/-
  SchedExclusive: its walk. Printed by gen_zb.py.
-/
import Derived.Test.YtmohpjkbhpgidaaZH
namespace Go.Proofs.Ytmohpjkbhpgidaa.A
open Go.ChangeShapes Go.WideShapes Go.ChangeAt Go.RowKit Go.Joins Go.Proofs.Ytmohpjkbhpgidaa.U
set_option linter.unusedVariables false
set_option linter.unusedSimpArgs false
set_option maxRecDepth 100000
set_option maxHeartbeats 1600000

theorem excl14 (w : World) (Ay Ap : Option Addr) (ny cy np cp : Nat) (ys picks : List Int) (hy : U.Src w Ay 1 ny (ints ys)) (hp : U.Src w Ap 1 np (ints picks)) (hny : ny ≤ 9223372036854775807) :
    Calls Try.prog 14 #[.slice Ay ny cy, .slice Ap np cp] w (fun e w' => e = .returned (.bool true) ∧ Keep Nothing w w') := by
  have HP := Lib.hid hp
  have HYS := Lib.hid hy
  have hyl : ys.length = ny := by have := hy.1; rw [ints, List.length_map] at this; omega
  have hu := Try.underlying97
  have hu2 := Try.underlying103
  have HS := Lib.hid (tks_none w)
  clear hp hy
  go_enter Try.func14, Try.ntmps14
  go_wp2_with fail
  go_loopw [5, 6] (fun tv iv wr => ∃ (k : Nat) (Z : List (Value × List Op3)) (A : Option Addr) (c : Nat), k ≤ ny ∧ k ≤ 8 ∧ iv = .int .i64 k ∧ tv = .slice A Z.length c ∧ Z.length = k ∧ Z.map (·.2) = ((ys.take k).map clampN).map exO ∧ Holds w.heap.size w wr (star (tksP (.slice A Z.length c) Z) none_)) (fun _ iv _ => 8 - (intOf iv).toNat)
  case atStart => exact ⟨0, [], none, 0, by omega, by omega, by simp, by simp, rfl, rfl, HS.out⟩
  case round =>
    obtain ⟨k, Z, A, c, hk1, hk, rfl, rfl, hZ, hZm, hh⟩ := hrel
    have HH := Lib.hid hh
    have HZ := Lib.hid hZ
    have HM := Lib.hid hZm
    have HK := Lib.hid hk
    clear hh hZ hZm
    by_cases hlt : k < ny ∧ k < 8
    · have HLT := Lib.hid (show k + 1 ≤ ny ∧ k + 1 ≤ 8 by omega)
      obtain ⟨hl1, hl2⟩ := hlt
      obtain ⟨y, hyk⟩ : ∃ y, ys[k]? = some y := ⟨_, List.getElem?_eq_getElem (by omega)⟩
      have HY := Lib.hid hyk
      obtain ⟨ady, rfl, hcy⟩ := HYS.out.2 (by omega)
      have CY := Lib.hid (hcy k (.int .i64 y) (by unfold ints; rw [List.getElem?_map, hyk]; rfl))
      clear hcy hyk hk hk1
      rcases (show 5 < y ∨ (0 < y ∧ ¬ 5 < y) ∨ (¬ 0 < y ∧ ¬ 5 < y) by omega) with h5 | ⟨h5, h6⟩ | ⟨h5, h6⟩
      · have KB := Lib.hid (show (5 : Nat) ≤ 5 by omega)
        have CL := Lib.hid (show clampN y = 5 by unfold clampN; rw [if_pos h5])
        go_wp2_with fail
        refine (lock_eq _).mono ?_
        rintro e wl ⟨rfl, hkl⟩
        have HL := Lib.hid (HH.out.kept ((tksP_stable _ _).star none_stable) (Keep.then (by repeat (first | with_reducible (exact Keep.same _ _) | with_reducible (apply Keep.drew) | with_reducible (apply Keep.alloc))) hkl))
        have H1 := Lib.hid (HL.out.newRow ((tksP_stable _ _).star none_stable) (Row.fresh wl 97 3 1 #[.int .i64 1, .int .i64 1, .int .i64 0] rfl (by decide)) ((Keep.same _ _).alloc _) (fun k hk => by simp [Value.ownBlock] at hk; omega))
        clear hkl
        go_wp2_with fail
        go_loopw [7, 8] (fun lv jv wr => ∃ (j : Nat) (Al : Option Addr) (cl : Nat), j ≤ 5 ∧ jv = .int .i64 j ∧ lv = .slice Al (j + 1) cl ∧ Holds w.heap.size w wr (star (rowP 97 3 (.slice Al (j + 1) cl) (j + 1) (opsV (exL j))) (star (tksP (.slice A Z.length c) Z) none_))) (fun _ jv _ => 5 - (intOf jv).toNat)
        case atStart => exact ⟨0, _, _, by omega, by simp, rfl, H1.out⟩
        case round =>
          obtain ⟨j, Al, cl, hj, rfl, rfl, hhj⟩ := hrel
          have HJ := Lib.hid hhj
          have KJ := Lib.hid (Keep.of_below hhj.below Nothing)
          have cy := KJ.out.cell CY.out (fun h => h)
          have SJ := Lib.hid (show Stable (star (tksP (.slice A Z.length c) Z) none_) from (tksP_stable _ _).star none_stable)
          clear hhj
          by_cases hjl : j < 5
          · have HJL := Lib.hid (show j + 1 ≤ 5 by omega)
            skip
            have H2 := Lib.hid (HJ.out.alloc ((rowP_stable _ _ _ _ _).star SJ.out) (.cells #[.int .i64 9, .int .i64 0, .int .i64 0] 97))
            have SRC := Lib.hid (U.Src.fresh wr #[.int .i64 9, .int .i64 0, .int .i64 0] 97 3 1 rfl)
            clear hj
            go_wp2_with (at_builtin; refine wpList_app _ rfl EO (.tmp 38) (.tmp 40) rfl H2.out.row SRC.out 1 rfl rfl (by simp [Value.oneCell']) (by have := HJL.out; unfold maxLen; omega) (by have := HJL.out; omega) ?_)
            intro v5 w5 hr5 hg5 hl5
            obtain ⟨A5, c5, rfl, _, _⟩ := hr5.form
            have h5 := H2.out.grew SJ.out hr5 hg5 (by rw [size_alloc] at *; exact hl5)
            rw [exL_next] at h5
            have H5 := Lib.hid h5
            clear hr5 hg5 hl5 h5
            go_wp2_with fail
            go_roundw
            case rel => exact ⟨j + 1, A5, c5, HJL.out, by go_num, rfl, H5.out⟩
            case measure => have := HJL.out; simp [intOf]; omega
          · obtain rfl : j = 5 := by omega
            clear hj
            go_wp2_with fail
            refine (unlock_eq _).mono ?_
            rintro e wu ⟨rfl, hku⟩
            have HU := Lib.hid (HJ.out.kept ((rowP_stable _ _ _ _ _).star SJ.out) (Keep.then (by repeat (first | with_reducible (exact Keep.same _ _) | with_reducible (apply Keep.drew) | with_reducible (apply Keep.alloc))) hku))
            have H3 := Lib.hid (HU.out.alloc ((rowP_stable _ _ _ _ _).star SJ.out) (.cells #[.int .i64 2, .int .i64 1, .int .i64 0] 97))
            have SRC := Lib.hid (U.Src.fresh wu #[.int .i64 2, .int .i64 1, .int .i64 0] 97 3 1 rfl)
            clear hku
            go_wp2_with (at_builtin; refine wpList_app _ rfl EO (.tmp 43) (.tmp 45) rfl H3.out.row SRC.out 1 rfl rfl (by simp [Value.oneCell']) (by have := KB.out; unfold maxLen; omega) (by have := KB.out; omega) ?_)
            intro v6 w6 hr6 hg6 hl6
            obtain ⟨A6, c6, rfl, _, _⟩ := hr6.form
            have h6 := H3.out.grew SJ.out hr6 hg6 (by rw [size_alloc] at *; exact hl6)
            rw [exL_end] at h6
            have h7 := h6.alloc ((rowP_stable _ _ _ _ _).star SJ.out) (.cells #[.slice A6 (5 + 1 + 1) c6] 99)
            have H7 := Lib.hid (show Holds w.heap.size w (w6.alloc (.cells #[.slice A6 (5 + 1 + 1) c6] 99)) (star (orows (.slice A Z.length c) Z) (star (rowP 97 3 (.slice A6 (5 + 1 + 1) c6) (5 + 1 + 1) (opsV (exO 5))) (star (innP Z) none_))) from h7.perm (by unfold tksP; ac_rfl))
            have S7 := Lib.hid (show Stable (star (rowP 97 3 (.slice A6 (5 + 1 + 1) c6) (5 + 1 + 1) (opsV (exO 5))) (star (innP Z) none_)) from (rowP_stable _ _ _ _ _).star ((innP_stable Z).star none_stable))
            have SR7 := Lib.hid (U.Src.one w6 (.slice A6 (5 + 1 + 1) c6) 99)
            have hml : Z.length + 1 ≤ maxLen := by have := HZ.out; have := HK.out; unfold maxLen; omega
            have hb : (Z.length + 1) * 24 ≤ 140737488355328 := by have := HZ.out; have := HK.out; omega
            clear hr6 hg6 hl6 h6 h7
            go_wp2_with (at_builtin; refine wpList_app _ rfl E89 (.tmp 42) (.tmp 47) rfl H7.out.row SR7.out 1 rfl rfl (by simp [Value.oneCell']) hml hb ?_)
            intro v8 w8 hr8 hg8 hl8
            obtain ⟨A8, c8, rfl, _, _⟩ := hr8.form
            have h8 := H7.out.grew S7.out hr8 hg8 (by rw [size_alloc] at *; exact hl8)
            have H8 := Lib.hid (tks_push (L := exO 5) (Z := Z) (exO_len 5) rfl h8)
            clear hr8 hg8 hl8 h8
            go_wp2_with fail
            go_roundw
            case rel =>
              refine ⟨k + 1, Z ++ [(.slice A6 (5 + 1 + 1) c6, exO 5)], A8, c8, HLT.out.1, HLT.out.2, by go_num, by simp, by simp [HZ.out], ?_, ?_⟩
              · rw [List.map_append, HM.out, List.take_add_one, HY.out]
                simp [CL.out]
              · rw [List.length_append]; exact H8.out
            case measure => have := HLT.out; simp [intOf]; omega
      · obtain ⟨kk, rfl⟩ : ∃ kk : Nat, y = kk := ⟨y.toNat, by omega⟩
        have h7 : 0 < kk := by omega
        have h8 : ¬ 5 < kk := by omega
        have KB := Lib.hid (show kk ≤ 5 by omega)
        have CL := Lib.hid (show clampN (kk : Int) = kk by unfold clampN; rw [if_neg h6]; omega)
        clear h5 h6
        go_wp2_with fail
        refine (lock_eq _).mono ?_
        rintro e wl ⟨rfl, hkl⟩
        have HL := Lib.hid (HH.out.kept ((tksP_stable _ _).star none_stable) (Keep.then (by repeat (first | with_reducible (exact Keep.same _ _) | with_reducible (apply Keep.drew) | with_reducible (apply Keep.alloc))) hkl))
        have H1 := Lib.hid (HL.out.newRow ((tksP_stable _ _).star none_stable) (Row.fresh wl 97 3 1 #[.int .i64 1, .int .i64 1, .int .i64 0] rfl (by decide)) ((Keep.same _ _).alloc _) (fun k hk => by simp [Value.ownBlock] at hk; omega))
        clear hkl
        go_wp2_with fail
        go_loopw [7, 8] (fun lv jv wr => ∃ (j : Nat) (Al : Option Addr) (cl : Nat), j ≤ kk ∧ jv = .int .i64 j ∧ lv = .slice Al (j + 1) cl ∧ Holds w.heap.size w wr (star (rowP 97 3 (.slice Al (j + 1) cl) (j + 1) (opsV (exL j))) (star (tksP (.slice A Z.length c) Z) none_))) (fun _ jv _ => kk - (intOf jv).toNat)
        case atStart => exact ⟨0, _, _, by omega, by simp, rfl, H1.out⟩
        case round =>
          obtain ⟨j, Al, cl, hj, rfl, rfl, hhj⟩ := hrel
          have HJ := Lib.hid hhj
          have KJ := Lib.hid (Keep.of_below hhj.below Nothing)
          have cy := KJ.out.cell CY.out (fun h => h)
          have SJ := Lib.hid (show Stable (star (tksP (.slice A Z.length c) Z) none_) from (tksP_stable _ _).star none_stable)
          clear hhj
          by_cases hjl : j < kk
          · have HJL := Lib.hid (show j + 1 ≤ kk ∧ kk ≤ 5 by omega)
            skip
            have H2 := Lib.hid (HJ.out.alloc ((rowP_stable _ _ _ _ _).star SJ.out) (.cells #[.int .i64 9, .int .i64 0, .int .i64 0] 97))
            have SRC := Lib.hid (U.Src.fresh wr #[.int .i64 9, .int .i64 0, .int .i64 0] 97 3 1 rfl)
            clear hj
            go_wp2_with (at_builtin; refine wpList_app _ rfl EO (.tmp 38) (.tmp 40) rfl H2.out.row SRC.out 1 rfl rfl (by simp [Value.oneCell']) (by have := HJL.out; unfold maxLen; omega) (by have := HJL.out; omega) ?_)
            intro v5 w5 hr5 hg5 hl5
            obtain ⟨A5, c5, rfl, _, _⟩ := hr5.form
            have h5 := H2.out.grew SJ.out hr5 hg5 (by rw [size_alloc] at *; exact hl5)
            rw [exL_next] at h5
            have H5 := Lib.hid h5
            clear hr5 hg5 hl5 h5
            go_wp2_with fail
            go_roundw
            case rel => exact ⟨j + 1, A5, c5, HJL.out.1, by go_num, rfl, H5.out⟩
            case measure => have := HJL.out; simp [intOf]; omega
          · obtain rfl : kk = j := by omega
            clear hj
            go_wp2_with fail
            refine (unlock_eq _).mono ?_
            rintro e wu ⟨rfl, hku⟩
            have HU := Lib.hid (HJ.out.kept ((rowP_stable _ _ _ _ _).star SJ.out) (Keep.then (by repeat (first | with_reducible (exact Keep.same _ _) | with_reducible (apply Keep.drew) | with_reducible (apply Keep.alloc))) hku))
            have H3 := Lib.hid (HU.out.alloc ((rowP_stable _ _ _ _ _).star SJ.out) (.cells #[.int .i64 2, .int .i64 1, .int .i64 0] 97))
            have SRC := Lib.hid (U.Src.fresh wu #[.int .i64 2, .int .i64 1, .int .i64 0] 97 3 1 rfl)
            clear hku
            go_wp2_with (at_builtin; refine wpList_app _ rfl EO (.tmp 43) (.tmp 45) rfl H3.out.row SRC.out 1 rfl rfl (by simp [Value.oneCell']) (by have := KB.out; unfold maxLen; omega) (by have := KB.out; omega) ?_)
            intro v6 w6 hr6 hg6 hl6
            obtain ⟨A6, c6, rfl, _, _⟩ := hr6.form
            have h6 := H3.out.grew SJ.out hr6 hg6 (by rw [size_alloc] at *; exact hl6)
            rw [exL_end] at h6
            have h7 := h6.alloc ((rowP_stable _ _ _ _ _).star SJ.out) (.cells #[.slice A6 (kk + 1 + 1) c6] 99)
            have H7 := Lib.hid (show Holds w.heap.size w (w6.alloc (.cells #[.slice A6 (kk + 1 + 1) c6] 99)) (star (orows (.slice A Z.length c) Z) (star (rowP 97 3 (.slice A6 (kk + 1 + 1) c6) (kk + 1 + 1) (opsV (exO kk))) (star (innP Z) none_))) from h7.perm (by unfold tksP; ac_rfl))
            have S7 := Lib.hid (show Stable (star (rowP 97 3 (.slice A6 (kk + 1 + 1) c6) (kk + 1 + 1) (opsV (exO kk))) (star (innP Z) none_)) from (rowP_stable _ _ _ _ _).star ((innP_stable Z).star none_stable))
            have SR7 := Lib.hid (U.Src.one w6 (.slice A6 (kk + 1 + 1) c6) 99)
            have hml : Z.length + 1 ≤ maxLen := by have := HZ.out; have := HK.out; unfold maxLen; omega
            have hb : (Z.length + 1) * 24 ≤ 140737488355328 := by have := HZ.out; have := HK.out; omega
            clear hr6 hg6 hl6 h6 h7
            go_wp2_with (at_builtin; refine wpList_app _ rfl E89 (.tmp 42) (.tmp 47) rfl H7.out.row SR7.out 1 rfl rfl (by simp [Value.oneCell']) hml hb ?_)
            intro v8 w8 hr8 hg8 hl8
            obtain ⟨A8, c8, rfl, _, _⟩ := hr8.form
            have h8 := H7.out.grew S7.out hr8 hg8 (by rw [size_alloc] at *; exact hl8)
            have H8 := Lib.hid (tks_push (L := exO kk) (Z := Z) (exO_len kk) rfl h8)
            clear hr8 hg8 hl8 h8
            go_wp2_with fail
            go_roundw
            case rel =>
              refine ⟨k + 1, Z ++ [(.slice A6 (kk + 1 + 1) c6, exO kk)], A8, c8, HLT.out.1, HLT.out.2, by go_num, by simp, by simp [HZ.out], ?_, ?_⟩
              · rw [List.map_append, HM.out, List.take_add_one, HY.out]
                simp [CL.out]
              · rw [List.length_append]; exact H8.out
            case measure => have := HLT.out; simp [intOf]; omega
      · have KB := Lib.hid (show (0 : Nat) ≤ 5 by omega)
        have CL := Lib.hid (show clampN y = 0 by unfold clampN; rw [if_neg h6]; omega)
        go_wp2_with fail
        refine (lock_eq _).mono ?_
        rintro e wl ⟨rfl, hkl⟩
        have HL := Lib.hid (HH.out.kept ((tksP_stable _ _).star none_stable) (Keep.then (by repeat (first | with_reducible (exact Keep.same _ _) | with_reducible (apply Keep.drew) | with_reducible (apply Keep.alloc))) hkl))
        have H1 := Lib.hid (HL.out.newRow ((tksP_stable _ _).star none_stable) (Row.fresh wl 97 3 1 #[.int .i64 1, .int .i64 1, .int .i64 0] rfl (by decide)) ((Keep.same _ _).alloc _) (fun k hk => by simp [Value.ownBlock] at hk; omega))
        clear hkl
        go_wp2_with fail
        go_loopw [7, 8] (fun lv jv wr => ∃ (j : Nat) (Al : Option Addr) (cl : Nat), j ≤ 0 ∧ jv = .int .i64 j ∧ lv = .slice Al (j + 1) cl ∧ Holds w.heap.size w wr (star (rowP 97 3 (.slice Al (j + 1) cl) (j + 1) (opsV (exL j))) (star (tksP (.slice A Z.length c) Z) none_))) (fun _ jv _ => 0 - (intOf jv).toNat)
        case atStart => exact ⟨0, _, _, by omega, by simp, rfl, H1.out⟩
        case round =>
          obtain ⟨j, Al, cl, hj, rfl, rfl, hhj⟩ := hrel
          have HJ := Lib.hid hhj
          have KJ := Lib.hid (Keep.of_below hhj.below Nothing)
          have cy := KJ.out.cell CY.out (fun h => h)
          have SJ := Lib.hid (show Stable (star (tksP (.slice A Z.length c) Z) none_) from (tksP_stable _ _).star none_stable)
          clear hhj
          by_cases hjl : j < 0
          · exact absurd hjl (Nat.not_lt_zero _)
          · obtain rfl : j = 0 := by omega
            clear hj
            go_wp2_with fail
            refine (unlock_eq _).mono ?_
            rintro e wu ⟨rfl, hku⟩
            have HU := Lib.hid (HJ.out.kept ((rowP_stable _ _ _ _ _).star SJ.out) (Keep.then (by repeat (first | with_reducible (exact Keep.same _ _) | with_reducible (apply Keep.drew) | with_reducible (apply Keep.alloc))) hku))
            have H3 := Lib.hid (HU.out.alloc ((rowP_stable _ _ _ _ _).star SJ.out) (.cells #[.int .i64 2, .int .i64 1, .int .i64 0] 97))
            have SRC := Lib.hid (U.Src.fresh wu #[.int .i64 2, .int .i64 1, .int .i64 0] 97 3 1 rfl)
            clear hku
            go_wp2_with (at_builtin; refine wpList_app _ rfl EO (.tmp 43) (.tmp 45) rfl H3.out.row SRC.out 1 rfl rfl (by simp [Value.oneCell']) (by have := KB.out; unfold maxLen; omega) (by have := KB.out; omega) ?_)
            intro v6 w6 hr6 hg6 hl6
            obtain ⟨A6, c6, rfl, _, _⟩ := hr6.form
            have h6 := H3.out.grew SJ.out hr6 hg6 (by rw [size_alloc] at *; exact hl6)
            rw [exL_end] at h6
            have h7 := h6.alloc ((rowP_stable _ _ _ _ _).star SJ.out) (.cells #[.slice A6 (0 + 1 + 1) c6] 99)
            have H7 := Lib.hid (show Holds w.heap.size w (w6.alloc (.cells #[.slice A6 (0 + 1 + 1) c6] 99)) (star (orows (.slice A Z.length c) Z) (star (rowP 97 3 (.slice A6 (0 + 1 + 1) c6) (0 + 1 + 1) (opsV (exO 0))) (star (innP Z) none_))) from h7.perm (by unfold tksP; ac_rfl))
            have S7 := Lib.hid (show Stable (star (rowP 97 3 (.slice A6 (0 + 1 + 1) c6) (0 + 1 + 1) (opsV (exO 0))) (star (innP Z) none_)) from (rowP_stable _ _ _ _ _).star ((innP_stable Z).star none_stable))
            have SR7 := Lib.hid (U.Src.one w6 (.slice A6 (0 + 1 + 1) c6) 99)
            have hml : Z.length + 1 ≤ maxLen := by have := HZ.out; have := HK.out; unfold maxLen; omega
            have hb : (Z.length + 1) * 24 ≤ 140737488355328 := by have := HZ.out; have := HK.out; omega
            clear hr6 hg6 hl6 h6 h7
            go_wp2_with (at_builtin; refine wpList_app _ rfl E89 (.tmp 42) (.tmp 47) rfl H7.out.row SR7.out 1 rfl rfl (by simp [Value.oneCell']) hml hb ?_)
            intro v8 w8 hr8 hg8 hl8
            obtain ⟨A8, c8, rfl, _, _⟩ := hr8.form
            have h8 := H7.out.grew S7.out hr8 hg8 (by rw [size_alloc] at *; exact hl8)
            have H8 := Lib.hid (tks_push (L := exO 0) (Z := Z) (exO_len 0) rfl h8)
            clear hr8 hg8 hl8 h8
            go_wp2_with fail
            go_roundw
            case rel =>
              refine ⟨k + 1, Z ++ [(.slice A6 (0 + 1 + 1) c6, exO 0)], A8, c8, HLT.out.1, HLT.out.2, by go_num, by simp, by simp [HZ.out], ?_, ?_⟩
              · rw [List.map_append, HM.out, List.take_add_one, HY.out]
                simp [CL.out]
              · rw [List.length_append]; exact H8.out
            case measure => have := HLT.out; simp [intOf]; omega
    · rcases (show ¬ k < ny ∨ (k < ny ∧ k = 8) by omega) with hny2 | ⟨hny2, hk8⟩
      · clear hlt
        have KF := (show (ys.take k).map clampN = (ys.take 8).map clampN by
          congr 1
          by_cases h8 : k = 8
          · rw [h8]
          · rw [List.take_of_length_le (by omega), List.take_of_length_le (by omega)])
        have hZm := HM.out
        rw [KF] at hZm
        obtain ⟨K, hK⟩ : ∃ K, K = (ys.take 8).map clampN := ⟨_, rfl⟩
        rw [← hK] at hZm
        have K5 := Lib.hid (show ∀ q ∈ K, q ≤ 5 from fun q hq => by
          rw [hK] at hq
          obtain ⟨y, _, rfl⟩ := List.mem_map.1 hq
          exact clampN_le y)
        have K8 := Lib.hid (show K.length ≤ 8 by rw [hK, List.length_map, List.length_take]; omega)
        clear HM KF hK
        have HM := Lib.hid hZm
        have hpl : picks.length = np := by have := HP.out.1; rw [ints, List.length_map] at this; omega
        clear hZm hk hk1 hyl hny
        by_cases hbig : 1000 < np
        · go_wp2_with fail
          refine (awake54 _).mono ?_
          rintro e w6 ⟨rfl, hk6⟩
          have H6 := Lib.hid (HH.out.kept ((tksP_stable _ _).star none_stable) (Keep.then (by repeat (first | with_reducible (exact Keep.same _ _) | with_reducible (apply Keep.drew) | with_reducible (apply Keep.alloc))) hk6))
          clear hk6
          go_wp2_with fail
          go_ret
          exact ⟨rfl, Keep.of_below H6.out.below _⟩
        · obtain ⟨wq, hwq⟩ : ∃ wq, wq = wr := ⟨_, rfl⟩
          have AO := Lib.hid (tks_args HH.out (fun z hz => by
            have h1 : z.2 ∈ Z.map (·.2) := List.mem_map_of_mem hz
            rw [HM.out] at h1
            obtain ⟨q, hq, e⟩ := List.mem_map.1 h1
            have := K5.out q hq
            rw [← e, exO_len]; omega))
          have KWQ := Lib.hid (Keep.of_below HH.out.below Nothing)
          have G0 := Lib.hid (new_good (K.map exO) (fun l hl => by
            obtain ⟨q, hq, e⟩ := List.mem_map.1 hl
            have := K5.out q hq
            refine ⟨by rw [← e, exO_len]; omega, fun x hx => ?_⟩
            rw [← e] at hx
            unfold exO at hx
            rcases List.mem_cons.1 hx with rfl | hx
            · exact ⟨by decide, by decide⟩
            · rcases List.mem_append.1 hx with hx | hx
              · rw [List.eq_of_mem_replicate hx]; exact ⟨by decide, by decide⟩
              · rw [List.mem_singleton.1 hx]; exact ⟨by decide, by decide⟩) (by rw [List.length_map]; have := K8.out; omega))
          have NEW := Lib.hid (e_new wr A c (K.map exO) (by rw [← HM.out]; exact AO.out) (by rw [List.length_map]; have := K8.out; omega))
          rw [show (K.map exO).length = Z.length by rw [← HM.out, List.length_map]] at NEW
          have MU0 := Lib.hid (show mu (newS (K.map exO)).T ≤ 56 by have := ex_mu K K5.out; have := K8.out; omega)
          have W0 := Lib.hid (ex_first K)
          rw [← hwq] at AO KWQ NEW
          have HWQ := Lib.hid hwq
          clear hwq
          go_wp2_with fail
          rw [← HWQ.out]
          refine NEW.out.mono ?_
          rintro e wn ⟨b, bm, rfl, hh⟩
          have HS := Lib.hid hh
          generalize newS (K.map exO) = S1 at *
          clear hh
          go_wp2_with fail
          go_loopw [10, 11] (fun nv iv wr => ∃ (k : Nat) (inn : Int) (S : PS), k ≤ 60 ∧ iv = .int .i64 k ∧ nv = .int .i64 inn ∧ ExI K S inn ∧ mu S.T + k ≤ 56 ∧ GoodS S k ∧ Holds wq.heap.size wq wr (star (schE b bm S) none_)) (fun _ iv _ => 200 - (intOf iv).toNat)
          case atStart => exact ⟨0, -1, S1, by omega, by simp, rfl, W0.out, by have := MU0.out; omega, G0.out, HS.out⟩
          case round =>
            obtain ⟨k, inn, S, hk, rfl, rfl, hwi, hmu, hgS, hh⟩ := hrel
            have hD := trivial
            have HH := Lib.hid hh
            have GS := Lib.hid hgS
            have WI := Lib.hid hwi
            have MU := Lib.hid hmu
            have HDD := Lib.hid hD
            have HE := HH
            have RD := Lib.hid (fun w' (hk' : Keep Nothing wr w') => e_ready (hh.kept (schE_stable.star none_stable) hk') hgS.len)
            have hk200 : k < 200 := by omega
            clear hh hgS hwi hmu hD
            go_wp2_with fail
            refine (RD.out _ (by repeat (first | with_reducible (exact Keep.same _ _) | with_reducible (apply Keep.drew) | with_reducible (apply Keep.alloc)))).mono ?_
            generalize hPL : pickT Tk.ready S.T S.T.length = L
            rintro e w2 ⟨A3, c3, rfl, hr3, hk3, hf3⟩
            have R3 := Lib.hid hr3
            have hkk := (Keep.then (by repeat (first | with_reducible (exact Keep.same _ _) | with_reducible (apply Keep.drew) | with_reducible (apply Keep.alloc))) hk3 : Keep Nothing wr w2)
            have H3 := Lib.hid (HE.out.kept (schE_stable.star none_stable) hkk)
            have hLl : L.length ≤ 1000000 := by have := pickT_len Tk.ready S.T S.T.length; have := GS.out.len; rw [← hPL]; omega
            have PL := Lib.hid hPL
            clear hk3 hr3 hf3 hkk hPL
            rcases Nat.eq_zero_or_pos L.length with h0 | h0
            · have NR := Lib.hid (show ∀ t ∈ S.T, t.ready = false by
                rcases round_case picks k S with ⟨_, h⟩ | ⟨i, t, x, ht, hr, hx, he⟩
                · exact h
                · rw [round_none (by rw [PL.out]; exact h0)] at he
                  cases he)
              have EE := Lib.hid (ex_end K S inn WI.out NR.out)
              have ED := Lib.hid (fun w' (hk' : Keep Nothing w2 w') => e_ended (H3.out.kept (schE_stable.star none_stable) hk') GS.out.len)
              have hz : ((L.length : Int) == 0) = true := by rw [beq_iff_eq]; omega
              go_wp2_with fail
              refine (ED.out _ (by repeat (first | with_reducible (exact Keep.same _ _) | with_reducible (apply Keep.drew) | with_reducible (apply Keep.alloc)))).mono ?_
              rintro e w5 ⟨rfl, hk5⟩
              rw [EE.out]
              have K5 := Lib.hid (Keep.then (by repeat (first | with_reducible (exact Keep.same _ _) | with_reducible (apply Keep.drew) | with_reducible (apply Keep.alloc))) hk5 : Keep Nothing w2 w5)
              clear hk5
              go_wp2_with fail
              refine (awake54 _).mono ?_
              rintro e w6 ⟨rfl, hk6⟩
              have K6 := Lib.hid ((KWQ.out.then (Keep.of_below H3.out.below Nothing)).then (K5.out.then (Keep.then (by repeat (first | with_reducible (exact Keep.same _ _) | with_reducible (apply Keep.drew) | with_reducible (apply Keep.alloc))) hk6)))
              clear hk6
              go_wp2_with fail
              go_ret
              exact ⟨rfl, K6.out⟩
            · have hz : ((L.length : Int) == 0) = false := by rw [beq_eq_false_iff_ne]; omega
              by_cases hkn : k < np
              · obtain ⟨pk, hpk⟩ : ∃ pk, picks[k]? = some pk := ⟨_, List.getElem?_eq_getElem (by rw [hpl]; exact hkn)⟩
                obtain ⟨i, t, x, hq0, hq1, hLq, ht, hrd, hx, hrx⟩ := round_some (picks := picks) (n := k) (S := S) rfl (by rw [PL.out]; exact h0)
                rw [PL.out] at hq0 hq1 hLq
                have hpi : pickI picks k L.length = (pk.tmod (L.length : Int) + L.length).tmod L.length := by unfold pickI; rw [hpk]
                obtain ⟨q, hq⟩ : ∃ q : Nat, pickI picks k L.length = (q : Int) := ⟨_, (Int.toNat_of_nonneg hq0).symm⟩
                rw [hq] at hq1 hLq hpi
                simp only [Int.toNat_natCast] at hq1 hLq
                have hw : wrap64 (pk.tmod (L.length : Int) + L.length) = pk.tmod (L.length : Int) + L.length := by
                  have h1 := Int.lt_tmod_of_pos pk (show (0 : Int) < L.length by omega)
                  have h2 := Int.tmod_lt_of_pos pk (show (0 : Int) < L.length by omega)
                  exact wrap64_in (by omega) (by omega)
                have hw2 : (wrap64 (pk.tmod (L.length : Int) + L.length)).tmod (L.length : Int) = (q : Int) := by rw [hw, hpi]
                obtain ⟨adp, rfl, hcp⟩ := HP.out.2 (by omega)
                have KB := Lib.hid (KWQ.out.then (Keep.of_below H3.out.below Nothing))
                have cp := KB.out.cell (hcp k (.int .i64 pk) (by unfold ints; rw [List.getElem?_map, hpk]; rfl)) (fun h => h)
                clear hcp hq0 hpk hpi hw hq
                obtain ⟨adl, rfl, hcl⟩ := R3.out.src.2 (by omega)
                have cl := hcl q (.int .i64 (i : Int)) (by unfold ints; rw [List.getElem?_map, hLq]; rfl)
                clear hcl
                have ST := Lib.hid (fun w' (hk' : Keep Nothing w2 w') => show Calls Try.prog 62 #[.pointer (some ⟨b, 0, none⟩), .int .i64 (i : Int)] w' (fun e w' => e = .returned (.tuple #[.agg #[.int .i64 (i : Int), .int .i64 (t.at_ : Int), .int .i64 (stepX S i t x).1], .int .i64 0]) ∧ Holds wq.heap.size wq w' (star (schE b bm (stepX S i t x).2) none_)) from e_step (H3.out.kept (schE_stable.star none_stable) hk') none_stable GS.out (by omega) i t ht hrd x hx)
                have GS' := Lib.hid (GS.out.step (x := x) ht hrd)
                obtain ⟨w1, w2', w3⟩ := ex_step K S inn WI.out i t x ht hrd hx
                have MU' := Lib.hid (mu_step (x := x) ht hrd)
                have WR := Lib.hid w1
                have WI' := Lib.hid w3
                obtain ⟨kk, hkk, hto⟩ := ex_ops WI.out.1 ht
                obtain ⟨adt, Ak, ck, rfl, hct, _⟩ := AO.out i (exO kk) (by rw [HM.out, List.getElem?_map, hkk]; rfl)
                have hil : i < Z.length := by
                  have h1 := (List.getElem?_eq_some_iff.1 hkk).1
                  have h2 := congrArg List.length HM.out
                  rw [List.length_map, List.length_map] at h2
                  omega
                have hm : ∃ m : Nat, m = (exO kk).length := ⟨_, rfl⟩
                obtain ⟨m, hm⟩ := hm
                rw [← hm] at hct
                have HML := Lib.hid (show t.ops.length = m ∧ 2 ≤ m ∧ m ≤ 7 by
                  have h1 := exO_len kk
                  have h2 : kk ≤ 5 := K5.out kk (List.mem_of_getElem? hkk)
                  rw [hto, hm]; omega)
                have CT := Lib.hid hct
                obtain ⟨m1, hm1⟩ : ∃ m1 : Int, m1 = (m : Int) - 1 := ⟨_, rfl⟩
                have hwA : IntKind.i64.wrap ((m : Int) - 1) = m1 := by rw [IntKind.wrap_i64]; have := HML.out; omega
                have hwB : wrap64 ((m : Int) - 1) = m1 := by unfold wrap64; have := HML.out; omega
                have HM1 := Lib.hid hm1
                have W2 := Lib.hid w2'
                clear ht hrd hx hrx hLq w1 w2' w3 hkk hto hct hm hm1
                generalize hS' : (stepX S i t x).2 = S' at *
                generalize her : (stepX S i t x).1 = er at *
                have er0 := WR.out
                subst er0
                obtain ⟨a, ha⟩ : ∃ a : Int, a = (t.at_ : Int) := ⟨_, rfl⟩
                rw [← ha] at ST
                have HA := Lib.hid ha
                clear hS' her ha
                rcases (show (0 < t.at_ ∧ t.at_ < m - 1) ∨ (0 < t.at_ ∧ ¬ t.at_ < m - 1) ∨ t.at_ = 0 by omega) with ⟨q1, q2⟩ | ⟨q1, q2⟩ | q1
                · have d1 : decide (0 < a) = true := decide_eq_true (by have := HA.out; omega)
                  have d2 : decide (a < m1) = true := decide_eq_true (by have := HA.out; have := HM1.out; omega)
                  have HX := Lib.hid (show innX inn i t.at_ t.ops.length = i by unfold innX; rw [if_pos ⟨q1, by rw [HML.out.1]; exact q2⟩])
                  rcases (W2.out q1 (by rw [HML.out.1]; exact q2)) with d3 | d3
                  · have d4 : decide (0 ≤ inn) = false := decide_eq_false (by omega)
                    clear q1 q2 d3
                    go_wp2_with fail
                    refine (ST.out _ (by repeat (first | with_reducible (exact Keep.same _ _) | with_reducible (apply Keep.drew) | with_reducible (apply Keep.alloc)))).mono ?_
                    rintro e w4 ⟨rfl, hh4⟩
                    have H4 := Lib.hid (hh4.alloc (schE_stable.star none_stable) (.cells #[.int .i64 (i : Int), .int .i64 a, .int .i64 0] 103))
                    have B4 := Blk.fresh w4 103 #[.int .i64 (i : Int), .int .i64 a, .int .i64 0]
                    have f0 := B4.cell 0
                    have f1 := B4.cell 1
                    have f2 := B4.cell 2
                    have ct := (Keep.of_below H4.out.below Nothing).cell CT.out (fun h => h)
                    have hH : (fun w' => w'.cell? ⟨w4.heap.size, 0, none⟩ = some (.int .i64 (i : Int)) ∧ w'.cell? ⟨w4.heap.size, 1, none⟩ = some (.int .i64 a) ∧ w'.cell? (adt.add i) = some (.slice Ak m ck)) (w4.alloc (.cells #[.int .i64 (i : Int), .int .i64 a, .int .i64 0] 103)) := ⟨f0, f1, ct⟩
                    dsimp only at hH
                    clear hh4 B4
                    go_wp2_with fail
                    refine wp_region_noPanic ?_
                    refine wp_region_held_drew (S := (fun w' => w'.cell? ⟨w4.heap.size, 0, none⟩ = some (.int .i64 (i : Int)) ∧ w'.cell? ⟨w4.heap.size, 1, none⟩ = some (.int .i64 a) ∧ w'.cell? (adt.add i) = some (.slice Ak m ck))) (by kernel_rfl) hH (fun hHeld => ?_)
                    refine wpAnyH_take (i := 0) (oi := _) (v := ?_) (by simp only [List.getElem?_toArray, List.getElem?_cons_succ, List.getElem?_cons_zero]; rfl) (by kernel_rfl) (by kernel_rfl) (by kernel_rfl) (fun _ _ _ h => h) (Or.inl ⟨by rfl, ?_⟩) (by assumption) ?_
                    rotate_left
                    · (intro w hSw; (try dsimp only at hSw); go_simp; (try with_reducible rfl))
                    (try simp only [Act.put, List.setIfInBounds_toArray, List.set_cons_zero, List.set_cons_succ])
                    refine wpAnyH_take (i := 1) (oi := _) (v := ?_) (by simp only [List.getElem?_toArray, List.getElem?_cons_succ, List.getElem?_cons_zero]; rfl) (by kernel_rfl) (by kernel_rfl) (by kernel_rfl) (fun _ _ _ h => h) (Or.inl ⟨by rfl, ?_⟩) (by assumption) ?_
                    rotate_left
                    · (intro w hSw; (try dsimp only at hSw); go_simp; (try with_reducible rfl))
                    (try simp only [Act.put, List.setIfInBounds_toArray, List.set_cons_zero, List.set_cons_succ])
                    refine wpAnyH_take (i := 2) (oi := _) (v := ?_) (by simp only [List.getElem?_toArray, List.getElem?_cons_succ, List.getElem?_cons_zero]; rfl) (by kernel_rfl) (by kernel_rfl) (by kernel_rfl) (fun _ _ _ h => h) (Or.inl ⟨by rfl, ?_⟩) (by assumption) ?_
                    rotate_left
                    · (intro w hSw; (try dsimp only at hSw); go_simp; (try with_reducible rfl))
                    (try simp only [Act.put, List.setIfInBounds_toArray, List.set_cons_zero, List.set_cons_succ])
                    refine wpAnyH_take (i := 3) (oi := _) (v := ?_) (by simp only [List.getElem?_toArray, List.getElem?_cons_succ, List.getElem?_cons_zero]; rfl) (by kernel_rfl) (by kernel_rfl) (by kernel_rfl) (fun _ _ _ h => h) (Or.inl ⟨by rfl, ?_⟩) (by assumption) ?_
                    rotate_left
                    · (intro w hSw; (try dsimp only at hSw); go_simp; (try with_reducible rfl))
                    (try simp only [Act.put, List.setIfInBounds_toArray, List.set_cons_zero, List.set_cons_succ])
                    refine wpAnyH_take (i := 4) (oi := _) (v := ?_) (by simp only [List.getElem?_toArray, List.getElem?_cons_succ, List.getElem?_cons_zero]; rfl) (by kernel_rfl) (by kernel_rfl) (by kernel_rfl) (fun _ _ _ h => h) (Or.inl ⟨by rfl, ?_⟩) (by assumption) ?_
                    rotate_left
                    · (intro w hSw; (try dsimp only at hSw); go_simp; (try with_reducible rfl))
                    (try simp only [Act.put, List.setIfInBounds_toArray, List.set_cons_zero, List.set_cons_succ])
                    refine wpAnyH_take (i := 5) (oi := _) (v := ?_) (by simp only [List.getElem?_toArray, List.getElem?_cons_succ, List.getElem?_cons_zero]; rfl) (by kernel_rfl) (by kernel_rfl) (by kernel_rfl) (fun _ _ _ h => h) (Or.inl ⟨by rfl, ?_⟩) (by assumption) ?_
                    rotate_left
                    · (intro w hSw; (try dsimp only at hSw); go_simp; (try with_reducible rfl))
                    (try simp only [Act.put, List.setIfInBounds_toArray, List.set_cons_zero, List.set_cons_succ])
                    refine wpAnyH_take (i := 6) (oi := _) (v := ?_) (by simp only [List.getElem?_toArray, List.getElem?_cons_succ, List.getElem?_cons_zero]; rfl) (by kernel_rfl) (by kernel_rfl) (by kernel_rfl) (fun _ _ _ h => h) (Or.inl ⟨by rfl, ?_⟩) (by assumption) ?_
                    rotate_left
                    · (intro w hSw; (try dsimp only at hSw); go_simp; (try with_reducible rfl))
                    (try simp only [Act.put, List.setIfInBounds_toArray, List.set_cons_zero, List.set_cons_succ])
                    refine wpAnyH_take (i := 7) (oi := _) (v := ?_) (by simp only [List.getElem?_toArray, List.getElem?_cons_succ, List.getElem?_cons_zero]; rfl) (by kernel_rfl) (by kernel_rfl) (by kernel_rfl) (fun _ _ _ h => h) (Or.inl ⟨by rfl, ?_⟩) (by assumption) ?_
                    rotate_left
                    · (intro w hSw; (try dsimp only at hSw); go_simp; (try with_reducible rfl))
                    (try simp only [Act.put, List.setIfInBounds_toArray, List.set_cons_zero, List.set_cons_succ])
                    refine wpAnyH_take (i := 8) (oi := _) (v := ?_) (by simp only [List.getElem?_toArray, List.getElem?_cons_succ, List.getElem?_cons_zero]; rfl) (by kernel_rfl) (by kernel_rfl) (by kernel_rfl) (fun _ _ _ h => h) (Or.inl ⟨by rfl, ?_⟩) (by assumption) ?_
                    rotate_left
                    · (intro w hSw; (try dsimp only at hSw); go_simp; (try with_reducible rfl))
                    (try simp only [Act.put, List.setIfInBounds_toArray, List.set_cons_zero, List.set_cons_succ])
                    refine wpAnyH_take (i := 9) (oi := _) (v := ?_) (by simp only [List.getElem?_toArray, List.getElem?_cons_succ, List.getElem?_cons_zero]; rfl) (by kernel_rfl) (by kernel_rfl) (by kernel_rfl) (fun _ _ _ h => h) (Or.inl ⟨by rfl, ?_⟩) (by assumption) ?_
                    rotate_left
                    · (intro w hSw; (try dsimp only at hSw); go_simp; (try with_reducible rfl))
                    (try simp only [Act.put, List.setIfInBounds_toArray, List.set_cons_zero, List.set_cons_succ])
                    refine wpAnyH_take (i := 10) (oi := _) (v := ?_) (by simp only [List.getElem?_toArray, List.getElem?_cons_succ, List.getElem?_cons_zero]; rfl) (by kernel_rfl) (by kernel_rfl) (by kernel_rfl) (fun _ _ _ h => h) (Or.inl ⟨by rfl, ?_⟩) (by assumption) ?_
                    rotate_left
                    · (intro w hSw; (try dsimp only at hSw); go_simp; (try with_reducible rfl))
                    (try simp only [Act.put, List.setIfInBounds_toArray, List.set_cons_zero, List.set_cons_succ])
                    refine wpAnyH_take (i := 11) (oi := _) (v := ?_) (by simp only [List.getElem?_toArray, List.getElem?_cons_succ, List.getElem?_cons_zero]; rfl) (by kernel_rfl) (by kernel_rfl) (by kernel_rfl) (fun _ _ _ h => h) (Or.inl ⟨by rfl, ?_⟩) (by assumption) ?_
                    rotate_left
                    · (intro w hSw; (try dsimp only at hSw); go_simp; (try with_reducible rfl))
                    (try simp only [Act.put, List.setIfInBounds_toArray, List.set_cons_zero, List.set_cons_succ])
                    refine wpAnyH_take (i := 12) (oi := _) (v := ?_) (by simp only [List.getElem?_toArray, List.getElem?_cons_succ, List.getElem?_cons_zero]; rfl) (by kernel_rfl) (by kernel_rfl) (by kernel_rfl) (fun _ _ _ h => h) (Or.inl ⟨by rfl, ?_⟩) (by assumption) ?_
                    rotate_left
                    · (intro w hSw; (try dsimp only at hSw); go_simp; (try with_reducible rfl))
                    (try simp only [Act.put, List.setIfInBounds_toArray, List.set_cons_zero, List.set_cons_succ])
                    refine wpAnyH_take (i := 13) (oi := _) (v := ?_) (by simp only [List.getElem?_toArray, List.getElem?_cons_succ, List.getElem?_cons_zero]; rfl) (by kernel_rfl) (by kernel_rfl) (by kernel_rfl) (fun _ _ _ h => h) (Or.inl ⟨by rfl, ?_⟩) (by assumption) ?_
                    rotate_left
                    · (intro w hSw; (try dsimp only at hSw); go_simp; (try with_reducible rfl))
                    (try simp only [Act.put, List.setIfInBounds_toArray, List.set_cons_zero, List.set_cons_succ])
                    refine wpAnyH_take (i := 14) (oi := _) (v := ?_) (by simp only [List.getElem?_toArray, List.getElem?_cons_succ, List.getElem?_cons_zero]; rfl) (by kernel_rfl) (by kernel_rfl) (by kernel_rfl) (fun _ _ _ h => h) (Or.inl ⟨by rfl, ?_⟩) (by assumption) ?_
                    rotate_left
                    · (intro w hSw; (try dsimp only at hSw); go_simp; (try with_reducible rfl))
                    (try simp only [Act.put, List.setIfInBounds_toArray, List.set_cons_zero, List.set_cons_succ])
                    refine wpAnyH_done (by kernel_rfl) ?_ _
                    refine NoPanic.normal ?_
                    clear hH
                    go_wp2_with fail
                    go_roundw
                    case rel =>
                      have w3 := WI'.out
                      rw [HX.out] at w3
                      exact ⟨k + 1, (i : Int), S', by have := MU.out; have := MU'.out; omega, by go_num, rfl, w3, by have := MU.out; have := MU'.out; omega, GS'.out, H4.out.kept (schE_stable.star none_stable) (by repeat (first | with_reducible (exact Keep.same _ _) | with_reducible (apply Keep.drew) | with_reducible (apply Keep.alloc)))⟩
                    case measure => simp [intOf]; omega
                  · have d4 : decide (0 ≤ inn) = true := decide_eq_true (by omega)
                    have d5 : (inn != (i : Int)) = false := by simp [d3]
                    clear q1 q2 d3
                    go_wp2_with fail
                    refine (ST.out _ (by repeat (first | with_reducible (exact Keep.same _ _) | with_reducible (apply Keep.drew) | with_reducible (apply Keep.alloc)))).mono ?_
                    rintro e w4 ⟨rfl, hh4⟩
                    have H4 := Lib.hid (hh4.alloc (schE_stable.star none_stable) (.cells #[.int .i64 (i : Int), .int .i64 a, .int .i64 0] 103))
                    have B4 := Blk.fresh w4 103 #[.int .i64 (i : Int), .int .i64 a, .int .i64 0]
                    have f0 := B4.cell 0
                    have f1 := B4.cell 1
                    have f2 := B4.cell 2
                    have ct := (Keep.of_below H4.out.below Nothing).cell CT.out (fun h => h)
                    have hH : (fun w' => w'.cell? ⟨w4.heap.size, 0, none⟩ = some (.int .i64 (i : Int)) ∧ w'.cell? ⟨w4.heap.size, 1, none⟩ = some (.int .i64 a) ∧ w'.cell? (adt.add i) = some (.slice Ak m ck)) (w4.alloc (.cells #[.int .i64 (i : Int), .int .i64 a, .int .i64 0] 103)) := ⟨f0, f1, ct⟩
                    dsimp only at hH
                    clear hh4 B4
                    go_wp2_with fail
                    refine wp_region_noPanic ?_
                    refine wp_region_held_drew (S := (fun w' => w'.cell? ⟨w4.heap.size, 0, none⟩ = some (.int .i64 (i : Int)) ∧ w'.cell? ⟨w4.heap.size, 1, none⟩ = some (.int .i64 a) ∧ w'.cell? (adt.add i) = some (.slice Ak m ck))) (by kernel_rfl) hH (fun hHeld => ?_)
                    refine wpAnyH_take (i := 0) (oi := _) (v := ?_) (by simp only [List.getElem?_toArray, List.getElem?_cons_succ, List.getElem?_cons_zero]; rfl) (by kernel_rfl) (by kernel_rfl) (by kernel_rfl) (fun _ _ _ h => h) (Or.inl ⟨by rfl, ?_⟩) (by assumption) ?_
                    rotate_left
                    · (intro w hSw; (try dsimp only at hSw); go_simp; (try with_reducible rfl))
                    (try simp only [Act.put, List.setIfInBounds_toArray, List.set_cons_zero, List.set_cons_succ])
                    refine wpAnyH_take (i := 1) (oi := _) (v := ?_) (by simp only [List.getElem?_toArray, List.getElem?_cons_succ, List.getElem?_cons_zero]; rfl) (by kernel_rfl) (by kernel_rfl) (by kernel_rfl) (fun _ _ _ h => h) (Or.inl ⟨by rfl, ?_⟩) (by assumption) ?_
                    rotate_left
                    · (intro w hSw; (try dsimp only at hSw); go_simp; (try with_reducible rfl))
                    (try simp only [Act.put, List.setIfInBounds_toArray, List.set_cons_zero, List.set_cons_succ])
                    refine wpAnyH_take (i := 2) (oi := _) (v := ?_) (by simp only [List.getElem?_toArray, List.getElem?_cons_succ, List.getElem?_cons_zero]; rfl) (by kernel_rfl) (by kernel_rfl) (by kernel_rfl) (fun _ _ _ h => h) (Or.inl ⟨by rfl, ?_⟩) (by assumption) ?_
                    rotate_left
                    · (intro w hSw; (try dsimp only at hSw); go_simp; (try with_reducible rfl))
                    (try simp only [Act.put, List.setIfInBounds_toArray, List.set_cons_zero, List.set_cons_succ])
                    refine wpAnyH_take (i := 3) (oi := _) (v := ?_) (by simp only [List.getElem?_toArray, List.getElem?_cons_succ, List.getElem?_cons_zero]; rfl) (by kernel_rfl) (by kernel_rfl) (by kernel_rfl) (fun _ _ _ h => h) (Or.inl ⟨by rfl, ?_⟩) (by assumption) ?_
                    rotate_left
                    · (intro w hSw; (try dsimp only at hSw); go_simp; (try with_reducible rfl))
                    (try simp only [Act.put, List.setIfInBounds_toArray, List.set_cons_zero, List.set_cons_succ])
                    refine wpAnyH_take (i := 4) (oi := _) (v := ?_) (by simp only [List.getElem?_toArray, List.getElem?_cons_succ, List.getElem?_cons_zero]; rfl) (by kernel_rfl) (by kernel_rfl) (by kernel_rfl) (fun _ _ _ h => h) (Or.inl ⟨by rfl, ?_⟩) (by assumption) ?_
                    rotate_left
                    · (intro w hSw; (try dsimp only at hSw); go_simp; (try with_reducible rfl))
                    (try simp only [Act.put, List.setIfInBounds_toArray, List.set_cons_zero, List.set_cons_succ])
                    refine wpAnyH_take (i := 5) (oi := _) (v := ?_) (by simp only [List.getElem?_toArray, List.getElem?_cons_succ, List.getElem?_cons_zero]; rfl) (by kernel_rfl) (by kernel_rfl) (by kernel_rfl) (fun _ _ _ h => h) (Or.inl ⟨by rfl, ?_⟩) (by assumption) ?_
                    rotate_left
                    · (intro w hSw; (try dsimp only at hSw); go_simp; (try with_reducible rfl))
                    (try simp only [Act.put, List.setIfInBounds_toArray, List.set_cons_zero, List.set_cons_succ])
                    refine wpAnyH_take (i := 6) (oi := _) (v := ?_) (by simp only [List.getElem?_toArray, List.getElem?_cons_succ, List.getElem?_cons_zero]; rfl) (by kernel_rfl) (by kernel_rfl) (by kernel_rfl) (fun _ _ _ h => h) (Or.inl ⟨by rfl, ?_⟩) (by assumption) ?_
                    rotate_left
                    · (intro w hSw; (try dsimp only at hSw); go_simp; (try with_reducible rfl))
                    (try simp only [Act.put, List.setIfInBounds_toArray, List.set_cons_zero, List.set_cons_succ])
                    refine wpAnyH_take (i := 7) (oi := _) (v := ?_) (by simp only [List.getElem?_toArray, List.getElem?_cons_succ, List.getElem?_cons_zero]; rfl) (by kernel_rfl) (by kernel_rfl) (by kernel_rfl) (fun _ _ _ h => h) (Or.inl ⟨by rfl, ?_⟩) (by assumption) ?_
                    rotate_left
                    · (intro w hSw; (try dsimp only at hSw); go_simp; (try with_reducible rfl))
                    (try simp only [Act.put, List.setIfInBounds_toArray, List.set_cons_zero, List.set_cons_succ])
                    refine wpAnyH_take (i := 8) (oi := _) (v := ?_) (by simp only [List.getElem?_toArray, List.getElem?_cons_succ, List.getElem?_cons_zero]; rfl) (by kernel_rfl) (by kernel_rfl) (by kernel_rfl) (fun _ _ _ h => h) (Or.inl ⟨by rfl, ?_⟩) (by assumption) ?_
                    rotate_left
                    · (intro w hSw; (try dsimp only at hSw); go_simp; (try with_reducible rfl))
                    (try simp only [Act.put, List.setIfInBounds_toArray, List.set_cons_zero, List.set_cons_succ])
                    refine wpAnyH_take (i := 9) (oi := _) (v := ?_) (by simp only [List.getElem?_toArray, List.getElem?_cons_succ, List.getElem?_cons_zero]; rfl) (by kernel_rfl) (by kernel_rfl) (by kernel_rfl) (fun _ _ _ h => h) (Or.inl ⟨by rfl, ?_⟩) (by assumption) ?_
                    rotate_left
                    · (intro w hSw; (try dsimp only at hSw); go_simp; (try with_reducible rfl))
                    (try simp only [Act.put, List.setIfInBounds_toArray, List.set_cons_zero, List.set_cons_succ])
                    refine wpAnyH_take (i := 10) (oi := _) (v := ?_) (by simp only [List.getElem?_toArray, List.getElem?_cons_succ, List.getElem?_cons_zero]; rfl) (by kernel_rfl) (by kernel_rfl) (by kernel_rfl) (fun _ _ _ h => h) (Or.inl ⟨by rfl, ?_⟩) (by assumption) ?_
                    rotate_left
                    · (intro w hSw; (try dsimp only at hSw); go_simp; (try with_reducible rfl))
                    (try simp only [Act.put, List.setIfInBounds_toArray, List.set_cons_zero, List.set_cons_succ])
                    refine wpAnyH_take (i := 11) (oi := _) (v := ?_) (by simp only [List.getElem?_toArray, List.getElem?_cons_succ, List.getElem?_cons_zero]; rfl) (by kernel_rfl) (by kernel_rfl) (by kernel_rfl) (fun _ _ _ h => h) (Or.inl ⟨by rfl, ?_⟩) (by assumption) ?_
                    rotate_left
                    · (intro w hSw; (try dsimp only at hSw); go_simp; (try with_reducible rfl))
                    (try simp only [Act.put, List.setIfInBounds_toArray, List.set_cons_zero, List.set_cons_succ])
                    refine wpAnyH_take (i := 12) (oi := _) (v := ?_) (by simp only [List.getElem?_toArray, List.getElem?_cons_succ, List.getElem?_cons_zero]; rfl) (by kernel_rfl) (by kernel_rfl) (by kernel_rfl) (fun _ _ _ h => h) (Or.inl ⟨by rfl, ?_⟩) (by assumption) ?_
                    rotate_left
                    · (intro w hSw; (try dsimp only at hSw); go_simp; (try with_reducible rfl))
                    (try simp only [Act.put, List.setIfInBounds_toArray, List.set_cons_zero, List.set_cons_succ])
                    refine wpAnyH_take (i := 13) (oi := _) (v := ?_) (by simp only [List.getElem?_toArray, List.getElem?_cons_succ, List.getElem?_cons_zero]; rfl) (by kernel_rfl) (by kernel_rfl) (by kernel_rfl) (fun _ _ _ h => h) (Or.inl ⟨by rfl, ?_⟩) (by assumption) ?_
                    rotate_left
                    · (intro w hSw; (try dsimp only at hSw); go_simp; (try with_reducible rfl))
                    (try simp only [Act.put, List.setIfInBounds_toArray, List.set_cons_zero, List.set_cons_succ])
                    refine wpAnyH_take (i := 14) (oi := _) (v := ?_) (by simp only [List.getElem?_toArray, List.getElem?_cons_succ, List.getElem?_cons_zero]; rfl) (by kernel_rfl) (by kernel_rfl) (by kernel_rfl) (fun _ _ _ h => h) (Or.inl ⟨by rfl, ?_⟩) (by assumption) ?_
                    rotate_left
                    · (intro w hSw; (try dsimp only at hSw); go_simp; (try with_reducible rfl))
                    (try simp only [Act.put, List.setIfInBounds_toArray, List.set_cons_zero, List.set_cons_succ])
                    refine wpAnyH_done (by kernel_rfl) ?_ _
                    refine NoPanic.normal ?_
                    clear hH
                    go_wp2_with fail
                    go_roundw
                    case rel =>
                      have w3 := WI'.out
                      rw [HX.out] at w3
                      exact ⟨k + 1, (i : Int), S', by have := MU.out; have := MU'.out; omega, by go_num, rfl, w3, by have := MU.out; have := MU'.out; omega, GS'.out, H4.out.kept (schE_stable.star none_stable) (by repeat (first | with_reducible (exact Keep.same _ _) | with_reducible (apply Keep.drew) | with_reducible (apply Keep.alloc)))⟩
                    case measure => simp [intOf]; omega
                · have d1 : decide (0 < a) = true := decide_eq_true (by have := HA.out; omega)
                  have d2 : decide (a < m1) = false := decide_eq_false (by have := HA.out; have := HM1.out; omega)
                  rcases Decidable.em (inn = (i : Int)) with d3 | d3
                  · have d5 : (inn == (i : Int)) = true := by simp [d3]
                    have HX := Lib.hid (show innX inn i t.at_ t.ops.length = -1 by unfold innX; rw [if_neg (fun h => q2 (by have := h.2; rw [HML.out.1] at this; exact this)), if_pos ⟨q1, d3⟩])
                    clear q1 q2 d3
                    go_wp2_with fail
                    refine (ST.out _ (by repeat (first | with_reducible (exact Keep.same _ _) | with_reducible (apply Keep.drew) | with_reducible (apply Keep.alloc)))).mono ?_
                    rintro e w4 ⟨rfl, hh4⟩
                    have H4 := Lib.hid (hh4.alloc (schE_stable.star none_stable) (.cells #[.int .i64 (i : Int), .int .i64 a, .int .i64 0] 103))
                    have B4 := Blk.fresh w4 103 #[.int .i64 (i : Int), .int .i64 a, .int .i64 0]
                    have f0 := B4.cell 0
                    have f1 := B4.cell 1
                    have f2 := B4.cell 2
                    have ct := (Keep.of_below H4.out.below Nothing).cell CT.out (fun h => h)
                    have hH : (fun w' => w'.cell? ⟨w4.heap.size, 0, none⟩ = some (.int .i64 (i : Int)) ∧ w'.cell? ⟨w4.heap.size, 1, none⟩ = some (.int .i64 a) ∧ w'.cell? (adt.add i) = some (.slice Ak m ck)) (w4.alloc (.cells #[.int .i64 (i : Int), .int .i64 a, .int .i64 0] 103)) := ⟨f0, f1, ct⟩
                    dsimp only at hH
                    clear hh4 B4
                    go_wp2_with fail
                    refine wp_region_noPanic ?_
                    refine wp_region_held_drew (S := (fun w' => w'.cell? ⟨w4.heap.size, 0, none⟩ = some (.int .i64 (i : Int)) ∧ w'.cell? ⟨w4.heap.size, 1, none⟩ = some (.int .i64 a) ∧ w'.cell? (adt.add i) = some (.slice Ak m ck))) (by kernel_rfl) hH (fun hHeld => ?_)
                    refine wpAnyH_take (i := 0) (oi := _) (v := ?_) (by simp only [List.getElem?_toArray, List.getElem?_cons_succ, List.getElem?_cons_zero]; rfl) (by kernel_rfl) (by kernel_rfl) (by kernel_rfl) (fun _ _ _ h => h) (Or.inl ⟨by rfl, ?_⟩) (by assumption) ?_
                    rotate_left
                    · (intro w hSw; (try dsimp only at hSw); go_simp; (try with_reducible rfl))
                    (try simp only [Act.put, List.setIfInBounds_toArray, List.set_cons_zero, List.set_cons_succ])
                    refine wpAnyH_take (i := 1) (oi := _) (v := ?_) (by simp only [List.getElem?_toArray, List.getElem?_cons_succ, List.getElem?_cons_zero]; rfl) (by kernel_rfl) (by kernel_rfl) (by kernel_rfl) (fun _ _ _ h => h) (Or.inl ⟨by rfl, ?_⟩) (by assumption) ?_
                    rotate_left
                    · (intro w hSw; (try dsimp only at hSw); go_simp; (try with_reducible rfl))
                    (try simp only [Act.put, List.setIfInBounds_toArray, List.set_cons_zero, List.set_cons_succ])
                    refine wpAnyH_take (i := 2) (oi := _) (v := ?_) (by simp only [List.getElem?_toArray, List.getElem?_cons_succ, List.getElem?_cons_zero]; rfl) (by kernel_rfl) (by kernel_rfl) (by kernel_rfl) (fun _ _ _ h => h) (Or.inl ⟨by rfl, ?_⟩) (by assumption) ?_
                    rotate_left
                    · (intro w hSw; (try dsimp only at hSw); go_simp; (try with_reducible rfl))
                    (try simp only [Act.put, List.setIfInBounds_toArray, List.set_cons_zero, List.set_cons_succ])
                    refine wpAnyH_take (i := 3) (oi := _) (v := ?_) (by simp only [List.getElem?_toArray, List.getElem?_cons_succ, List.getElem?_cons_zero]; rfl) (by kernel_rfl) (by kernel_rfl) (by kernel_rfl) (fun _ _ _ h => h) (Or.inl ⟨by rfl, ?_⟩) (by assumption) ?_
                    rotate_left
                    · (intro w hSw; (try dsimp only at hSw); go_simp; (try with_reducible rfl))
                    (try simp only [Act.put, List.setIfInBounds_toArray, List.set_cons_zero, List.set_cons_succ])
                    refine wpAnyH_take (i := 4) (oi := _) (v := ?_) (by simp only [List.getElem?_toArray, List.getElem?_cons_succ, List.getElem?_cons_zero]; rfl) (by kernel_rfl) (by kernel_rfl) (by kernel_rfl) (fun _ _ _ h => h) (Or.inl ⟨by rfl, ?_⟩) (by assumption) ?_
                    rotate_left
                    · (intro w hSw; (try dsimp only at hSw); go_simp; (try with_reducible rfl))
                    (try simp only [Act.put, List.setIfInBounds_toArray, List.set_cons_zero, List.set_cons_succ])
                    refine wpAnyH_take (i := 5) (oi := _) (v := ?_) (by simp only [List.getElem?_toArray, List.getElem?_cons_succ, List.getElem?_cons_zero]; rfl) (by kernel_rfl) (by kernel_rfl) (by kernel_rfl) (fun _ _ _ h => h) (Or.inl ⟨by rfl, ?_⟩) (by assumption) ?_
                    rotate_left
                    · (intro w hSw; (try dsimp only at hSw); go_simp; (try with_reducible rfl))
                    (try simp only [Act.put, List.setIfInBounds_toArray, List.set_cons_zero, List.set_cons_succ])
                    refine wpAnyH_take (i := 6) (oi := _) (v := ?_) (by simp only [List.getElem?_toArray, List.getElem?_cons_succ, List.getElem?_cons_zero]; rfl) (by kernel_rfl) (by kernel_rfl) (by kernel_rfl) (fun _ _ _ h => h) (Or.inl ⟨by rfl, ?_⟩) (by assumption) ?_
                    rotate_left
                    · (intro w hSw; (try dsimp only at hSw); go_simp; (try with_reducible rfl))
                    (try simp only [Act.put, List.setIfInBounds_toArray, List.set_cons_zero, List.set_cons_succ])
                    refine wpAnyH_take (i := 7) (oi := _) (v := ?_) (by simp only [List.getElem?_toArray, List.getElem?_cons_succ, List.getElem?_cons_zero]; rfl) (by kernel_rfl) (by kernel_rfl) (by kernel_rfl) (fun _ _ _ h => h) (Or.inl ⟨by rfl, ?_⟩) (by assumption) ?_
                    rotate_left
                    · (intro w hSw; (try dsimp only at hSw); go_simp; (try with_reducible rfl))
                    (try simp only [Act.put, List.setIfInBounds_toArray, List.set_cons_zero, List.set_cons_succ])
                    refine wpAnyH_take (i := 8) (oi := _) (v := ?_) (by simp only [List.getElem?_toArray, List.getElem?_cons_succ, List.getElem?_cons_zero]; rfl) (by kernel_rfl) (by kernel_rfl) (by kernel_rfl) (fun _ _ _ h => h) (Or.inl ⟨by rfl, ?_⟩) (by assumption) ?_
                    rotate_left
                    · (intro w hSw; (try dsimp only at hSw); go_simp; (try with_reducible rfl))
                    (try simp only [Act.put, List.setIfInBounds_toArray, List.set_cons_zero, List.set_cons_succ])
                    refine wpAnyH_take (i := 9) (oi := _) (v := ?_) (by simp only [List.getElem?_toArray, List.getElem?_cons_succ, List.getElem?_cons_zero]; rfl) (by kernel_rfl) (by kernel_rfl) (by kernel_rfl) (fun _ _ _ h => h) (Or.inl ⟨by rfl, ?_⟩) (by assumption) ?_
                    rotate_left
                    · (intro w hSw; (try dsimp only at hSw); go_simp; (try with_reducible rfl))
                    (try simp only [Act.put, List.setIfInBounds_toArray, List.set_cons_zero, List.set_cons_succ])
                    refine wpAnyH_take (i := 10) (oi := _) (v := ?_) (by simp only [List.getElem?_toArray, List.getElem?_cons_succ, List.getElem?_cons_zero]; rfl) (by kernel_rfl) (by kernel_rfl) (by kernel_rfl) (fun _ _ _ h => h) (Or.inl ⟨by rfl, ?_⟩) (by assumption) ?_
                    rotate_left
                    · (intro w hSw; (try dsimp only at hSw); go_simp; (try with_reducible rfl))
                    (try simp only [Act.put, List.setIfInBounds_toArray, List.set_cons_zero, List.set_cons_succ])
                    refine wpAnyH_take (i := 11) (oi := _) (v := ?_) (by simp only [List.getElem?_toArray, List.getElem?_cons_succ, List.getElem?_cons_zero]; rfl) (by kernel_rfl) (by kernel_rfl) (by kernel_rfl) (fun _ _ _ h => h) (Or.inl ⟨by rfl, ?_⟩) (by assumption) ?_
                    rotate_left
                    · (intro w hSw; (try dsimp only at hSw); go_simp; (try with_reducible rfl))
                    (try simp only [Act.put, List.setIfInBounds_toArray, List.set_cons_zero, List.set_cons_succ])
                    refine wpAnyH_take (i := 12) (oi := _) (v := ?_) (by simp only [List.getElem?_toArray, List.getElem?_cons_succ, List.getElem?_cons_zero]; rfl) (by kernel_rfl) (by kernel_rfl) (by kernel_rfl) (fun _ _ _ h => h) (Or.inl ⟨by rfl, ?_⟩) (by assumption) ?_
                    rotate_left
                    · (intro w hSw; (try dsimp only at hSw); go_simp; (try with_reducible rfl))
                    (try simp only [Act.put, List.setIfInBounds_toArray, List.set_cons_zero, List.set_cons_succ])
                    refine wpAnyH_take (i := 13) (oi := _) (v := ?_) (by simp only [List.getElem?_toArray, List.getElem?_cons_succ, List.getElem?_cons_zero]; rfl) (by kernel_rfl) (by kernel_rfl) (by kernel_rfl) (fun _ _ _ h => h) (Or.inl ⟨by rfl, ?_⟩) (by assumption) ?_
                    rotate_left
                    · (intro w hSw; (try dsimp only at hSw); go_simp; (try with_reducible rfl))
                    (try simp only [Act.put, List.setIfInBounds_toArray, List.set_cons_zero, List.set_cons_succ])
                    refine wpAnyH_take (i := 14) (oi := _) (v := ?_) (by simp only [List.getElem?_toArray, List.getElem?_cons_succ, List.getElem?_cons_zero]; rfl) (by kernel_rfl) (by kernel_rfl) (by kernel_rfl) (fun _ _ _ h => h) (Or.inl ⟨by rfl, ?_⟩) (by assumption) ?_
                    rotate_left
                    · (intro w hSw; (try dsimp only at hSw); go_simp; (try with_reducible rfl))
                    (try simp only [Act.put, List.setIfInBounds_toArray, List.set_cons_zero, List.set_cons_succ])
                    refine wpAnyH_done (by kernel_rfl) ?_ _
                    refine NoPanic.normal ?_
                    clear hH
                    go_wp2_with fail
                    go_roundw
                    case rel =>
                      have w3 := WI'.out
                      rw [HX.out] at w3
                      exact ⟨k + 1, (-1), S', by have := MU.out; have := MU'.out; omega, by go_num, rfl, w3, by have := MU.out; have := MU'.out; omega, GS'.out, H4.out.kept (schE_stable.star none_stable) (by repeat (first | with_reducible (exact Keep.same _ _) | with_reducible (apply Keep.drew) | with_reducible (apply Keep.alloc)))⟩
                    case measure => simp [intOf]; omega
                  · have d5 : (inn == (i : Int)) = false := by simp [d3]
                    have HX := Lib.hid (show innX inn i t.at_ t.ops.length = inn by unfold innX; rw [if_neg (fun h => q2 (by have := h.2; rw [HML.out.1] at this; exact this)), if_neg (fun h => d3 h.2)])
                    clear q1 q2 d3
                    go_wp2_with fail
                    refine (ST.out _ (by repeat (first | with_reducible (exact Keep.same _ _) | with_reducible (apply Keep.drew) | with_reducible (apply Keep.alloc)))).mono ?_
                    rintro e w4 ⟨rfl, hh4⟩
                    have H4 := Lib.hid (hh4.alloc (schE_stable.star none_stable) (.cells #[.int .i64 (i : Int), .int .i64 a, .int .i64 0] 103))
                    have B4 := Blk.fresh w4 103 #[.int .i64 (i : Int), .int .i64 a, .int .i64 0]
                    have f0 := B4.cell 0
                    have f1 := B4.cell 1
                    have f2 := B4.cell 2
                    have ct := (Keep.of_below H4.out.below Nothing).cell CT.out (fun h => h)
                    have hH : (fun w' => w'.cell? ⟨w4.heap.size, 0, none⟩ = some (.int .i64 (i : Int)) ∧ w'.cell? ⟨w4.heap.size, 1, none⟩ = some (.int .i64 a) ∧ w'.cell? (adt.add i) = some (.slice Ak m ck)) (w4.alloc (.cells #[.int .i64 (i : Int), .int .i64 a, .int .i64 0] 103)) := ⟨f0, f1, ct⟩
                    dsimp only at hH
                    clear hh4 B4
                    go_wp2_with fail
                    refine wp_region_noPanic ?_
                    refine wp_region_held_drew (S := (fun w' => w'.cell? ⟨w4.heap.size, 0, none⟩ = some (.int .i64 (i : Int)) ∧ w'.cell? ⟨w4.heap.size, 1, none⟩ = some (.int .i64 a) ∧ w'.cell? (adt.add i) = some (.slice Ak m ck))) (by kernel_rfl) hH (fun hHeld => ?_)
                    refine wpAnyH_take (i := 0) (oi := _) (v := ?_) (by simp only [List.getElem?_toArray, List.getElem?_cons_succ, List.getElem?_cons_zero]; rfl) (by kernel_rfl) (by kernel_rfl) (by kernel_rfl) (fun _ _ _ h => h) (Or.inl ⟨by rfl, ?_⟩) (by assumption) ?_
                    rotate_left
                    · (intro w hSw; (try dsimp only at hSw); go_simp; (try with_reducible rfl))
                    (try simp only [Act.put, List.setIfInBounds_toArray, List.set_cons_zero, List.set_cons_succ])
                    refine wpAnyH_take (i := 1) (oi := _) (v := ?_) (by simp only [List.getElem?_toArray, List.getElem?_cons_succ, List.getElem?_cons_zero]; rfl) (by kernel_rfl) (by kernel_rfl) (by kernel_rfl) (fun _ _ _ h => h) (Or.inl ⟨by rfl, ?_⟩) (by assumption) ?_
                    rotate_left
                    · (intro w hSw; (try dsimp only at hSw); go_simp; (try with_reducible rfl))
                    (try simp only [Act.put, List.setIfInBounds_toArray, List.set_cons_zero, List.set_cons_succ])
                    refine wpAnyH_take (i := 2) (oi := _) (v := ?_) (by simp only [List.getElem?_toArray, List.getElem?_cons_succ, List.getElem?_cons_zero]; rfl) (by kernel_rfl) (by kernel_rfl) (by kernel_rfl) (fun _ _ _ h => h) (Or.inl ⟨by rfl, ?_⟩) (by assumption) ?_
                    rotate_left
                    · (intro w hSw; (try dsimp only at hSw); go_simp; (try with_reducible rfl))
                    (try simp only [Act.put, List.setIfInBounds_toArray, List.set_cons_zero, List.set_cons_succ])
                    refine wpAnyH_take (i := 3) (oi := _) (v := ?_) (by simp only [List.getElem?_toArray, List.getElem?_cons_succ, List.getElem?_cons_zero]; rfl) (by kernel_rfl) (by kernel_rfl) (by kernel_rfl) (fun _ _ _ h => h) (Or.inl ⟨by rfl, ?_⟩) (by assumption) ?_
                    rotate_left
                    · (intro w hSw; (try dsimp only at hSw); go_simp; (try with_reducible rfl))
                    (try simp only [Act.put, List.setIfInBounds_toArray, List.set_cons_zero, List.set_cons_succ])
                    refine wpAnyH_take (i := 4) (oi := _) (v := ?_) (by simp only [List.getElem?_toArray, List.getElem?_cons_succ, List.getElem?_cons_zero]; rfl) (by kernel_rfl) (by kernel_rfl) (by kernel_rfl) (fun _ _ _ h => h) (Or.inl ⟨by rfl, ?_⟩) (by assumption) ?_
                    rotate_left
                    · (intro w hSw; (try dsimp only at hSw); go_simp; (try with_reducible rfl))
                    (try simp only [Act.put, List.setIfInBounds_toArray, List.set_cons_zero, List.set_cons_succ])
                    refine wpAnyH_take (i := 5) (oi := _) (v := ?_) (by simp only [List.getElem?_toArray, List.getElem?_cons_succ, List.getElem?_cons_zero]; rfl) (by kernel_rfl) (by kernel_rfl) (by kernel_rfl) (fun _ _ _ h => h) (Or.inl ⟨by rfl, ?_⟩) (by assumption) ?_
                    rotate_left
                    · (intro w hSw; (try dsimp only at hSw); go_simp; (try with_reducible rfl))
                    (try simp only [Act.put, List.setIfInBounds_toArray, List.set_cons_zero, List.set_cons_succ])
                    refine wpAnyH_take (i := 6) (oi := _) (v := ?_) (by simp only [List.getElem?_toArray, List.getElem?_cons_succ, List.getElem?_cons_zero]; rfl) (by kernel_rfl) (by kernel_rfl) (by kernel_rfl) (fun _ _ _ h => h) (Or.inl ⟨by rfl, ?_⟩) (by assumption) ?_
                    rotate_left
                    · (intro w hSw; (try dsimp only at hSw); go_simp; (try with_reducible rfl))
                    (try simp only [Act.put, List.setIfInBounds_toArray, List.set_cons_zero, List.set_cons_succ])
                    refine wpAnyH_take (i := 7) (oi := _) (v := ?_) (by simp only [List.getElem?_toArray, List.getElem?_cons_succ, List.getElem?_cons_zero]; rfl) (by kernel_rfl) (by kernel_rfl) (by kernel_rfl) (fun _ _ _ h => h) (Or.inl ⟨by rfl, ?_⟩) (by assumption) ?_
                    rotate_left
                    · (intro w hSw; (try dsimp only at hSw); go_simp; (try with_reducible rfl))
                    (try simp only [Act.put, List.setIfInBounds_toArray, List.set_cons_zero, List.set_cons_succ])
                    refine wpAnyH_take (i := 8) (oi := _) (v := ?_) (by simp only [List.getElem?_toArray, List.getElem?_cons_succ, List.getElem?_cons_zero]; rfl) (by kernel_rfl) (by kernel_rfl) (by kernel_rfl) (fun _ _ _ h => h) (Or.inl ⟨by rfl, ?_⟩) (by assumption) ?_
                    rotate_left
                    · (intro w hSw; (try dsimp only at hSw); go_simp; (try with_reducible rfl))
                    (try simp only [Act.put, List.setIfInBounds_toArray, List.set_cons_zero, List.set_cons_succ])
                    refine wpAnyH_take (i := 9) (oi := _) (v := ?_) (by simp only [List.getElem?_toArray, List.getElem?_cons_succ, List.getElem?_cons_zero]; rfl) (by kernel_rfl) (by kernel_rfl) (by kernel_rfl) (fun _ _ _ h => h) (Or.inl ⟨by rfl, ?_⟩) (by assumption) ?_
                    rotate_left
                    · (intro w hSw; (try dsimp only at hSw); go_simp; (try with_reducible rfl))
                    (try simp only [Act.put, List.setIfInBounds_toArray, List.set_cons_zero, List.set_cons_succ])
                    refine wpAnyH_take (i := 10) (oi := _) (v := ?_) (by simp only [List.getElem?_toArray, List.getElem?_cons_succ, List.getElem?_cons_zero]; rfl) (by kernel_rfl) (by kernel_rfl) (by kernel_rfl) (fun _ _ _ h => h) (Or.inl ⟨by rfl, ?_⟩) (by assumption) ?_
                    rotate_left
                    · (intro w hSw; (try dsimp only at hSw); go_simp; (try with_reducible rfl))
                    (try simp only [Act.put, List.setIfInBounds_toArray, List.set_cons_zero, List.set_cons_succ])
                    refine wpAnyH_take (i := 11) (oi := _) (v := ?_) (by simp only [List.getElem?_toArray, List.getElem?_cons_succ, List.getElem?_cons_zero]; rfl) (by kernel_rfl) (by kernel_rfl) (by kernel_rfl) (fun _ _ _ h => h) (Or.inl ⟨by rfl, ?_⟩) (by assumption) ?_
                    rotate_left
                    · (intro w hSw; (try dsimp only at hSw); go_simp; (try with_reducible rfl))
                    (try simp only [Act.put, List.setIfInBounds_toArray, List.set_cons_zero, List.set_cons_succ])
                    refine wpAnyH_take (i := 12) (oi := _) (v := ?_) (by simp only [List.getElem?_toArray, List.getElem?_cons_succ, List.getElem?_cons_zero]; rfl) (by kernel_rfl) (by kernel_rfl) (by kernel_rfl) (fun _ _ _ h => h) (Or.inl ⟨by rfl, ?_⟩) (by assumption) ?_
                    rotate_left
                    · (intro w hSw; (try dsimp only at hSw); go_simp; (try with_reducible rfl))
                    (try simp only [Act.put, List.setIfInBounds_toArray, List.set_cons_zero, List.set_cons_succ])
                    refine wpAnyH_take (i := 13) (oi := _) (v := ?_) (by simp only [List.getElem?_toArray, List.getElem?_cons_succ, List.getElem?_cons_zero]; rfl) (by kernel_rfl) (by kernel_rfl) (by kernel_rfl) (fun _ _ _ h => h) (Or.inl ⟨by rfl, ?_⟩) (by assumption) ?_
                    rotate_left
                    · (intro w hSw; (try dsimp only at hSw); go_simp; (try with_reducible rfl))
                    (try simp only [Act.put, List.setIfInBounds_toArray, List.set_cons_zero, List.set_cons_succ])
                    refine wpAnyH_take (i := 14) (oi := _) (v := ?_) (by simp only [List.getElem?_toArray, List.getElem?_cons_succ, List.getElem?_cons_zero]; rfl) (by kernel_rfl) (by kernel_rfl) (by kernel_rfl) (fun _ _ _ h => h) (Or.inl ⟨by rfl, ?_⟩) (by assumption) ?_
                    rotate_left
                    · (intro w hSw; (try dsimp only at hSw); go_simp; (try with_reducible rfl))
                    (try simp only [Act.put, List.setIfInBounds_toArray, List.set_cons_zero, List.set_cons_succ])
                    refine wpAnyH_done (by kernel_rfl) ?_ _
                    refine NoPanic.normal ?_
                    clear hH
                    go_wp2_with fail
                    go_roundw
                    case rel =>
                      have w3 := WI'.out
                      rw [HX.out] at w3
                      exact ⟨k + 1, inn, S', by have := MU.out; have := MU'.out; omega, by go_num, rfl, w3, by have := MU.out; have := MU'.out; omega, GS'.out, H4.out.kept (schE_stable.star none_stable) (by repeat (first | with_reducible (exact Keep.same _ _) | with_reducible (apply Keep.drew) | with_reducible (apply Keep.alloc)))⟩
                    case measure => simp [intOf]; omega
                · have d1 : decide (0 < a) = false := decide_eq_false (by have := HA.out; omega)
                  have HX := Lib.hid (show innX inn i t.at_ t.ops.length = inn by unfold innX; rw [if_neg (by omega), if_neg (by omega)])
                  clear q1
                  go_wp2_with fail
                  refine (ST.out _ (by repeat (first | with_reducible (exact Keep.same _ _) | with_reducible (apply Keep.drew) | with_reducible (apply Keep.alloc)))).mono ?_
                  rintro e w4 ⟨rfl, hh4⟩
                  have H4 := Lib.hid (hh4.alloc (schE_stable.star none_stable) (.cells #[.int .i64 (i : Int), .int .i64 a, .int .i64 0] 103))
                  have B4 := Blk.fresh w4 103 #[.int .i64 (i : Int), .int .i64 a, .int .i64 0]
                  have f0 := B4.cell 0
                  have f1 := B4.cell 1
                  have f2 := B4.cell 2
                  have ct := (Keep.of_below H4.out.below Nothing).cell CT.out (fun h => h)
                  have hH : (fun w' => w'.cell? ⟨w4.heap.size, 0, none⟩ = some (.int .i64 (i : Int)) ∧ w'.cell? ⟨w4.heap.size, 1, none⟩ = some (.int .i64 a) ∧ w'.cell? (adt.add i) = some (.slice Ak m ck)) (w4.alloc (.cells #[.int .i64 (i : Int), .int .i64 a, .int .i64 0] 103)) := ⟨f0, f1, ct⟩
                  dsimp only at hH
                  clear hh4 B4
                  go_wp2_with fail
                  refine wp_region_noPanic ?_
                  refine wp_region_held_drew (S := (fun w' => w'.cell? ⟨w4.heap.size, 0, none⟩ = some (.int .i64 (i : Int)) ∧ w'.cell? ⟨w4.heap.size, 1, none⟩ = some (.int .i64 a) ∧ w'.cell? (adt.add i) = some (.slice Ak m ck))) (by kernel_rfl) hH (fun hHeld => ?_)
                  refine wpAnyH_take (i := 0) (oi := _) (v := ?_) (by simp only [List.getElem?_toArray, List.getElem?_cons_succ, List.getElem?_cons_zero]; rfl) (by kernel_rfl) (by kernel_rfl) (by kernel_rfl) (fun _ _ _ h => h) (Or.inl ⟨by rfl, ?_⟩) (by assumption) ?_
                  rotate_left
                  · (intro w hSw; (try dsimp only at hSw); go_simp; (try with_reducible rfl))
                  (try simp only [Act.put, List.setIfInBounds_toArray, List.set_cons_zero, List.set_cons_succ])
                  refine wpAnyH_take (i := 1) (oi := _) (v := ?_) (by simp only [List.getElem?_toArray, List.getElem?_cons_succ, List.getElem?_cons_zero]; rfl) (by kernel_rfl) (by kernel_rfl) (by kernel_rfl) (fun _ _ _ h => h) (Or.inl ⟨by rfl, ?_⟩) (by assumption) ?_
                  rotate_left
                  · (intro w hSw; (try dsimp only at hSw); go_simp; (try with_reducible rfl))
                  (try simp only [Act.put, List.setIfInBounds_toArray, List.set_cons_zero, List.set_cons_succ])
                  refine wpAnyH_take (i := 2) (oi := _) (v := ?_) (by simp only [List.getElem?_toArray, List.getElem?_cons_succ, List.getElem?_cons_zero]; rfl) (by kernel_rfl) (by kernel_rfl) (by kernel_rfl) (fun _ _ _ h => h) (Or.inl ⟨by rfl, ?_⟩) (by assumption) ?_
                  rotate_left
                  · (intro w hSw; (try dsimp only at hSw); go_simp; (try with_reducible rfl))
                  (try simp only [Act.put, List.setIfInBounds_toArray, List.set_cons_zero, List.set_cons_succ])
                  refine wpAnyH_take (i := 3) (oi := _) (v := ?_) (by simp only [List.getElem?_toArray, List.getElem?_cons_succ, List.getElem?_cons_zero]; rfl) (by kernel_rfl) (by kernel_rfl) (by kernel_rfl) (fun _ _ _ h => h) (Or.inl ⟨by rfl, ?_⟩) (by assumption) ?_
                  rotate_left
                  · (intro w hSw; (try dsimp only at hSw); go_simp; (try with_reducible rfl))
                  (try simp only [Act.put, List.setIfInBounds_toArray, List.set_cons_zero, List.set_cons_succ])
                  refine wpAnyH_take (i := 4) (oi := _) (v := undef) (by simp only [List.getElem?_toArray, List.getElem?_cons_succ, List.getElem?_cons_zero]; rfl) (by kernel_rfl) (by kernel_rfl) (by kernel_rfl) (fun _ _ _ h => h) (Or.inr ⟨by rfl, rfl⟩) (by assumption) ?_
                  (try simp only [Act.put, List.setIfInBounds_toArray, List.set_cons_zero, List.set_cons_succ])
                  refine wpAnyH_take (i := 5) (oi := _) (v := undef) (by simp only [List.getElem?_toArray, List.getElem?_cons_succ, List.getElem?_cons_zero]; rfl) (by kernel_rfl) (by kernel_rfl) (by kernel_rfl) (fun _ _ _ h => h) (Or.inr ⟨by rfl, rfl⟩) (by assumption) ?_
                  (try simp only [Act.put, List.setIfInBounds_toArray, List.set_cons_zero, List.set_cons_succ])
                  refine wpAnyH_take (i := 6) (oi := _) (v := undef) (by simp only [List.getElem?_toArray, List.getElem?_cons_succ, List.getElem?_cons_zero]; rfl) (by kernel_rfl) (by kernel_rfl) (by kernel_rfl) (fun _ _ _ h => h) (Or.inr ⟨by rfl, rfl⟩) (by assumption) ?_
                  (try simp only [Act.put, List.setIfInBounds_toArray, List.set_cons_zero, List.set_cons_succ])
                  refine wpAnyH_take (i := 7) (oi := _) (v := undef) (by simp only [List.getElem?_toArray, List.getElem?_cons_succ, List.getElem?_cons_zero]; rfl) (by kernel_rfl) (by kernel_rfl) (by kernel_rfl) (fun _ _ _ h => h) (Or.inr ⟨by rfl, rfl⟩) (by assumption) ?_
                  (try simp only [Act.put, List.setIfInBounds_toArray, List.set_cons_zero, List.set_cons_succ])
                  refine wpAnyH_take (i := 8) (oi := _) (v := undef) (by simp only [List.getElem?_toArray, List.getElem?_cons_succ, List.getElem?_cons_zero]; rfl) (by kernel_rfl) (by kernel_rfl) (by kernel_rfl) (fun _ _ _ h => h) (Or.inr ⟨by rfl, rfl⟩) (by assumption) ?_
                  (try simp only [Act.put, List.setIfInBounds_toArray, List.set_cons_zero, List.set_cons_succ])
                  refine wpAnyH_take (i := 9) (oi := _) (v := undef) (by simp only [List.getElem?_toArray, List.getElem?_cons_succ, List.getElem?_cons_zero]; rfl) (by kernel_rfl) (by kernel_rfl) (by kernel_rfl) (fun _ _ _ h => h) (Or.inr ⟨by rfl, rfl⟩) (by assumption) ?_
                  (try simp only [Act.put, List.setIfInBounds_toArray, List.set_cons_zero, List.set_cons_succ])
                  refine wpAnyH_take (i := 10) (oi := _) (v := undef) (by simp only [List.getElem?_toArray, List.getElem?_cons_succ, List.getElem?_cons_zero]; rfl) (by kernel_rfl) (by kernel_rfl) (by kernel_rfl) (fun _ _ _ h => h) (Or.inr ⟨by rfl, rfl⟩) (by assumption) ?_
                  (try simp only [Act.put, List.setIfInBounds_toArray, List.set_cons_zero, List.set_cons_succ])
                  refine wpAnyH_take (i := 11) (oi := _) (v := undef) (by simp only [List.getElem?_toArray, List.getElem?_cons_succ, List.getElem?_cons_zero]; rfl) (by kernel_rfl) (by kernel_rfl) (by kernel_rfl) (fun _ _ _ h => h) (Or.inr ⟨by rfl, rfl⟩) (by assumption) ?_
                  (try simp only [Act.put, List.setIfInBounds_toArray, List.set_cons_zero, List.set_cons_succ])
                  refine wpAnyH_take (i := 12) (oi := _) (v := undef) (by simp only [List.getElem?_toArray, List.getElem?_cons_succ, List.getElem?_cons_zero]; rfl) (by kernel_rfl) (by kernel_rfl) (by kernel_rfl) (fun _ _ _ h => h) (Or.inr ⟨by rfl, rfl⟩) (by assumption) ?_
                  (try simp only [Act.put, List.setIfInBounds_toArray, List.set_cons_zero, List.set_cons_succ])
                  refine wpAnyH_take (i := 13) (oi := _) (v := undef) (by simp only [List.getElem?_toArray, List.getElem?_cons_succ, List.getElem?_cons_zero]; rfl) (by kernel_rfl) (by kernel_rfl) (by kernel_rfl) (fun _ _ _ h => h) (Or.inr ⟨by rfl, rfl⟩) (by assumption) ?_
                  (try simp only [Act.put, List.setIfInBounds_toArray, List.set_cons_zero, List.set_cons_succ])
                  refine wpAnyH_take (i := 14) (oi := _) (v := ?_) (by simp only [List.getElem?_toArray, List.getElem?_cons_succ, List.getElem?_cons_zero]; rfl) (by kernel_rfl) (by kernel_rfl) (by kernel_rfl) (fun _ _ _ h => h) (Or.inl ⟨by rfl, ?_⟩) (by assumption) ?_
                  rotate_left
                  · (intro w hSw; (try dsimp only at hSw); go_simp; (try with_reducible rfl))
                  (try simp only [Act.put, List.setIfInBounds_toArray, List.set_cons_zero, List.set_cons_succ])
                  refine wpAnyH_done (by kernel_rfl) ?_ _
                  refine NoPanic.normal ?_
                  clear hH
                  go_wp2_with fail
                  go_roundw
                  case rel =>
                    have w3 := WI'.out
                    rw [HX.out] at w3
                    exact ⟨k + 1, inn, S', by have := MU.out; have := MU'.out; omega, by go_num, rfl, w3, by have := MU.out; have := MU'.out; omega, GS'.out, H4.out.kept (schE_stable.star none_stable) (by repeat (first | with_reducible (exact Keep.same _ _) | with_reducible (apply Keep.drew) | with_reducible (apply Keep.alloc)))⟩
                  case measure => simp [intOf]; omega
              · obtain ⟨i, t, x, hq0, hq1, hLq, ht, hrd, hx, hrx⟩ := round_some (picks := picks) (n := k) (S := S) rfl (by rw [PL.out]; exact h0)
                rw [PL.out] at hq0 hq1 hLq
                obtain ⟨q, hqz, hq⟩ : ∃ q : Nat, q = 0 ∧ pickI picks k L.length = (q : Int) := ⟨0, rfl, by unfold pickI; rw [List.getElem?_eq_none (by omega)]; rfl⟩
                rw [hq] at hq1 hLq
                simp only [Int.toNat_natCast] at hq1 hLq
                subst hqz
                clear hq0 hq
                obtain ⟨adl, rfl, hcl⟩ := R3.out.src.2 (by omega)
                have cl := hcl 0 (.int .i64 (i : Int)) (by unfold ints; rw [List.getElem?_map, hLq]; rfl)
                clear hcl
                rw [show adl.add 0 = adl from rfl] at cl
                have ST := Lib.hid (fun w' (hk' : Keep Nothing w2 w') => show Calls Try.prog 62 #[.pointer (some ⟨b, 0, none⟩), .int .i64 (i : Int)] w' (fun e w' => e = .returned (.tuple #[.agg #[.int .i64 (i : Int), .int .i64 (t.at_ : Int), .int .i64 (stepX S i t x).1], .int .i64 0]) ∧ Holds wq.heap.size wq w' (star (schE b bm (stepX S i t x).2) none_)) from e_step (H3.out.kept (schE_stable.star none_stable) hk') none_stable GS.out (by omega) i t ht hrd x hx)
                have GS' := Lib.hid (GS.out.step (x := x) ht hrd)
                obtain ⟨w1, w2', w3⟩ := ex_step K S inn WI.out i t x ht hrd hx
                have MU' := Lib.hid (mu_step (x := x) ht hrd)
                have WR := Lib.hid w1
                have WI' := Lib.hid w3
                obtain ⟨kk, hkk, hto⟩ := ex_ops WI.out.1 ht
                obtain ⟨adt, Ak, ck, rfl, hct, _⟩ := AO.out i (exO kk) (by rw [HM.out, List.getElem?_map, hkk]; rfl)
                have hil : i < Z.length := by
                  have h1 := (List.getElem?_eq_some_iff.1 hkk).1
                  have h2 := congrArg List.length HM.out
                  rw [List.length_map, List.length_map] at h2
                  omega
                have hm : ∃ m : Nat, m = (exO kk).length := ⟨_, rfl⟩
                obtain ⟨m, hm⟩ := hm
                rw [← hm] at hct
                have HML := Lib.hid (show t.ops.length = m ∧ 2 ≤ m ∧ m ≤ 7 by
                  have h1 := exO_len kk
                  have h2 : kk ≤ 5 := K5.out kk (List.mem_of_getElem? hkk)
                  rw [hto, hm]; omega)
                have CT := Lib.hid hct
                obtain ⟨m1, hm1⟩ : ∃ m1 : Int, m1 = (m : Int) - 1 := ⟨_, rfl⟩
                have hwA : IntKind.i64.wrap ((m : Int) - 1) = m1 := by rw [IntKind.wrap_i64]; have := HML.out; omega
                have hwB : wrap64 ((m : Int) - 1) = m1 := by unfold wrap64; have := HML.out; omega
                have HM1 := Lib.hid hm1
                have W2 := Lib.hid w2'
                clear ht hrd hx hrx hLq w1 w2' w3 hkk hto hct hm hm1
                generalize hS' : (stepX S i t x).2 = S' at *
                generalize her : (stepX S i t x).1 = er at *
                have er0 := WR.out
                subst er0
                obtain ⟨a, ha⟩ : ∃ a : Int, a = (t.at_ : Int) := ⟨_, rfl⟩
                rw [← ha] at ST
                have HA := Lib.hid ha
                clear hS' her ha
                rcases (show (0 < t.at_ ∧ t.at_ < m - 1) ∨ (0 < t.at_ ∧ ¬ t.at_ < m - 1) ∨ t.at_ = 0 by omega) with ⟨q1, q2⟩ | ⟨q1, q2⟩ | q1
                · have d1 : decide (0 < a) = true := decide_eq_true (by have := HA.out; omega)
                  have d2 : decide (a < m1) = true := decide_eq_true (by have := HA.out; have := HM1.out; omega)
                  have HX := Lib.hid (show innX inn i t.at_ t.ops.length = i by unfold innX; rw [if_pos ⟨q1, by rw [HML.out.1]; exact q2⟩])
                  rcases (W2.out q1 (by rw [HML.out.1]; exact q2)) with d3 | d3
                  · have d4 : decide (0 ≤ inn) = false := decide_eq_false (by omega)
                    clear q1 q2 d3
                    go_wp2_with fail
                    refine (ST.out _ (by repeat (first | with_reducible (exact Keep.same _ _) | with_reducible (apply Keep.drew) | with_reducible (apply Keep.alloc)))).mono ?_
                    rintro e w4 ⟨rfl, hh4⟩
                    have H4 := Lib.hid (hh4.alloc (schE_stable.star none_stable) (.cells #[.int .i64 (i : Int), .int .i64 a, .int .i64 0] 103))
                    have B4 := Blk.fresh w4 103 #[.int .i64 (i : Int), .int .i64 a, .int .i64 0]
                    have f0 := B4.cell 0
                    have f1 := B4.cell 1
                    have f2 := B4.cell 2
                    have ct := (Keep.of_below H4.out.below Nothing).cell CT.out (fun h => h)
                    have hH : (fun w' => w'.cell? ⟨w4.heap.size, 0, none⟩ = some (.int .i64 (i : Int)) ∧ w'.cell? ⟨w4.heap.size, 1, none⟩ = some (.int .i64 a) ∧ w'.cell? (adt.add i) = some (.slice Ak m ck)) (w4.alloc (.cells #[.int .i64 (i : Int), .int .i64 a, .int .i64 0] 103)) := ⟨f0, f1, ct⟩
                    dsimp only at hH
                    clear hh4 B4
                    go_wp2_with fail
                    refine wp_region_noPanic ?_
                    refine wp_region_held_drew (S := (fun w' => w'.cell? ⟨w4.heap.size, 0, none⟩ = some (.int .i64 (i : Int)) ∧ w'.cell? ⟨w4.heap.size, 1, none⟩ = some (.int .i64 a) ∧ w'.cell? (adt.add i) = some (.slice Ak m ck))) (by kernel_rfl) hH (fun hHeld => ?_)
                    refine wpAnyH_take (i := 0) (oi := _) (v := ?_) (by simp only [List.getElem?_toArray, List.getElem?_cons_succ, List.getElem?_cons_zero]; rfl) (by kernel_rfl) (by kernel_rfl) (by kernel_rfl) (fun _ _ _ h => h) (Or.inl ⟨by rfl, ?_⟩) (by assumption) ?_
                    rotate_left
                    · (intro w hSw; (try dsimp only at hSw); go_simp; (try with_reducible rfl))
                    (try simp only [Act.put, List.setIfInBounds_toArray, List.set_cons_zero, List.set_cons_succ])
                    refine wpAnyH_take (i := 1) (oi := _) (v := ?_) (by simp only [List.getElem?_toArray, List.getElem?_cons_succ, List.getElem?_cons_zero]; rfl) (by kernel_rfl) (by kernel_rfl) (by kernel_rfl) (fun _ _ _ h => h) (Or.inl ⟨by rfl, ?_⟩) (by assumption) ?_
                    rotate_left
                    · (intro w hSw; (try dsimp only at hSw); go_simp; (try with_reducible rfl))
                    (try simp only [Act.put, List.setIfInBounds_toArray, List.set_cons_zero, List.set_cons_succ])
                    refine wpAnyH_take (i := 2) (oi := _) (v := ?_) (by simp only [List.getElem?_toArray, List.getElem?_cons_succ, List.getElem?_cons_zero]; rfl) (by kernel_rfl) (by kernel_rfl) (by kernel_rfl) (fun _ _ _ h => h) (Or.inl ⟨by rfl, ?_⟩) (by assumption) ?_
                    rotate_left
                    · (intro w hSw; (try dsimp only at hSw); go_simp; (try with_reducible rfl))
                    (try simp only [Act.put, List.setIfInBounds_toArray, List.set_cons_zero, List.set_cons_succ])
                    refine wpAnyH_take (i := 3) (oi := _) (v := ?_) (by simp only [List.getElem?_toArray, List.getElem?_cons_succ, List.getElem?_cons_zero]; rfl) (by kernel_rfl) (by kernel_rfl) (by kernel_rfl) (fun _ _ _ h => h) (Or.inl ⟨by rfl, ?_⟩) (by assumption) ?_
                    rotate_left
                    · (intro w hSw; (try dsimp only at hSw); go_simp; (try with_reducible rfl))
                    (try simp only [Act.put, List.setIfInBounds_toArray, List.set_cons_zero, List.set_cons_succ])
                    refine wpAnyH_take (i := 4) (oi := _) (v := ?_) (by simp only [List.getElem?_toArray, List.getElem?_cons_succ, List.getElem?_cons_zero]; rfl) (by kernel_rfl) (by kernel_rfl) (by kernel_rfl) (fun _ _ _ h => h) (Or.inl ⟨by rfl, ?_⟩) (by assumption) ?_
                    rotate_left
                    · (intro w hSw; (try dsimp only at hSw); go_simp; (try with_reducible rfl))
                    (try simp only [Act.put, List.setIfInBounds_toArray, List.set_cons_zero, List.set_cons_succ])
                    refine wpAnyH_take (i := 5) (oi := _) (v := ?_) (by simp only [List.getElem?_toArray, List.getElem?_cons_succ, List.getElem?_cons_zero]; rfl) (by kernel_rfl) (by kernel_rfl) (by kernel_rfl) (fun _ _ _ h => h) (Or.inl ⟨by rfl, ?_⟩) (by assumption) ?_
                    rotate_left
                    · (intro w hSw; (try dsimp only at hSw); go_simp; (try with_reducible rfl))
                    (try simp only [Act.put, List.setIfInBounds_toArray, List.set_cons_zero, List.set_cons_succ])
                    refine wpAnyH_take (i := 6) (oi := _) (v := ?_) (by simp only [List.getElem?_toArray, List.getElem?_cons_succ, List.getElem?_cons_zero]; rfl) (by kernel_rfl) (by kernel_rfl) (by kernel_rfl) (fun _ _ _ h => h) (Or.inl ⟨by rfl, ?_⟩) (by assumption) ?_
                    rotate_left
                    · (intro w hSw; (try dsimp only at hSw); go_simp; (try with_reducible rfl))
                    (try simp only [Act.put, List.setIfInBounds_toArray, List.set_cons_zero, List.set_cons_succ])
                    refine wpAnyH_take (i := 7) (oi := _) (v := ?_) (by simp only [List.getElem?_toArray, List.getElem?_cons_succ, List.getElem?_cons_zero]; rfl) (by kernel_rfl) (by kernel_rfl) (by kernel_rfl) (fun _ _ _ h => h) (Or.inl ⟨by rfl, ?_⟩) (by assumption) ?_
                    rotate_left
                    · (intro w hSw; (try dsimp only at hSw); go_simp; (try with_reducible rfl))
                    (try simp only [Act.put, List.setIfInBounds_toArray, List.set_cons_zero, List.set_cons_succ])
                    refine wpAnyH_take (i := 8) (oi := _) (v := ?_) (by simp only [List.getElem?_toArray, List.getElem?_cons_succ, List.getElem?_cons_zero]; rfl) (by kernel_rfl) (by kernel_rfl) (by kernel_rfl) (fun _ _ _ h => h) (Or.inl ⟨by rfl, ?_⟩) (by assumption) ?_
                    rotate_left
                    · (intro w hSw; (try dsimp only at hSw); go_simp; (try with_reducible rfl))
                    (try simp only [Act.put, List.setIfInBounds_toArray, List.set_cons_zero, List.set_cons_succ])
                    refine wpAnyH_take (i := 9) (oi := _) (v := ?_) (by simp only [List.getElem?_toArray, List.getElem?_cons_succ, List.getElem?_cons_zero]; rfl) (by kernel_rfl) (by kernel_rfl) (by kernel_rfl) (fun _ _ _ h => h) (Or.inl ⟨by rfl, ?_⟩) (by assumption) ?_
                    rotate_left
                    · (intro w hSw; (try dsimp only at hSw); go_simp; (try with_reducible rfl))
                    (try simp only [Act.put, List.setIfInBounds_toArray, List.set_cons_zero, List.set_cons_succ])
                    refine wpAnyH_take (i := 10) (oi := _) (v := ?_) (by simp only [List.getElem?_toArray, List.getElem?_cons_succ, List.getElem?_cons_zero]; rfl) (by kernel_rfl) (by kernel_rfl) (by kernel_rfl) (fun _ _ _ h => h) (Or.inl ⟨by rfl, ?_⟩) (by assumption) ?_
                    rotate_left
                    · (intro w hSw; (try dsimp only at hSw); go_simp; (try with_reducible rfl))
                    (try simp only [Act.put, List.setIfInBounds_toArray, List.set_cons_zero, List.set_cons_succ])
                    refine wpAnyH_take (i := 11) (oi := _) (v := ?_) (by simp only [List.getElem?_toArray, List.getElem?_cons_succ, List.getElem?_cons_zero]; rfl) (by kernel_rfl) (by kernel_rfl) (by kernel_rfl) (fun _ _ _ h => h) (Or.inl ⟨by rfl, ?_⟩) (by assumption) ?_
                    rotate_left
                    · (intro w hSw; (try dsimp only at hSw); go_simp; (try with_reducible rfl))
                    (try simp only [Act.put, List.setIfInBounds_toArray, List.set_cons_zero, List.set_cons_succ])
                    refine wpAnyH_take (i := 12) (oi := _) (v := ?_) (by simp only [List.getElem?_toArray, List.getElem?_cons_succ, List.getElem?_cons_zero]; rfl) (by kernel_rfl) (by kernel_rfl) (by kernel_rfl) (fun _ _ _ h => h) (Or.inl ⟨by rfl, ?_⟩) (by assumption) ?_
                    rotate_left
                    · (intro w hSw; (try dsimp only at hSw); go_simp; (try with_reducible rfl))
                    (try simp only [Act.put, List.setIfInBounds_toArray, List.set_cons_zero, List.set_cons_succ])
                    refine wpAnyH_take (i := 13) (oi := _) (v := ?_) (by simp only [List.getElem?_toArray, List.getElem?_cons_succ, List.getElem?_cons_zero]; rfl) (by kernel_rfl) (by kernel_rfl) (by kernel_rfl) (fun _ _ _ h => h) (Or.inl ⟨by rfl, ?_⟩) (by assumption) ?_
                    rotate_left
                    · (intro w hSw; (try dsimp only at hSw); go_simp; (try with_reducible rfl))
                    (try simp only [Act.put, List.setIfInBounds_toArray, List.set_cons_zero, List.set_cons_succ])
                    refine wpAnyH_take (i := 14) (oi := _) (v := ?_) (by simp only [List.getElem?_toArray, List.getElem?_cons_succ, List.getElem?_cons_zero]; rfl) (by kernel_rfl) (by kernel_rfl) (by kernel_rfl) (fun _ _ _ h => h) (Or.inl ⟨by rfl, ?_⟩) (by assumption) ?_
                    rotate_left
                    · (intro w hSw; (try dsimp only at hSw); go_simp; (try with_reducible rfl))
                    (try simp only [Act.put, List.setIfInBounds_toArray, List.set_cons_zero, List.set_cons_succ])
                    refine wpAnyH_done (by kernel_rfl) ?_ _
                    refine NoPanic.normal ?_
                    clear hH
                    go_wp2_with fail
                    go_roundw
                    case rel =>
                      have w3 := WI'.out
                      rw [HX.out] at w3
                      exact ⟨k + 1, (i : Int), S', by have := MU.out; have := MU'.out; omega, by go_num, rfl, w3, by have := MU.out; have := MU'.out; omega, GS'.out, H4.out.kept (schE_stable.star none_stable) (by repeat (first | with_reducible (exact Keep.same _ _) | with_reducible (apply Keep.drew) | with_reducible (apply Keep.alloc)))⟩
                    case measure => simp [intOf]; omega
                  · have d4 : decide (0 ≤ inn) = true := decide_eq_true (by omega)
                    have d5 : (inn != (i : Int)) = false := by simp [d3]
                    clear q1 q2 d3
                    go_wp2_with fail
                    refine (ST.out _ (by repeat (first | with_reducible (exact Keep.same _ _) | with_reducible (apply Keep.drew) | with_reducible (apply Keep.alloc)))).mono ?_
                    rintro e w4 ⟨rfl, hh4⟩
                    have H4 := Lib.hid (hh4.alloc (schE_stable.star none_stable) (.cells #[.int .i64 (i : Int), .int .i64 a, .int .i64 0] 103))
                    have B4 := Blk.fresh w4 103 #[.int .i64 (i : Int), .int .i64 a, .int .i64 0]
                    have f0 := B4.cell 0
                    have f1 := B4.cell 1
                    have f2 := B4.cell 2
                    have ct := (Keep.of_below H4.out.below Nothing).cell CT.out (fun h => h)
                    have hH : (fun w' => w'.cell? ⟨w4.heap.size, 0, none⟩ = some (.int .i64 (i : Int)) ∧ w'.cell? ⟨w4.heap.size, 1, none⟩ = some (.int .i64 a) ∧ w'.cell? (adt.add i) = some (.slice Ak m ck)) (w4.alloc (.cells #[.int .i64 (i : Int), .int .i64 a, .int .i64 0] 103)) := ⟨f0, f1, ct⟩
                    dsimp only at hH
                    clear hh4 B4
                    go_wp2_with fail
                    refine wp_region_noPanic ?_
                    refine wp_region_held_drew (S := (fun w' => w'.cell? ⟨w4.heap.size, 0, none⟩ = some (.int .i64 (i : Int)) ∧ w'.cell? ⟨w4.heap.size, 1, none⟩ = some (.int .i64 a) ∧ w'.cell? (adt.add i) = some (.slice Ak m ck))) (by kernel_rfl) hH (fun hHeld => ?_)
                    refine wpAnyH_take (i := 0) (oi := _) (v := ?_) (by simp only [List.getElem?_toArray, List.getElem?_cons_succ, List.getElem?_cons_zero]; rfl) (by kernel_rfl) (by kernel_rfl) (by kernel_rfl) (fun _ _ _ h => h) (Or.inl ⟨by rfl, ?_⟩) (by assumption) ?_
                    rotate_left
                    · (intro w hSw; (try dsimp only at hSw); go_simp; (try with_reducible rfl))
                    (try simp only [Act.put, List.setIfInBounds_toArray, List.set_cons_zero, List.set_cons_succ])
                    refine wpAnyH_take (i := 1) (oi := _) (v := ?_) (by simp only [List.getElem?_toArray, List.getElem?_cons_succ, List.getElem?_cons_zero]; rfl) (by kernel_rfl) (by kernel_rfl) (by kernel_rfl) (fun _ _ _ h => h) (Or.inl ⟨by rfl, ?_⟩) (by assumption) ?_
                    rotate_left
                    · (intro w hSw; (try dsimp only at hSw); go_simp; (try with_reducible rfl))
                    (try simp only [Act.put, List.setIfInBounds_toArray, List.set_cons_zero, List.set_cons_succ])
                    refine wpAnyH_take (i := 2) (oi := _) (v := ?_) (by simp only [List.getElem?_toArray, List.getElem?_cons_succ, List.getElem?_cons_zero]; rfl) (by kernel_rfl) (by kernel_rfl) (by kernel_rfl) (fun _ _ _ h => h) (Or.inl ⟨by rfl, ?_⟩) (by assumption) ?_
                    rotate_left
                    · (intro w hSw; (try dsimp only at hSw); go_simp; (try with_reducible rfl))
                    (try simp only [Act.put, List.setIfInBounds_toArray, List.set_cons_zero, List.set_cons_succ])
                    refine wpAnyH_take (i := 3) (oi := _) (v := ?_) (by simp only [List.getElem?_toArray, List.getElem?_cons_succ, List.getElem?_cons_zero]; rfl) (by kernel_rfl) (by kernel_rfl) (by kernel_rfl) (fun _ _ _ h => h) (Or.inl ⟨by rfl, ?_⟩) (by assumption) ?_
                    rotate_left
                    · (intro w hSw; (try dsimp only at hSw); go_simp; (try with_reducible rfl))
                    (try simp only [Act.put, List.setIfInBounds_toArray, List.set_cons_zero, List.set_cons_succ])
                    refine wpAnyH_take (i := 4) (oi := _) (v := ?_) (by simp only [List.getElem?_toArray, List.getElem?_cons_succ, List.getElem?_cons_zero]; rfl) (by kernel_rfl) (by kernel_rfl) (by kernel_rfl) (fun _ _ _ h => h) (Or.inl ⟨by rfl, ?_⟩) (by assumption) ?_
                    rotate_left
                    · (intro w hSw; (try dsimp only at hSw); go_simp; (try with_reducible rfl))
                    (try simp only [Act.put, List.setIfInBounds_toArray, List.set_cons_zero, List.set_cons_succ])
                    refine wpAnyH_take (i := 5) (oi := _) (v := ?_) (by simp only [List.getElem?_toArray, List.getElem?_cons_succ, List.getElem?_cons_zero]; rfl) (by kernel_rfl) (by kernel_rfl) (by kernel_rfl) (fun _ _ _ h => h) (Or.inl ⟨by rfl, ?_⟩) (by assumption) ?_
                    rotate_left
                    · (intro w hSw; (try dsimp only at hSw); go_simp; (try with_reducible rfl))
                    (try simp only [Act.put, List.setIfInBounds_toArray, List.set_cons_zero, List.set_cons_succ])
                    refine wpAnyH_take (i := 6) (oi := _) (v := ?_) (by simp only [List.getElem?_toArray, List.getElem?_cons_succ, List.getElem?_cons_zero]; rfl) (by kernel_rfl) (by kernel_rfl) (by kernel_rfl) (fun _ _ _ h => h) (Or.inl ⟨by rfl, ?_⟩) (by assumption) ?_
                    rotate_left
                    · (intro w hSw; (try dsimp only at hSw); go_simp; (try with_reducible rfl))
                    (try simp only [Act.put, List.setIfInBounds_toArray, List.set_cons_zero, List.set_cons_succ])
                    refine wpAnyH_take (i := 7) (oi := _) (v := ?_) (by simp only [List.getElem?_toArray, List.getElem?_cons_succ, List.getElem?_cons_zero]; rfl) (by kernel_rfl) (by kernel_rfl) (by kernel_rfl) (fun _ _ _ h => h) (Or.inl ⟨by rfl, ?_⟩) (by assumption) ?_
                    rotate_left
                    · (intro w hSw; (try dsimp only at hSw); go_simp; (try with_reducible rfl))
                    (try simp only [Act.put, List.setIfInBounds_toArray, List.set_cons_zero, List.set_cons_succ])
                    refine wpAnyH_take (i := 8) (oi := _) (v := ?_) (by simp only [List.getElem?_toArray, List.getElem?_cons_succ, List.getElem?_cons_zero]; rfl) (by kernel_rfl) (by kernel_rfl) (by kernel_rfl) (fun _ _ _ h => h) (Or.inl ⟨by rfl, ?_⟩) (by assumption) ?_
                    rotate_left
                    · (intro w hSw; (try dsimp only at hSw); go_simp; (try with_reducible rfl))
                    (try simp only [Act.put, List.setIfInBounds_toArray, List.set_cons_zero, List.set_cons_succ])
                    refine wpAnyH_take (i := 9) (oi := _) (v := ?_) (by simp only [List.getElem?_toArray, List.getElem?_cons_succ, List.getElem?_cons_zero]; rfl) (by kernel_rfl) (by kernel_rfl) (by kernel_rfl) (fun _ _ _ h => h) (Or.inl ⟨by rfl, ?_⟩) (by assumption) ?_
                    rotate_left
                    · (intro w hSw; (try dsimp only at hSw); go_simp; (try with_reducible rfl))
                    (try simp only [Act.put, List.setIfInBounds_toArray, List.set_cons_zero, List.set_cons_succ])
                    refine wpAnyH_take (i := 10) (oi := _) (v := ?_) (by simp only [List.getElem?_toArray, List.getElem?_cons_succ, List.getElem?_cons_zero]; rfl) (by kernel_rfl) (by kernel_rfl) (by kernel_rfl) (fun _ _ _ h => h) (Or.inl ⟨by rfl, ?_⟩) (by assumption) ?_
                    rotate_left
                    · (intro w hSw; (try dsimp only at hSw); go_simp; (try with_reducible rfl))
                    (try simp only [Act.put, List.setIfInBounds_toArray, List.set_cons_zero, List.set_cons_succ])
                    refine wpAnyH_take (i := 11) (oi := _) (v := ?_) (by simp only [List.getElem?_toArray, List.getElem?_cons_succ, List.getElem?_cons_zero]; rfl) (by kernel_rfl) (by kernel_rfl) (by kernel_rfl) (fun _ _ _ h => h) (Or.inl ⟨by rfl, ?_⟩) (by assumption) ?_
                    rotate_left
                    · (intro w hSw; (try dsimp only at hSw); go_simp; (try with_reducible rfl))
                    (try simp only [Act.put, List.setIfInBounds_toArray, List.set_cons_zero, List.set_cons_succ])
                    refine wpAnyH_take (i := 12) (oi := _) (v := ?_) (by simp only [List.getElem?_toArray, List.getElem?_cons_succ, List.getElem?_cons_zero]; rfl) (by kernel_rfl) (by kernel_rfl) (by kernel_rfl) (fun _ _ _ h => h) (Or.inl ⟨by rfl, ?_⟩) (by assumption) ?_
                    rotate_left
                    · (intro w hSw; (try dsimp only at hSw); go_simp; (try with_reducible rfl))
                    (try simp only [Act.put, List.setIfInBounds_toArray, List.set_cons_zero, List.set_cons_succ])
                    refine wpAnyH_take (i := 13) (oi := _) (v := ?_) (by simp only [List.getElem?_toArray, List.getElem?_cons_succ, List.getElem?_cons_zero]; rfl) (by kernel_rfl) (by kernel_rfl) (by kernel_rfl) (fun _ _ _ h => h) (Or.inl ⟨by rfl, ?_⟩) (by assumption) ?_
                    rotate_left
                    · (intro w hSw; (try dsimp only at hSw); go_simp; (try with_reducible rfl))
                    (try simp only [Act.put, List.setIfInBounds_toArray, List.set_cons_zero, List.set_cons_succ])
                    refine wpAnyH_take (i := 14) (oi := _) (v := ?_) (by simp only [List.getElem?_toArray, List.getElem?_cons_succ, List.getElem?_cons_zero]; rfl) (by kernel_rfl) (by kernel_rfl) (by kernel_rfl) (fun _ _ _ h => h) (Or.inl ⟨by rfl, ?_⟩) (by assumption) ?_
                    rotate_left
                    · (intro w hSw; (try dsimp only at hSw); go_simp; (try with_reducible rfl))
                    (try simp only [Act.put, List.setIfInBounds_toArray, List.set_cons_zero, List.set_cons_succ])
                    refine wpAnyH_done (by kernel_rfl) ?_ _
                    refine NoPanic.normal ?_
                    clear hH
                    go_wp2_with fail
                    go_roundw
                    case rel =>
                      have w3 := WI'.out
                      rw [HX.out] at w3
                      exact ⟨k + 1, (i : Int), S', by have := MU.out; have := MU'.out; omega, by go_num, rfl, w3, by have := MU.out; have := MU'.out; omega, GS'.out, H4.out.kept (schE_stable.star none_stable) (by repeat (first | with_reducible (exact Keep.same _ _) | with_reducible (apply Keep.drew) | with_reducible (apply Keep.alloc)))⟩
                    case measure => simp [intOf]; omega
                · have d1 : decide (0 < a) = true := decide_eq_true (by have := HA.out; omega)
                  have d2 : decide (a < m1) = false := decide_eq_false (by have := HA.out; have := HM1.out; omega)
                  rcases Decidable.em (inn = (i : Int)) with d3 | d3
                  · have d5 : (inn == (i : Int)) = true := by simp [d3]
                    have HX := Lib.hid (show innX inn i t.at_ t.ops.length = -1 by unfold innX; rw [if_neg (fun h => q2 (by have := h.2; rw [HML.out.1] at this; exact this)), if_pos ⟨q1, d3⟩])
                    clear q1 q2 d3
                    go_wp2_with fail
                    refine (ST.out _ (by repeat (first | with_reducible (exact Keep.same _ _) | with_reducible (apply Keep.drew) | with_reducible (apply Keep.alloc)))).mono ?_
                    rintro e w4 ⟨rfl, hh4⟩
                    have H4 := Lib.hid (hh4.alloc (schE_stable.star none_stable) (.cells #[.int .i64 (i : Int), .int .i64 a, .int .i64 0] 103))
                    have B4 := Blk.fresh w4 103 #[.int .i64 (i : Int), .int .i64 a, .int .i64 0]
                    have f0 := B4.cell 0
                    have f1 := B4.cell 1
                    have f2 := B4.cell 2
                    have ct := (Keep.of_below H4.out.below Nothing).cell CT.out (fun h => h)
                    have hH : (fun w' => w'.cell? ⟨w4.heap.size, 0, none⟩ = some (.int .i64 (i : Int)) ∧ w'.cell? ⟨w4.heap.size, 1, none⟩ = some (.int .i64 a) ∧ w'.cell? (adt.add i) = some (.slice Ak m ck)) (w4.alloc (.cells #[.int .i64 (i : Int), .int .i64 a, .int .i64 0] 103)) := ⟨f0, f1, ct⟩
                    dsimp only at hH
                    clear hh4 B4
                    go_wp2_with fail
                    refine wp_region_noPanic ?_
                    refine wp_region_held_drew (S := (fun w' => w'.cell? ⟨w4.heap.size, 0, none⟩ = some (.int .i64 (i : Int)) ∧ w'.cell? ⟨w4.heap.size, 1, none⟩ = some (.int .i64 a) ∧ w'.cell? (adt.add i) = some (.slice Ak m ck))) (by kernel_rfl) hH (fun hHeld => ?_)
                    refine wpAnyH_take (i := 0) (oi := _) (v := ?_) (by simp only [List.getElem?_toArray, List.getElem?_cons_succ, List.getElem?_cons_zero]; rfl) (by kernel_rfl) (by kernel_rfl) (by kernel_rfl) (fun _ _ _ h => h) (Or.inl ⟨by rfl, ?_⟩) (by assumption) ?_
                    rotate_left
                    · (intro w hSw; (try dsimp only at hSw); go_simp; (try with_reducible rfl))
                    (try simp only [Act.put, List.setIfInBounds_toArray, List.set_cons_zero, List.set_cons_succ])
                    refine wpAnyH_take (i := 1) (oi := _) (v := ?_) (by simp only [List.getElem?_toArray, List.getElem?_cons_succ, List.getElem?_cons_zero]; rfl) (by kernel_rfl) (by kernel_rfl) (by kernel_rfl) (fun _ _ _ h => h) (Or.inl ⟨by rfl, ?_⟩) (by assumption) ?_
                    rotate_left
                    · (intro w hSw; (try dsimp only at hSw); go_simp; (try with_reducible rfl))
                    (try simp only [Act.put, List.setIfInBounds_toArray, List.set_cons_zero, List.set_cons_succ])
                    refine wpAnyH_take (i := 2) (oi := _) (v := ?_) (by simp only [List.getElem?_toArray, List.getElem?_cons_succ, List.getElem?_cons_zero]; rfl) (by kernel_rfl) (by kernel_rfl) (by kernel_rfl) (fun _ _ _ h => h) (Or.inl ⟨by rfl, ?_⟩) (by assumption) ?_
                    rotate_left
                    · (intro w hSw; (try dsimp only at hSw); go_simp; (try with_reducible rfl))
                    (try simp only [Act.put, List.setIfInBounds_toArray, List.set_cons_zero, List.set_cons_succ])
                    refine wpAnyH_take (i := 3) (oi := _) (v := ?_) (by simp only [List.getElem?_toArray, List.getElem?_cons_succ, List.getElem?_cons_zero]; rfl) (by kernel_rfl) (by kernel_rfl) (by kernel_rfl) (fun _ _ _ h => h) (Or.inl ⟨by rfl, ?_⟩) (by assumption) ?_
                    rotate_left
                    · (intro w hSw; (try dsimp only at hSw); go_simp; (try with_reducible rfl))
                    (try simp only [Act.put, List.setIfInBounds_toArray, List.set_cons_zero, List.set_cons_succ])
                    refine wpAnyH_take (i := 4) (oi := _) (v := ?_) (by simp only [List.getElem?_toArray, List.getElem?_cons_succ, List.getElem?_cons_zero]; rfl) (by kernel_rfl) (by kernel_rfl) (by kernel_rfl) (fun _ _ _ h => h) (Or.inl ⟨by rfl, ?_⟩) (by assumption) ?_
                    rotate_left
                    · (intro w hSw; (try dsimp only at hSw); go_simp; (try with_reducible rfl))
                    (try simp only [Act.put, List.setIfInBounds_toArray, List.set_cons_zero, List.set_cons_succ])
                    refine wpAnyH_take (i := 5) (oi := _) (v := ?_) (by simp only [List.getElem?_toArray, List.getElem?_cons_succ, List.getElem?_cons_zero]; rfl) (by kernel_rfl) (by kernel_rfl) (by kernel_rfl) (fun _ _ _ h => h) (Or.inl ⟨by rfl, ?_⟩) (by assumption) ?_
                    rotate_left
                    · (intro w hSw; (try dsimp only at hSw); go_simp; (try with_reducible rfl))
                    (try simp only [Act.put, List.setIfInBounds_toArray, List.set_cons_zero, List.set_cons_succ])
                    refine wpAnyH_take (i := 6) (oi := _) (v := ?_) (by simp only [List.getElem?_toArray, List.getElem?_cons_succ, List.getElem?_cons_zero]; rfl) (by kernel_rfl) (by kernel_rfl) (by kernel_rfl) (fun _ _ _ h => h) (Or.inl ⟨by rfl, ?_⟩) (by assumption) ?_
                    rotate_left
                    · (intro w hSw; (try dsimp only at hSw); go_simp; (try with_reducible rfl))
                    (try simp only [Act.put, List.setIfInBounds_toArray, List.set_cons_zero, List.set_cons_succ])
                    refine wpAnyH_take (i := 7) (oi := _) (v := ?_) (by simp only [List.getElem?_toArray, List.getElem?_cons_succ, List.getElem?_cons_zero]; rfl) (by kernel_rfl) (by kernel_rfl) (by kernel_rfl) (fun _ _ _ h => h) (Or.inl ⟨by rfl, ?_⟩) (by assumption) ?_
                    rotate_left
                    · (intro w hSw; (try dsimp only at hSw); go_simp; (try with_reducible rfl))
                    (try simp only [Act.put, List.setIfInBounds_toArray, List.set_cons_zero, List.set_cons_succ])
                    refine wpAnyH_take (i := 8) (oi := _) (v := ?_) (by simp only [List.getElem?_toArray, List.getElem?_cons_succ, List.getElem?_cons_zero]; rfl) (by kernel_rfl) (by kernel_rfl) (by kernel_rfl) (fun _ _ _ h => h) (Or.inl ⟨by rfl, ?_⟩) (by assumption) ?_
                    rotate_left
                    · (intro w hSw; (try dsimp only at hSw); go_simp; (try with_reducible rfl))
                    (try simp only [Act.put, List.setIfInBounds_toArray, List.set_cons_zero, List.set_cons_succ])
                    refine wpAnyH_take (i := 9) (oi := _) (v := ?_) (by simp only [List.getElem?_toArray, List.getElem?_cons_succ, List.getElem?_cons_zero]; rfl) (by kernel_rfl) (by kernel_rfl) (by kernel_rfl) (fun _ _ _ h => h) (Or.inl ⟨by rfl, ?_⟩) (by assumption) ?_
                    rotate_left
                    · (intro w hSw; (try dsimp only at hSw); go_simp; (try with_reducible rfl))
                    (try simp only [Act.put, List.setIfInBounds_toArray, List.set_cons_zero, List.set_cons_succ])
                    refine wpAnyH_take (i := 10) (oi := _) (v := ?_) (by simp only [List.getElem?_toArray, List.getElem?_cons_succ, List.getElem?_cons_zero]; rfl) (by kernel_rfl) (by kernel_rfl) (by kernel_rfl) (fun _ _ _ h => h) (Or.inl ⟨by rfl, ?_⟩) (by assumption) ?_
                    rotate_left
                    · (intro w hSw; (try dsimp only at hSw); go_simp; (try with_reducible rfl))
                    (try simp only [Act.put, List.setIfInBounds_toArray, List.set_cons_zero, List.set_cons_succ])
                    refine wpAnyH_take (i := 11) (oi := _) (v := ?_) (by simp only [List.getElem?_toArray, List.getElem?_cons_succ, List.getElem?_cons_zero]; rfl) (by kernel_rfl) (by kernel_rfl) (by kernel_rfl) (fun _ _ _ h => h) (Or.inl ⟨by rfl, ?_⟩) (by assumption) ?_
                    rotate_left
                    · (intro w hSw; (try dsimp only at hSw); go_simp; (try with_reducible rfl))
                    (try simp only [Act.put, List.setIfInBounds_toArray, List.set_cons_zero, List.set_cons_succ])
                    refine wpAnyH_take (i := 12) (oi := _) (v := ?_) (by simp only [List.getElem?_toArray, List.getElem?_cons_succ, List.getElem?_cons_zero]; rfl) (by kernel_rfl) (by kernel_rfl) (by kernel_rfl) (fun _ _ _ h => h) (Or.inl ⟨by rfl, ?_⟩) (by assumption) ?_
                    rotate_left
                    · (intro w hSw; (try dsimp only at hSw); go_simp; (try with_reducible rfl))
                    (try simp only [Act.put, List.setIfInBounds_toArray, List.set_cons_zero, List.set_cons_succ])
                    refine wpAnyH_take (i := 13) (oi := _) (v := ?_) (by simp only [List.getElem?_toArray, List.getElem?_cons_succ, List.getElem?_cons_zero]; rfl) (by kernel_rfl) (by kernel_rfl) (by kernel_rfl) (fun _ _ _ h => h) (Or.inl ⟨by rfl, ?_⟩) (by assumption) ?_
                    rotate_left
                    · (intro w hSw; (try dsimp only at hSw); go_simp; (try with_reducible rfl))
                    (try simp only [Act.put, List.setIfInBounds_toArray, List.set_cons_zero, List.set_cons_succ])
                    refine wpAnyH_take (i := 14) (oi := _) (v := ?_) (by simp only [List.getElem?_toArray, List.getElem?_cons_succ, List.getElem?_cons_zero]; rfl) (by kernel_rfl) (by kernel_rfl) (by kernel_rfl) (fun _ _ _ h => h) (Or.inl ⟨by rfl, ?_⟩) (by assumption) ?_
                    rotate_left
                    · (intro w hSw; (try dsimp only at hSw); go_simp; (try with_reducible rfl))
                    (try simp only [Act.put, List.setIfInBounds_toArray, List.set_cons_zero, List.set_cons_succ])
                    refine wpAnyH_done (by kernel_rfl) ?_ _
                    refine NoPanic.normal ?_
                    clear hH
                    go_wp2_with fail
                    go_roundw
                    case rel =>
                      have w3 := WI'.out
                      rw [HX.out] at w3
                      exact ⟨k + 1, (-1), S', by have := MU.out; have := MU'.out; omega, by go_num, rfl, w3, by have := MU.out; have := MU'.out; omega, GS'.out, H4.out.kept (schE_stable.star none_stable) (by repeat (first | with_reducible (exact Keep.same _ _) | with_reducible (apply Keep.drew) | with_reducible (apply Keep.alloc)))⟩
                    case measure => simp [intOf]; omega
                  · have d5 : (inn == (i : Int)) = false := by simp [d3]
                    have HX := Lib.hid (show innX inn i t.at_ t.ops.length = inn by unfold innX; rw [if_neg (fun h => q2 (by have := h.2; rw [HML.out.1] at this; exact this)), if_neg (fun h => d3 h.2)])
                    clear q1 q2 d3
                    go_wp2_with fail
                    refine (ST.out _ (by repeat (first | with_reducible (exact Keep.same _ _) | with_reducible (apply Keep.drew) | with_reducible (apply Keep.alloc)))).mono ?_
                    rintro e w4 ⟨rfl, hh4⟩
                    have H4 := Lib.hid (hh4.alloc (schE_stable.star none_stable) (.cells #[.int .i64 (i : Int), .int .i64 a, .int .i64 0] 103))
                    have B4 := Blk.fresh w4 103 #[.int .i64 (i : Int), .int .i64 a, .int .i64 0]
                    have f0 := B4.cell 0
                    have f1 := B4.cell 1
                    have f2 := B4.cell 2
                    have ct := (Keep.of_below H4.out.below Nothing).cell CT.out (fun h => h)
                    have hH : (fun w' => w'.cell? ⟨w4.heap.size, 0, none⟩ = some (.int .i64 (i : Int)) ∧ w'.cell? ⟨w4.heap.size, 1, none⟩ = some (.int .i64 a) ∧ w'.cell? (adt.add i) = some (.slice Ak m ck)) (w4.alloc (.cells #[.int .i64 (i : Int), .int .i64 a, .int .i64 0] 103)) := ⟨f0, f1, ct⟩
                    dsimp only at hH
                    clear hh4 B4
                    go_wp2_with fail
                    refine wp_region_noPanic ?_
                    refine wp_region_held_drew (S := (fun w' => w'.cell? ⟨w4.heap.size, 0, none⟩ = some (.int .i64 (i : Int)) ∧ w'.cell? ⟨w4.heap.size, 1, none⟩ = some (.int .i64 a) ∧ w'.cell? (adt.add i) = some (.slice Ak m ck))) (by kernel_rfl) hH (fun hHeld => ?_)
                    refine wpAnyH_take (i := 0) (oi := _) (v := ?_) (by simp only [List.getElem?_toArray, List.getElem?_cons_succ, List.getElem?_cons_zero]; rfl) (by kernel_rfl) (by kernel_rfl) (by kernel_rfl) (fun _ _ _ h => h) (Or.inl ⟨by rfl, ?_⟩) (by assumption) ?_
                    rotate_left
                    · (intro w hSw; (try dsimp only at hSw); go_simp; (try with_reducible rfl))
                    (try simp only [Act.put, List.setIfInBounds_toArray, List.set_cons_zero, List.set_cons_succ])
                    refine wpAnyH_take (i := 1) (oi := _) (v := ?_) (by simp only [List.getElem?_toArray, List.getElem?_cons_succ, List.getElem?_cons_zero]; rfl) (by kernel_rfl) (by kernel_rfl) (by kernel_rfl) (fun _ _ _ h => h) (Or.inl ⟨by rfl, ?_⟩) (by assumption) ?_
                    rotate_left
                    · (intro w hSw; (try dsimp only at hSw); go_simp; (try with_reducible rfl))
                    (try simp only [Act.put, List.setIfInBounds_toArray, List.set_cons_zero, List.set_cons_succ])
                    refine wpAnyH_take (i := 2) (oi := _) (v := ?_) (by simp only [List.getElem?_toArray, List.getElem?_cons_succ, List.getElem?_cons_zero]; rfl) (by kernel_rfl) (by kernel_rfl) (by kernel_rfl) (fun _ _ _ h => h) (Or.inl ⟨by rfl, ?_⟩) (by assumption) ?_
                    rotate_left
                    · (intro w hSw; (try dsimp only at hSw); go_simp; (try with_reducible rfl))
                    (try simp only [Act.put, List.setIfInBounds_toArray, List.set_cons_zero, List.set_cons_succ])
                    refine wpAnyH_take (i := 3) (oi := _) (v := ?_) (by simp only [List.getElem?_toArray, List.getElem?_cons_succ, List.getElem?_cons_zero]; rfl) (by kernel_rfl) (by kernel_rfl) (by kernel_rfl) (fun _ _ _ h => h) (Or.inl ⟨by rfl, ?_⟩) (by assumption) ?_
                    rotate_left
                    · (intro w hSw; (try dsimp only at hSw); go_simp; (try with_reducible rfl))
                    (try simp only [Act.put, List.setIfInBounds_toArray, List.set_cons_zero, List.set_cons_succ])
                    refine wpAnyH_take (i := 4) (oi := _) (v := ?_) (by simp only [List.getElem?_toArray, List.getElem?_cons_succ, List.getElem?_cons_zero]; rfl) (by kernel_rfl) (by kernel_rfl) (by kernel_rfl) (fun _ _ _ h => h) (Or.inl ⟨by rfl, ?_⟩) (by assumption) ?_
                    rotate_left
                    · (intro w hSw; (try dsimp only at hSw); go_simp; (try with_reducible rfl))
                    (try simp only [Act.put, List.setIfInBounds_toArray, List.set_cons_zero, List.set_cons_succ])
                    refine wpAnyH_take (i := 5) (oi := _) (v := ?_) (by simp only [List.getElem?_toArray, List.getElem?_cons_succ, List.getElem?_cons_zero]; rfl) (by kernel_rfl) (by kernel_rfl) (by kernel_rfl) (fun _ _ _ h => h) (Or.inl ⟨by rfl, ?_⟩) (by assumption) ?_
                    rotate_left
                    · (intro w hSw; (try dsimp only at hSw); go_simp; (try with_reducible rfl))
                    (try simp only [Act.put, List.setIfInBounds_toArray, List.set_cons_zero, List.set_cons_succ])
                    refine wpAnyH_take (i := 6) (oi := _) (v := ?_) (by simp only [List.getElem?_toArray, List.getElem?_cons_succ, List.getElem?_cons_zero]; rfl) (by kernel_rfl) (by kernel_rfl) (by kernel_rfl) (fun _ _ _ h => h) (Or.inl ⟨by rfl, ?_⟩) (by assumption) ?_
                    rotate_left
                    · (intro w hSw; (try dsimp only at hSw); go_simp; (try with_reducible rfl))
                    (try simp only [Act.put, List.setIfInBounds_toArray, List.set_cons_zero, List.set_cons_succ])
                    refine wpAnyH_take (i := 7) (oi := _) (v := ?_) (by simp only [List.getElem?_toArray, List.getElem?_cons_succ, List.getElem?_cons_zero]; rfl) (by kernel_rfl) (by kernel_rfl) (by kernel_rfl) (fun _ _ _ h => h) (Or.inl ⟨by rfl, ?_⟩) (by assumption) ?_
                    rotate_left
                    · (intro w hSw; (try dsimp only at hSw); go_simp; (try with_reducible rfl))
                    (try simp only [Act.put, List.setIfInBounds_toArray, List.set_cons_zero, List.set_cons_succ])
                    refine wpAnyH_take (i := 8) (oi := _) (v := ?_) (by simp only [List.getElem?_toArray, List.getElem?_cons_succ, List.getElem?_cons_zero]; rfl) (by kernel_rfl) (by kernel_rfl) (by kernel_rfl) (fun _ _ _ h => h) (Or.inl ⟨by rfl, ?_⟩) (by assumption) ?_
                    rotate_left
                    · (intro w hSw; (try dsimp only at hSw); go_simp; (try with_reducible rfl))
                    (try simp only [Act.put, List.setIfInBounds_toArray, List.set_cons_zero, List.set_cons_succ])
                    refine wpAnyH_take (i := 9) (oi := _) (v := ?_) (by simp only [List.getElem?_toArray, List.getElem?_cons_succ, List.getElem?_cons_zero]; rfl) (by kernel_rfl) (by kernel_rfl) (by kernel_rfl) (fun _ _ _ h => h) (Or.inl ⟨by rfl, ?_⟩) (by assumption) ?_
                    rotate_left
                    · (intro w hSw; (try dsimp only at hSw); go_simp; (try with_reducible rfl))
                    (try simp only [Act.put, List.setIfInBounds_toArray, List.set_cons_zero, List.set_cons_succ])
                    refine wpAnyH_take (i := 10) (oi := _) (v := ?_) (by simp only [List.getElem?_toArray, List.getElem?_cons_succ, List.getElem?_cons_zero]; rfl) (by kernel_rfl) (by kernel_rfl) (by kernel_rfl) (fun _ _ _ h => h) (Or.inl ⟨by rfl, ?_⟩) (by assumption) ?_
                    rotate_left
                    · (intro w hSw; (try dsimp only at hSw); go_simp; (try with_reducible rfl))
                    (try simp only [Act.put, List.setIfInBounds_toArray, List.set_cons_zero, List.set_cons_succ])
                    refine wpAnyH_take (i := 11) (oi := _) (v := ?_) (by simp only [List.getElem?_toArray, List.getElem?_cons_succ, List.getElem?_cons_zero]; rfl) (by kernel_rfl) (by kernel_rfl) (by kernel_rfl) (fun _ _ _ h => h) (Or.inl ⟨by rfl, ?_⟩) (by assumption) ?_
                    rotate_left
                    · (intro w hSw; (try dsimp only at hSw); go_simp; (try with_reducible rfl))
                    (try simp only [Act.put, List.setIfInBounds_toArray, List.set_cons_zero, List.set_cons_succ])
                    refine wpAnyH_take (i := 12) (oi := _) (v := ?_) (by simp only [List.getElem?_toArray, List.getElem?_cons_succ, List.getElem?_cons_zero]; rfl) (by kernel_rfl) (by kernel_rfl) (by kernel_rfl) (fun _ _ _ h => h) (Or.inl ⟨by rfl, ?_⟩) (by assumption) ?_
                    rotate_left
                    · (intro w hSw; (try dsimp only at hSw); go_simp; (try with_reducible rfl))
                    (try simp only [Act.put, List.setIfInBounds_toArray, List.set_cons_zero, List.set_cons_succ])
                    refine wpAnyH_take (i := 13) (oi := _) (v := ?_) (by simp only [List.getElem?_toArray, List.getElem?_cons_succ, List.getElem?_cons_zero]; rfl) (by kernel_rfl) (by kernel_rfl) (by kernel_rfl) (fun _ _ _ h => h) (Or.inl ⟨by rfl, ?_⟩) (by assumption) ?_
                    rotate_left
                    · (intro w hSw; (try dsimp only at hSw); go_simp; (try with_reducible rfl))
                    (try simp only [Act.put, List.setIfInBounds_toArray, List.set_cons_zero, List.set_cons_succ])
                    refine wpAnyH_take (i := 14) (oi := _) (v := ?_) (by simp only [List.getElem?_toArray, List.getElem?_cons_succ, List.getElem?_cons_zero]; rfl) (by kernel_rfl) (by kernel_rfl) (by kernel_rfl) (fun _ _ _ h => h) (Or.inl ⟨by rfl, ?_⟩) (by assumption) ?_
                    rotate_left
                    · (intro w hSw; (try dsimp only at hSw); go_simp; (try with_reducible rfl))
                    (try simp only [Act.put, List.setIfInBounds_toArray, List.set_cons_zero, List.set_cons_succ])
                    refine wpAnyH_done (by kernel_rfl) ?_ _
                    refine NoPanic.normal ?_
                    clear hH
                    go_wp2_with fail
                    go_roundw
                    case rel =>
                      have w3 := WI'.out
                      rw [HX.out] at w3
                      exact ⟨k + 1, inn, S', by have := MU.out; have := MU'.out; omega, by go_num, rfl, w3, by have := MU.out; have := MU'.out; omega, GS'.out, H4.out.kept (schE_stable.star none_stable) (by repeat (first | with_reducible (exact Keep.same _ _) | with_reducible (apply Keep.drew) | with_reducible (apply Keep.alloc)))⟩
                    case measure => simp [intOf]; omega
                · have d1 : decide (0 < a) = false := decide_eq_false (by have := HA.out; omega)
                  have HX := Lib.hid (show innX inn i t.at_ t.ops.length = inn by unfold innX; rw [if_neg (by omega), if_neg (by omega)])
                  clear q1
                  go_wp2_with fail
                  refine (ST.out _ (by repeat (first | with_reducible (exact Keep.same _ _) | with_reducible (apply Keep.drew) | with_reducible (apply Keep.alloc)))).mono ?_
                  rintro e w4 ⟨rfl, hh4⟩
                  have H4 := Lib.hid (hh4.alloc (schE_stable.star none_stable) (.cells #[.int .i64 (i : Int), .int .i64 a, .int .i64 0] 103))
                  have B4 := Blk.fresh w4 103 #[.int .i64 (i : Int), .int .i64 a, .int .i64 0]
                  have f0 := B4.cell 0
                  have f1 := B4.cell 1
                  have f2 := B4.cell 2
                  have ct := (Keep.of_below H4.out.below Nothing).cell CT.out (fun h => h)
                  have hH : (fun w' => w'.cell? ⟨w4.heap.size, 0, none⟩ = some (.int .i64 (i : Int)) ∧ w'.cell? ⟨w4.heap.size, 1, none⟩ = some (.int .i64 a) ∧ w'.cell? (adt.add i) = some (.slice Ak m ck)) (w4.alloc (.cells #[.int .i64 (i : Int), .int .i64 a, .int .i64 0] 103)) := ⟨f0, f1, ct⟩
                  dsimp only at hH
                  clear hh4 B4
                  go_wp2_with fail
                  refine wp_region_noPanic ?_
                  refine wp_region_held_drew (S := (fun w' => w'.cell? ⟨w4.heap.size, 0, none⟩ = some (.int .i64 (i : Int)) ∧ w'.cell? ⟨w4.heap.size, 1, none⟩ = some (.int .i64 a) ∧ w'.cell? (adt.add i) = some (.slice Ak m ck))) (by kernel_rfl) hH (fun hHeld => ?_)
                  refine wpAnyH_take (i := 0) (oi := _) (v := ?_) (by simp only [List.getElem?_toArray, List.getElem?_cons_succ, List.getElem?_cons_zero]; rfl) (by kernel_rfl) (by kernel_rfl) (by kernel_rfl) (fun _ _ _ h => h) (Or.inl ⟨by rfl, ?_⟩) (by assumption) ?_
                  rotate_left
                  · (intro w hSw; (try dsimp only at hSw); go_simp; (try with_reducible rfl))
                  (try simp only [Act.put, List.setIfInBounds_toArray, List.set_cons_zero, List.set_cons_succ])
                  refine wpAnyH_take (i := 1) (oi := _) (v := ?_) (by simp only [List.getElem?_toArray, List.getElem?_cons_succ, List.getElem?_cons_zero]; rfl) (by kernel_rfl) (by kernel_rfl) (by kernel_rfl) (fun _ _ _ h => h) (Or.inl ⟨by rfl, ?_⟩) (by assumption) ?_
                  rotate_left
                  · (intro w hSw; (try dsimp only at hSw); go_simp; (try with_reducible rfl))
                  (try simp only [Act.put, List.setIfInBounds_toArray, List.set_cons_zero, List.set_cons_succ])
                  refine wpAnyH_take (i := 2) (oi := _) (v := ?_) (by simp only [List.getElem?_toArray, List.getElem?_cons_succ, List.getElem?_cons_zero]; rfl) (by kernel_rfl) (by kernel_rfl) (by kernel_rfl) (fun _ _ _ h => h) (Or.inl ⟨by rfl, ?_⟩) (by assumption) ?_
                  rotate_left
                  · (intro w hSw; (try dsimp only at hSw); go_simp; (try with_reducible rfl))
                  (try simp only [Act.put, List.setIfInBounds_toArray, List.set_cons_zero, List.set_cons_succ])
                  refine wpAnyH_take (i := 3) (oi := _) (v := ?_) (by simp only [List.getElem?_toArray, List.getElem?_cons_succ, List.getElem?_cons_zero]; rfl) (by kernel_rfl) (by kernel_rfl) (by kernel_rfl) (fun _ _ _ h => h) (Or.inl ⟨by rfl, ?_⟩) (by assumption) ?_
                  rotate_left
                  · (intro w hSw; (try dsimp only at hSw); go_simp; (try with_reducible rfl))
                  (try simp only [Act.put, List.setIfInBounds_toArray, List.set_cons_zero, List.set_cons_succ])
                  refine wpAnyH_take (i := 4) (oi := _) (v := undef) (by simp only [List.getElem?_toArray, List.getElem?_cons_succ, List.getElem?_cons_zero]; rfl) (by kernel_rfl) (by kernel_rfl) (by kernel_rfl) (fun _ _ _ h => h) (Or.inr ⟨by rfl, rfl⟩) (by assumption) ?_
                  (try simp only [Act.put, List.setIfInBounds_toArray, List.set_cons_zero, List.set_cons_succ])
                  refine wpAnyH_take (i := 5) (oi := _) (v := undef) (by simp only [List.getElem?_toArray, List.getElem?_cons_succ, List.getElem?_cons_zero]; rfl) (by kernel_rfl) (by kernel_rfl) (by kernel_rfl) (fun _ _ _ h => h) (Or.inr ⟨by rfl, rfl⟩) (by assumption) ?_
                  (try simp only [Act.put, List.setIfInBounds_toArray, List.set_cons_zero, List.set_cons_succ])
                  refine wpAnyH_take (i := 6) (oi := _) (v := undef) (by simp only [List.getElem?_toArray, List.getElem?_cons_succ, List.getElem?_cons_zero]; rfl) (by kernel_rfl) (by kernel_rfl) (by kernel_rfl) (fun _ _ _ h => h) (Or.inr ⟨by rfl, rfl⟩) (by assumption) ?_
                  (try simp only [Act.put, List.setIfInBounds_toArray, List.set_cons_zero, List.set_cons_succ])
                  refine wpAnyH_take (i := 7) (oi := _) (v := undef) (by simp only [List.getElem?_toArray, List.getElem?_cons_succ, List.getElem?_cons_zero]; rfl) (by kernel_rfl) (by kernel_rfl) (by kernel_rfl) (fun _ _ _ h => h) (Or.inr ⟨by rfl, rfl⟩) (by assumption) ?_
                  (try simp only [Act.put, List.setIfInBounds_toArray, List.set_cons_zero, List.set_cons_succ])
                  refine wpAnyH_take (i := 8) (oi := _) (v := undef) (by simp only [List.getElem?_toArray, List.getElem?_cons_succ, List.getElem?_cons_zero]; rfl) (by kernel_rfl) (by kernel_rfl) (by kernel_rfl) (fun _ _ _ h => h) (Or.inr ⟨by rfl, rfl⟩) (by assumption) ?_
                  (try simp only [Act.put, List.setIfInBounds_toArray, List.set_cons_zero, List.set_cons_succ])
                  refine wpAnyH_take (i := 9) (oi := _) (v := undef) (by simp only [List.getElem?_toArray, List.getElem?_cons_succ, List.getElem?_cons_zero]; rfl) (by kernel_rfl) (by kernel_rfl) (by kernel_rfl) (fun _ _ _ h => h) (Or.inr ⟨by rfl, rfl⟩) (by assumption) ?_
                  (try simp only [Act.put, List.setIfInBounds_toArray, List.set_cons_zero, List.set_cons_succ])
                  refine wpAnyH_take (i := 10) (oi := _) (v := undef) (by simp only [List.getElem?_toArray, List.getElem?_cons_succ, List.getElem?_cons_zero]; rfl) (by kernel_rfl) (by kernel_rfl) (by kernel_rfl) (fun _ _ _ h => h) (Or.inr ⟨by rfl, rfl⟩) (by assumption) ?_
                  (try simp only [Act.put, List.setIfInBounds_toArray, List.set_cons_zero, List.set_cons_succ])
                  refine wpAnyH_take (i := 11) (oi := _) (v := undef) (by simp only [List.getElem?_toArray, List.getElem?_cons_succ, List.getElem?_cons_zero]; rfl) (by kernel_rfl) (by kernel_rfl) (by kernel_rfl) (fun _ _ _ h => h) (Or.inr ⟨by rfl, rfl⟩) (by assumption) ?_
                  (try simp only [Act.put, List.setIfInBounds_toArray, List.set_cons_zero, List.set_cons_succ])
                  refine wpAnyH_take (i := 12) (oi := _) (v := undef) (by simp only [List.getElem?_toArray, List.getElem?_cons_succ, List.getElem?_cons_zero]; rfl) (by kernel_rfl) (by kernel_rfl) (by kernel_rfl) (fun _ _ _ h => h) (Or.inr ⟨by rfl, rfl⟩) (by assumption) ?_
                  (try simp only [Act.put, List.setIfInBounds_toArray, List.set_cons_zero, List.set_cons_succ])
                  refine wpAnyH_take (i := 13) (oi := _) (v := undef) (by simp only [List.getElem?_toArray, List.getElem?_cons_succ, List.getElem?_cons_zero]; rfl) (by kernel_rfl) (by kernel_rfl) (by kernel_rfl) (fun _ _ _ h => h) (Or.inr ⟨by rfl, rfl⟩) (by assumption) ?_
                  (try simp only [Act.put, List.setIfInBounds_toArray, List.set_cons_zero, List.set_cons_succ])
                  refine wpAnyH_take (i := 14) (oi := _) (v := ?_) (by simp only [List.getElem?_toArray, List.getElem?_cons_succ, List.getElem?_cons_zero]; rfl) (by kernel_rfl) (by kernel_rfl) (by kernel_rfl) (fun _ _ _ h => h) (Or.inl ⟨by rfl, ?_⟩) (by assumption) ?_
                  rotate_left
                  · (intro w hSw; (try dsimp only at hSw); go_simp; (try with_reducible rfl))
                  (try simp only [Act.put, List.setIfInBounds_toArray, List.set_cons_zero, List.set_cons_succ])
                  refine wpAnyH_done (by kernel_rfl) ?_ _
                  refine NoPanic.normal ?_
                  clear hH
                  go_wp2_with fail
                  go_roundw
                  case rel =>
                    have w3 := WI'.out
                    rw [HX.out] at w3
                    exact ⟨k + 1, inn, S', by have := MU.out; have := MU'.out; omega, by go_num, rfl, w3, by have := MU.out; have := MU'.out; omega, GS'.out, H4.out.kept (schE_stable.star none_stable) (by repeat (first | with_reducible (exact Keep.same _ _) | with_reducible (apply Keep.drew) | with_reducible (apply Keep.alloc)))⟩
                  case measure => simp [intOf]; omega
      · clear hlt
        subst hk8
        have KF := (rfl : (ys.take 8).map clampN = (ys.take 8).map clampN)
        have hZm := HM.out
        rw [KF] at hZm
        obtain ⟨K, hK⟩ : ∃ K, K = (ys.take 8).map clampN := ⟨_, rfl⟩
        rw [← hK] at hZm
        have K5 := Lib.hid (show ∀ q ∈ K, q ≤ 5 from fun q hq => by
          rw [hK] at hq
          obtain ⟨y, _, rfl⟩ := List.mem_map.1 hq
          exact clampN_le y)
        have K8 := Lib.hid (show K.length ≤ 8 by rw [hK, List.length_map, List.length_take]; omega)
        clear HM KF hK
        have HM := Lib.hid hZm
        have hpl : picks.length = np := by have := HP.out.1; rw [ints, List.length_map] at this; omega
        clear hZm hk hk1 hyl hny
        by_cases hbig : 1000 < np
        · go_wp2_with fail
          refine (awake54 _).mono ?_
          rintro e w6 ⟨rfl, hk6⟩
          have H6 := Lib.hid (HH.out.kept ((tksP_stable _ _).star none_stable) (Keep.then (by repeat (first | with_reducible (exact Keep.same _ _) | with_reducible (apply Keep.drew) | with_reducible (apply Keep.alloc))) hk6))
          clear hk6
          go_wp2_with fail
          go_ret
          exact ⟨rfl, Keep.of_below H6.out.below _⟩
        · obtain ⟨wq, hwq⟩ : ∃ wq, wq = wr := ⟨_, rfl⟩
          have AO := Lib.hid (tks_args HH.out (fun z hz => by
            have h1 : z.2 ∈ Z.map (·.2) := List.mem_map_of_mem hz
            rw [HM.out] at h1
            obtain ⟨q, hq, e⟩ := List.mem_map.1 h1
            have := K5.out q hq
            rw [← e, exO_len]; omega))
          have KWQ := Lib.hid (Keep.of_below HH.out.below Nothing)
          have G0 := Lib.hid (new_good (K.map exO) (fun l hl => by
            obtain ⟨q, hq, e⟩ := List.mem_map.1 hl
            have := K5.out q hq
            refine ⟨by rw [← e, exO_len]; omega, fun x hx => ?_⟩
            rw [← e] at hx
            unfold exO at hx
            rcases List.mem_cons.1 hx with rfl | hx
            · exact ⟨by decide, by decide⟩
            · rcases List.mem_append.1 hx with hx | hx
              · rw [List.eq_of_mem_replicate hx]; exact ⟨by decide, by decide⟩
              · rw [List.mem_singleton.1 hx]; exact ⟨by decide, by decide⟩) (by rw [List.length_map]; have := K8.out; omega))
          have NEW := Lib.hid (e_new wr A c (K.map exO) (by rw [← HM.out]; exact AO.out) (by rw [List.length_map]; have := K8.out; omega))
          rw [show (K.map exO).length = Z.length by rw [← HM.out, List.length_map]] at NEW
          have MU0 := Lib.hid (show mu (newS (K.map exO)).T ≤ 56 by have := ex_mu K K5.out; have := K8.out; omega)
          have W0 := Lib.hid (ex_first K)
          rw [← hwq] at AO KWQ NEW
          have HWQ := Lib.hid hwq
          clear hwq
          go_wp2_with fail
          rw [← HWQ.out]
          refine NEW.out.mono ?_
          rintro e wn ⟨b, bm, rfl, hh⟩
          have HS := Lib.hid hh
          generalize newS (K.map exO) = S1 at *
          clear hh
          go_wp2_with fail
          go_loopw [10, 11] (fun nv iv wr => ∃ (k : Nat) (inn : Int) (S : PS), k ≤ 60 ∧ iv = .int .i64 k ∧ nv = .int .i64 inn ∧ ExI K S inn ∧ mu S.T + k ≤ 56 ∧ GoodS S k ∧ Holds wq.heap.size wq wr (star (schE b bm S) none_)) (fun _ iv _ => 200 - (intOf iv).toNat)
          case atStart => exact ⟨0, -1, S1, by omega, by simp, rfl, W0.out, by have := MU0.out; omega, G0.out, HS.out⟩
          case round =>
            obtain ⟨k, inn, S, hk, rfl, rfl, hwi, hmu, hgS, hh⟩ := hrel
            have hD := trivial
            have HH := Lib.hid hh
            have GS := Lib.hid hgS
            have WI := Lib.hid hwi
            have MU := Lib.hid hmu
            have HDD := Lib.hid hD
            have HE := HH
            have RD := Lib.hid (fun w' (hk' : Keep Nothing wr w') => e_ready (hh.kept (schE_stable.star none_stable) hk') hgS.len)
            have hk200 : k < 200 := by omega
            clear hh hgS hwi hmu hD
            go_wp2_with fail
            refine (RD.out _ (by repeat (first | with_reducible (exact Keep.same _ _) | with_reducible (apply Keep.drew) | with_reducible (apply Keep.alloc)))).mono ?_
            generalize hPL : pickT Tk.ready S.T S.T.length = L
            rintro e w2 ⟨A3, c3, rfl, hr3, hk3, hf3⟩
            have R3 := Lib.hid hr3
            have hkk := (Keep.then (by repeat (first | with_reducible (exact Keep.same _ _) | with_reducible (apply Keep.drew) | with_reducible (apply Keep.alloc))) hk3 : Keep Nothing wr w2)
            have H3 := Lib.hid (HE.out.kept (schE_stable.star none_stable) hkk)
            have hLl : L.length ≤ 1000000 := by have := pickT_len Tk.ready S.T S.T.length; have := GS.out.len; rw [← hPL]; omega
            have PL := Lib.hid hPL
            clear hk3 hr3 hf3 hkk hPL
            rcases Nat.eq_zero_or_pos L.length with h0 | h0
            · have NR := Lib.hid (show ∀ t ∈ S.T, t.ready = false by
                rcases round_case picks k S with ⟨_, h⟩ | ⟨i, t, x, ht, hr, hx, he⟩
                · exact h
                · rw [round_none (by rw [PL.out]; exact h0)] at he
                  cases he)
              have EE := Lib.hid (ex_end K S inn WI.out NR.out)
              have ED := Lib.hid (fun w' (hk' : Keep Nothing w2 w') => e_ended (H3.out.kept (schE_stable.star none_stable) hk') GS.out.len)
              have hz : ((L.length : Int) == 0) = true := by rw [beq_iff_eq]; omega
              go_wp2_with fail
              refine (ED.out _ (by repeat (first | with_reducible (exact Keep.same _ _) | with_reducible (apply Keep.drew) | with_reducible (apply Keep.alloc)))).mono ?_
              rintro e w5 ⟨rfl, hk5⟩
              rw [EE.out]
              have K5 := Lib.hid (Keep.then (by repeat (first | with_reducible (exact Keep.same _ _) | with_reducible (apply Keep.drew) | with_reducible (apply Keep.alloc))) hk5 : Keep Nothing w2 w5)
              clear hk5
              go_wp2_with fail
              refine (awake54 _).mono ?_
              rintro e w6 ⟨rfl, hk6⟩
              have K6 := Lib.hid ((KWQ.out.then (Keep.of_below H3.out.below Nothing)).then (K5.out.then (Keep.then (by repeat (first | with_reducible (exact Keep.same _ _) | with_reducible (apply Keep.drew) | with_reducible (apply Keep.alloc))) hk6)))
              clear hk6
              go_wp2_with fail
              go_ret
              exact ⟨rfl, K6.out⟩
            · have hz : ((L.length : Int) == 0) = false := by rw [beq_eq_false_iff_ne]; omega
              by_cases hkn : k < np
              · obtain ⟨pk, hpk⟩ : ∃ pk, picks[k]? = some pk := ⟨_, List.getElem?_eq_getElem (by rw [hpl]; exact hkn)⟩
                obtain ⟨i, t, x, hq0, hq1, hLq, ht, hrd, hx, hrx⟩ := round_some (picks := picks) (n := k) (S := S) rfl (by rw [PL.out]; exact h0)
                rw [PL.out] at hq0 hq1 hLq
                have hpi : pickI picks k L.length = (pk.tmod (L.length : Int) + L.length).tmod L.length := by unfold pickI; rw [hpk]
                obtain ⟨q, hq⟩ : ∃ q : Nat, pickI picks k L.length = (q : Int) := ⟨_, (Int.toNat_of_nonneg hq0).symm⟩
                rw [hq] at hq1 hLq hpi
                simp only [Int.toNat_natCast] at hq1 hLq
                have hw : wrap64 (pk.tmod (L.length : Int) + L.length) = pk.tmod (L.length : Int) + L.length := by
                  have h1 := Int.lt_tmod_of_pos pk (show (0 : Int) < L.length by omega)
                  have h2 := Int.tmod_lt_of_pos pk (show (0 : Int) < L.length by omega)
                  exact wrap64_in (by omega) (by omega)
                have hw2 : (wrap64 (pk.tmod (L.length : Int) + L.length)).tmod (L.length : Int) = (q : Int) := by rw [hw, hpi]
                obtain ⟨adp, rfl, hcp⟩ := HP.out.2 (by omega)
                have KB := Lib.hid (KWQ.out.then (Keep.of_below H3.out.below Nothing))
                have cp := KB.out.cell (hcp k (.int .i64 pk) (by unfold ints; rw [List.getElem?_map, hpk]; rfl)) (fun h => h)
                clear hcp hq0 hpk hpi hw hq
                obtain ⟨adl, rfl, hcl⟩ := R3.out.src.2 (by omega)
                have cl := hcl q (.int .i64 (i : Int)) (by unfold ints; rw [List.getElem?_map, hLq]; rfl)
                clear hcl
                have ST := Lib.hid (fun w' (hk' : Keep Nothing w2 w') => show Calls Try.prog 62 #[.pointer (some ⟨b, 0, none⟩), .int .i64 (i : Int)] w' (fun e w' => e = .returned (.tuple #[.agg #[.int .i64 (i : Int), .int .i64 (t.at_ : Int), .int .i64 (stepX S i t x).1], .int .i64 0]) ∧ Holds wq.heap.size wq w' (star (schE b bm (stepX S i t x).2) none_)) from e_step (H3.out.kept (schE_stable.star none_stable) hk') none_stable GS.out (by omega) i t ht hrd x hx)
                have GS' := Lib.hid (GS.out.step (x := x) ht hrd)
                obtain ⟨w1, w2', w3⟩ := ex_step K S inn WI.out i t x ht hrd hx
                have MU' := Lib.hid (mu_step (x := x) ht hrd)
                have WR := Lib.hid w1
                have WI' := Lib.hid w3
                obtain ⟨kk, hkk, hto⟩ := ex_ops WI.out.1 ht
                obtain ⟨adt, Ak, ck, rfl, hct, _⟩ := AO.out i (exO kk) (by rw [HM.out, List.getElem?_map, hkk]; rfl)
                have hil : i < Z.length := by
                  have h1 := (List.getElem?_eq_some_iff.1 hkk).1
                  have h2 := congrArg List.length HM.out
                  rw [List.length_map, List.length_map] at h2
                  omega
                have hm : ∃ m : Nat, m = (exO kk).length := ⟨_, rfl⟩
                obtain ⟨m, hm⟩ := hm
                rw [← hm] at hct
                have HML := Lib.hid (show t.ops.length = m ∧ 2 ≤ m ∧ m ≤ 7 by
                  have h1 := exO_len kk
                  have h2 : kk ≤ 5 := K5.out kk (List.mem_of_getElem? hkk)
                  rw [hto, hm]; omega)
                have CT := Lib.hid hct
                obtain ⟨m1, hm1⟩ : ∃ m1 : Int, m1 = (m : Int) - 1 := ⟨_, rfl⟩
                have hwA : IntKind.i64.wrap ((m : Int) - 1) = m1 := by rw [IntKind.wrap_i64]; have := HML.out; omega
                have hwB : wrap64 ((m : Int) - 1) = m1 := by unfold wrap64; have := HML.out; omega
                have HM1 := Lib.hid hm1
                have W2 := Lib.hid w2'
                clear ht hrd hx hrx hLq w1 w2' w3 hkk hto hct hm hm1
                generalize hS' : (stepX S i t x).2 = S' at *
                generalize her : (stepX S i t x).1 = er at *
                have er0 := WR.out
                subst er0
                obtain ⟨a, ha⟩ : ∃ a : Int, a = (t.at_ : Int) := ⟨_, rfl⟩
                rw [← ha] at ST
                have HA := Lib.hid ha
                clear hS' her ha
                rcases (show (0 < t.at_ ∧ t.at_ < m - 1) ∨ (0 < t.at_ ∧ ¬ t.at_ < m - 1) ∨ t.at_ = 0 by omega) with ⟨q1, q2⟩ | ⟨q1, q2⟩ | q1
                · have d1 : decide (0 < a) = true := decide_eq_true (by have := HA.out; omega)
                  have d2 : decide (a < m1) = true := decide_eq_true (by have := HA.out; have := HM1.out; omega)
                  have HX := Lib.hid (show innX inn i t.at_ t.ops.length = i by unfold innX; rw [if_pos ⟨q1, by rw [HML.out.1]; exact q2⟩])
                  rcases (W2.out q1 (by rw [HML.out.1]; exact q2)) with d3 | d3
                  · have d4 : decide (0 ≤ inn) = false := decide_eq_false (by omega)
                    clear q1 q2 d3
                    go_wp2_with fail
                    refine (ST.out _ (by repeat (first | with_reducible (exact Keep.same _ _) | with_reducible (apply Keep.drew) | with_reducible (apply Keep.alloc)))).mono ?_
                    rintro e w4 ⟨rfl, hh4⟩
                    have H4 := Lib.hid (hh4.alloc (schE_stable.star none_stable) (.cells #[.int .i64 (i : Int), .int .i64 a, .int .i64 0] 103))
                    have B4 := Blk.fresh w4 103 #[.int .i64 (i : Int), .int .i64 a, .int .i64 0]
                    have f0 := B4.cell 0
                    have f1 := B4.cell 1
                    have f2 := B4.cell 2
                    have ct := (Keep.of_below H4.out.below Nothing).cell CT.out (fun h => h)
                    have hH : (fun w' => w'.cell? ⟨w4.heap.size, 0, none⟩ = some (.int .i64 (i : Int)) ∧ w'.cell? ⟨w4.heap.size, 1, none⟩ = some (.int .i64 a) ∧ w'.cell? (adt.add i) = some (.slice Ak m ck)) (w4.alloc (.cells #[.int .i64 (i : Int), .int .i64 a, .int .i64 0] 103)) := ⟨f0, f1, ct⟩
                    dsimp only at hH
                    clear hh4 B4
                    go_wp2_with fail
                    refine wp_region_noPanic ?_
                    refine wp_region_held_drew (S := (fun w' => w'.cell? ⟨w4.heap.size, 0, none⟩ = some (.int .i64 (i : Int)) ∧ w'.cell? ⟨w4.heap.size, 1, none⟩ = some (.int .i64 a) ∧ w'.cell? (adt.add i) = some (.slice Ak m ck))) (by kernel_rfl) hH (fun hHeld => ?_)
                    refine wpAnyH_take (i := 0) (oi := _) (v := ?_) (by simp only [List.getElem?_toArray, List.getElem?_cons_succ, List.getElem?_cons_zero]; rfl) (by kernel_rfl) (by kernel_rfl) (by kernel_rfl) (fun _ _ _ h => h) (Or.inl ⟨by rfl, ?_⟩) (by assumption) ?_
                    rotate_left
                    · (intro w hSw; (try dsimp only at hSw); go_simp; (try with_reducible rfl))
                    (try simp only [Act.put, List.setIfInBounds_toArray, List.set_cons_zero, List.set_cons_succ])
                    refine wpAnyH_take (i := 1) (oi := _) (v := ?_) (by simp only [List.getElem?_toArray, List.getElem?_cons_succ, List.getElem?_cons_zero]; rfl) (by kernel_rfl) (by kernel_rfl) (by kernel_rfl) (fun _ _ _ h => h) (Or.inl ⟨by rfl, ?_⟩) (by assumption) ?_
                    rotate_left
                    · (intro w hSw; (try dsimp only at hSw); go_simp; (try with_reducible rfl))
                    (try simp only [Act.put, List.setIfInBounds_toArray, List.set_cons_zero, List.set_cons_succ])
                    refine wpAnyH_take (i := 2) (oi := _) (v := ?_) (by simp only [List.getElem?_toArray, List.getElem?_cons_succ, List.getElem?_cons_zero]; rfl) (by kernel_rfl) (by kernel_rfl) (by kernel_rfl) (fun _ _ _ h => h) (Or.inl ⟨by rfl, ?_⟩) (by assumption) ?_
                    rotate_left
                    · (intro w hSw; (try dsimp only at hSw); go_simp; (try with_reducible rfl))
                    (try simp only [Act.put, List.setIfInBounds_toArray, List.set_cons_zero, List.set_cons_succ])
                    refine wpAnyH_take (i := 3) (oi := _) (v := ?_) (by simp only [List.getElem?_toArray, List.getElem?_cons_succ, List.getElem?_cons_zero]; rfl) (by kernel_rfl) (by kernel_rfl) (by kernel_rfl) (fun _ _ _ h => h) (Or.inl ⟨by rfl, ?_⟩) (by assumption) ?_
                    rotate_left
                    · (intro w hSw; (try dsimp only at hSw); go_simp; (try with_reducible rfl))
                    (try simp only [Act.put, List.setIfInBounds_toArray, List.set_cons_zero, List.set_cons_succ])
                    refine wpAnyH_take (i := 4) (oi := _) (v := ?_) (by simp only [List.getElem?_toArray, List.getElem?_cons_succ, List.getElem?_cons_zero]; rfl) (by kernel_rfl) (by kernel_rfl) (by kernel_rfl) (fun _ _ _ h => h) (Or.inl ⟨by rfl, ?_⟩) (by assumption) ?_
                    rotate_left
                    · (intro w hSw; (try dsimp only at hSw); go_simp; (try with_reducible rfl))
                    (try simp only [Act.put, List.setIfInBounds_toArray, List.set_cons_zero, List.set_cons_succ])
                    refine wpAnyH_take (i := 5) (oi := _) (v := ?_) (by simp only [List.getElem?_toArray, List.getElem?_cons_succ, List.getElem?_cons_zero]; rfl) (by kernel_rfl) (by kernel_rfl) (by kernel_rfl) (fun _ _ _ h => h) (Or.inl ⟨by rfl, ?_⟩) (by assumption) ?_
                    rotate_left
                    · (intro w hSw; (try dsimp only at hSw); go_simp; (try with_reducible rfl))
                    (try simp only [Act.put, List.setIfInBounds_toArray, List.set_cons_zero, List.set_cons_succ])
                    refine wpAnyH_take (i := 6) (oi := _) (v := ?_) (by simp only [List.getElem?_toArray, List.getElem?_cons_succ, List.getElem?_cons_zero]; rfl) (by kernel_rfl) (by kernel_rfl) (by kernel_rfl) (fun _ _ _ h => h) (Or.inl ⟨by rfl, ?_⟩) (by assumption) ?_
                    rotate_left
                    · (intro w hSw; (try dsimp only at hSw); go_simp; (try with_reducible rfl))
                    (try simp only [Act.put, List.setIfInBounds_toArray, List.set_cons_zero, List.set_cons_succ])
                    refine wpAnyH_take (i := 7) (oi := _) (v := ?_) (by simp only [List.getElem?_toArray, List.getElem?_cons_succ, List.getElem?_cons_zero]; rfl) (by kernel_rfl) (by kernel_rfl) (by kernel_rfl) (fun _ _ _ h => h) (Or.inl ⟨by rfl, ?_⟩) (by assumption) ?_
                    rotate_left
                    · (intro w hSw; (try dsimp only at hSw); go_simp; (try with_reducible rfl))
                    (try simp only [Act.put, List.setIfInBounds_toArray, List.set_cons_zero, List.set_cons_succ])
                    refine wpAnyH_take (i := 8) (oi := _) (v := ?_) (by simp only [List.getElem?_toArray, List.getElem?_cons_succ, List.getElem?_cons_zero]; rfl) (by kernel_rfl) (by kernel_rfl) (by kernel_rfl) (fun _ _ _ h => h) (Or.inl ⟨by rfl, ?_⟩) (by assumption) ?_
                    rotate_left
                    · (intro w hSw; (try dsimp only at hSw); go_simp; (try with_reducible rfl))
                    (try simp only [Act.put, List.setIfInBounds_toArray, List.set_cons_zero, List.set_cons_succ])
                    refine wpAnyH_take (i := 9) (oi := _) (v := ?_) (by simp only [List.getElem?_toArray, List.getElem?_cons_succ, List.getElem?_cons_zero]; rfl) (by kernel_rfl) (by kernel_rfl) (by kernel_rfl) (fun _ _ _ h => h) (Or.inl ⟨by rfl, ?_⟩) (by assumption) ?_
                    rotate_left
                    · (intro w hSw; (try dsimp only at hSw); go_simp; (try with_reducible rfl))
                    (try simp only [Act.put, List.setIfInBounds_toArray, List.set_cons_zero, List.set_cons_succ])
                    refine wpAnyH_take (i := 10) (oi := _) (v := ?_) (by simp only [List.getElem?_toArray, List.getElem?_cons_succ, List.getElem?_cons_zero]; rfl) (by kernel_rfl) (by kernel_rfl) (by kernel_rfl) (fun _ _ _ h => h) (Or.inl ⟨by rfl, ?_⟩) (by assumption) ?_
                    rotate_left
                    · (intro w hSw; (try dsimp only at hSw); go_simp; (try with_reducible rfl))
                    (try simp only [Act.put, List.setIfInBounds_toArray, List.set_cons_zero, List.set_cons_succ])
                    refine wpAnyH_take (i := 11) (oi := _) (v := ?_) (by simp only [List.getElem?_toArray, List.getElem?_cons_succ, List.getElem?_cons_zero]; rfl) (by kernel_rfl) (by kernel_rfl) (by kernel_rfl) (fun _ _ _ h => h) (Or.inl ⟨by rfl, ?_⟩) (by assumption) ?_
                    rotate_left
                    · (intro w hSw; (try dsimp only at hSw); go_simp; (try with_reducible rfl))
                    (try simp only [Act.put, List.setIfInBounds_toArray, List.set_cons_zero, List.set_cons_succ])
                    refine wpAnyH_take (i := 12) (oi := _) (v := ?_) (by simp only [List.getElem?_toArray, List.getElem?_cons_succ, List.getElem?_cons_zero]; rfl) (by kernel_rfl) (by kernel_rfl) (by kernel_rfl) (fun _ _ _ h => h) (Or.inl ⟨by rfl, ?_⟩) (by assumption) ?_
                    rotate_left
                    · (intro w hSw; (try dsimp only at hSw); go_simp; (try with_reducible rfl))
                    (try simp only [Act.put, List.setIfInBounds_toArray, List.set_cons_zero, List.set_cons_succ])
                    refine wpAnyH_take (i := 13) (oi := _) (v := ?_) (by simp only [List.getElem?_toArray, List.getElem?_cons_succ, List.getElem?_cons_zero]; rfl) (by kernel_rfl) (by kernel_rfl) (by kernel_rfl) (fun _ _ _ h => h) (Or.inl ⟨by rfl, ?_⟩) (by assumption) ?_
                    rotate_left
                    · (intro w hSw; (try dsimp only at hSw); go_simp; (try with_reducible rfl))
                    (try simp only [Act.put, List.setIfInBounds_toArray, List.set_cons_zero, List.set_cons_succ])
                    refine wpAnyH_take (i := 14) (oi := _) (v := ?_) (by simp only [List.getElem?_toArray, List.getElem?_cons_succ, List.getElem?_cons_zero]; rfl) (by kernel_rfl) (by kernel_rfl) (by kernel_rfl) (fun _ _ _ h => h) (Or.inl ⟨by rfl, ?_⟩) (by assumption) ?_
                    rotate_left
                    · (intro w hSw; (try dsimp only at hSw); go_simp; (try with_reducible rfl))
                    (try simp only [Act.put, List.setIfInBounds_toArray, List.set_cons_zero, List.set_cons_succ])
                    refine wpAnyH_done (by kernel_rfl) ?_ _
                    refine NoPanic.normal ?_
                    clear hH
                    go_wp2_with fail
                    go_roundw
                    case rel =>
                      have w3 := WI'.out
                      rw [HX.out] at w3
                      exact ⟨k + 1, (i : Int), S', by have := MU.out; have := MU'.out; omega, by go_num, rfl, w3, by have := MU.out; have := MU'.out; omega, GS'.out, H4.out.kept (schE_stable.star none_stable) (by repeat (first | with_reducible (exact Keep.same _ _) | with_reducible (apply Keep.drew) | with_reducible (apply Keep.alloc)))⟩
                    case measure => simp [intOf]; omega
                  · have d4 : decide (0 ≤ inn) = true := decide_eq_true (by omega)
                    have d5 : (inn != (i : Int)) = false := by simp [d3]
                    clear q1 q2 d3
                    go_wp2_with fail
                    refine (ST.out _ (by repeat (first | with_reducible (exact Keep.same _ _) | with_reducible (apply Keep.drew) | with_reducible (apply Keep.alloc)))).mono ?_
                    rintro e w4 ⟨rfl, hh4⟩
                    have H4 := Lib.hid (hh4.alloc (schE_stable.star none_stable) (.cells #[.int .i64 (i : Int), .int .i64 a, .int .i64 0] 103))
                    have B4 := Blk.fresh w4 103 #[.int .i64 (i : Int), .int .i64 a, .int .i64 0]
                    have f0 := B4.cell 0
                    have f1 := B4.cell 1
                    have f2 := B4.cell 2
                    have ct := (Keep.of_below H4.out.below Nothing).cell CT.out (fun h => h)
                    have hH : (fun w' => w'.cell? ⟨w4.heap.size, 0, none⟩ = some (.int .i64 (i : Int)) ∧ w'.cell? ⟨w4.heap.size, 1, none⟩ = some (.int .i64 a) ∧ w'.cell? (adt.add i) = some (.slice Ak m ck)) (w4.alloc (.cells #[.int .i64 (i : Int), .int .i64 a, .int .i64 0] 103)) := ⟨f0, f1, ct⟩
                    dsimp only at hH
                    clear hh4 B4
                    go_wp2_with fail
                    refine wp_region_noPanic ?_
                    refine wp_region_held_drew (S := (fun w' => w'.cell? ⟨w4.heap.size, 0, none⟩ = some (.int .i64 (i : Int)) ∧ w'.cell? ⟨w4.heap.size, 1, none⟩ = some (.int .i64 a) ∧ w'.cell? (adt.add i) = some (.slice Ak m ck))) (by kernel_rfl) hH (fun hHeld => ?_)
                    refine wpAnyH_take (i := 0) (oi := _) (v := ?_) (by simp only [List.getElem?_toArray, List.getElem?_cons_succ, List.getElem?_cons_zero]; rfl) (by kernel_rfl) (by kernel_rfl) (by kernel_rfl) (fun _ _ _ h => h) (Or.inl ⟨by rfl, ?_⟩) (by assumption) ?_
                    rotate_left
                    · (intro w hSw; (try dsimp only at hSw); go_simp; (try with_reducible rfl))
                    (try simp only [Act.put, List.setIfInBounds_toArray, List.set_cons_zero, List.set_cons_succ])
                    refine wpAnyH_take (i := 1) (oi := _) (v := ?_) (by simp only [List.getElem?_toArray, List.getElem?_cons_succ, List.getElem?_cons_zero]; rfl) (by kernel_rfl) (by kernel_rfl) (by kernel_rfl) (fun _ _ _ h => h) (Or.inl ⟨by rfl, ?_⟩) (by assumption) ?_
                    rotate_left
                    · (intro w hSw; (try dsimp only at hSw); go_simp; (try with_reducible rfl))
                    (try simp only [Act.put, List.setIfInBounds_toArray, List.set_cons_zero, List.set_cons_succ])
                    refine wpAnyH_take (i := 2) (oi := _) (v := ?_) (by simp only [List.getElem?_toArray, List.getElem?_cons_succ, List.getElem?_cons_zero]; rfl) (by kernel_rfl) (by kernel_rfl) (by kernel_rfl) (fun _ _ _ h => h) (Or.inl ⟨by rfl, ?_⟩) (by assumption) ?_
                    rotate_left
                    · (intro w hSw; (try dsimp only at hSw); go_simp; (try with_reducible rfl))
                    (try simp only [Act.put, List.setIfInBounds_toArray, List.set_cons_zero, List.set_cons_succ])
                    refine wpAnyH_take (i := 3) (oi := _) (v := ?_) (by simp only [List.getElem?_toArray, List.getElem?_cons_succ, List.getElem?_cons_zero]; rfl) (by kernel_rfl) (by kernel_rfl) (by kernel_rfl) (fun _ _ _ h => h) (Or.inl ⟨by rfl, ?_⟩) (by assumption) ?_
                    rotate_left
                    · (intro w hSw; (try dsimp only at hSw); go_simp; (try with_reducible rfl))
                    (try simp only [Act.put, List.setIfInBounds_toArray, List.set_cons_zero, List.set_cons_succ])
                    refine wpAnyH_take (i := 4) (oi := _) (v := ?_) (by simp only [List.getElem?_toArray, List.getElem?_cons_succ, List.getElem?_cons_zero]; rfl) (by kernel_rfl) (by kernel_rfl) (by kernel_rfl) (fun _ _ _ h => h) (Or.inl ⟨by rfl, ?_⟩) (by assumption) ?_
                    rotate_left
                    · (intro w hSw; (try dsimp only at hSw); go_simp; (try with_reducible rfl))
                    (try simp only [Act.put, List.setIfInBounds_toArray, List.set_cons_zero, List.set_cons_succ])
                    refine wpAnyH_take (i := 5) (oi := _) (v := ?_) (by simp only [List.getElem?_toArray, List.getElem?_cons_succ, List.getElem?_cons_zero]; rfl) (by kernel_rfl) (by kernel_rfl) (by kernel_rfl) (fun _ _ _ h => h) (Or.inl ⟨by rfl, ?_⟩) (by assumption) ?_
                    rotate_left
                    · (intro w hSw; (try dsimp only at hSw); go_simp; (try with_reducible rfl))
                    (try simp only [Act.put, List.setIfInBounds_toArray, List.set_cons_zero, List.set_cons_succ])
                    refine wpAnyH_take (i := 6) (oi := _) (v := ?_) (by simp only [List.getElem?_toArray, List.getElem?_cons_succ, List.getElem?_cons_zero]; rfl) (by kernel_rfl) (by kernel_rfl) (by kernel_rfl) (fun _ _ _ h => h) (Or.inl ⟨by rfl, ?_⟩) (by assumption) ?_
                    rotate_left
                    · (intro w hSw; (try dsimp only at hSw); go_simp; (try with_reducible rfl))
                    (try simp only [Act.put, List.setIfInBounds_toArray, List.set_cons_zero, List.set_cons_succ])
                    refine wpAnyH_take (i := 7) (oi := _) (v := ?_) (by simp only [List.getElem?_toArray, List.getElem?_cons_succ, List.getElem?_cons_zero]; rfl) (by kernel_rfl) (by kernel_rfl) (by kernel_rfl) (fun _ _ _ h => h) (Or.inl ⟨by rfl, ?_⟩) (by assumption) ?_
                    rotate_left
                    · (intro w hSw; (try dsimp only at hSw); go_simp; (try with_reducible rfl))
                    (try simp only [Act.put, List.setIfInBounds_toArray, List.set_cons_zero, List.set_cons_succ])
                    refine wpAnyH_take (i := 8) (oi := _) (v := ?_) (by simp only [List.getElem?_toArray, List.getElem?_cons_succ, List.getElem?_cons_zero]; rfl) (by kernel_rfl) (by kernel_rfl) (by kernel_rfl) (fun _ _ _ h => h) (Or.inl ⟨by rfl, ?_⟩) (by assumption) ?_
                    rotate_left
                    · (intro w hSw; (try dsimp only at hSw); go_simp; (try with_reducible rfl))
                    (try simp only [Act.put, List.setIfInBounds_toArray, List.set_cons_zero, List.set_cons_succ])
                    refine wpAnyH_take (i := 9) (oi := _) (v := ?_) (by simp only [List.getElem?_toArray, List.getElem?_cons_succ, List.getElem?_cons_zero]; rfl) (by kernel_rfl) (by kernel_rfl) (by kernel_rfl) (fun _ _ _ h => h) (Or.inl ⟨by rfl, ?_⟩) (by assumption) ?_
                    rotate_left
                    · (intro w hSw; (try dsimp only at hSw); go_simp; (try with_reducible rfl))
                    (try simp only [Act.put, List.setIfInBounds_toArray, List.set_cons_zero, List.set_cons_succ])
                    refine wpAnyH_take (i := 10) (oi := _) (v := ?_) (by simp only [List.getElem?_toArray, List.getElem?_cons_succ, List.getElem?_cons_zero]; rfl) (by kernel_rfl) (by kernel_rfl) (by kernel_rfl) (fun _ _ _ h => h) (Or.inl ⟨by rfl, ?_⟩) (by assumption) ?_
                    rotate_left
                    · (intro w hSw; (try dsimp only at hSw); go_simp; (try with_reducible rfl))
                    (try simp only [Act.put, List.setIfInBounds_toArray, List.set_cons_zero, List.set_cons_succ])
                    refine wpAnyH_take (i := 11) (oi := _) (v := ?_) (by simp only [List.getElem?_toArray, List.getElem?_cons_succ, List.getElem?_cons_zero]; rfl) (by kernel_rfl) (by kernel_rfl) (by kernel_rfl) (fun _ _ _ h => h) (Or.inl ⟨by rfl, ?_⟩) (by assumption) ?_
                    rotate_left
                    · (intro w hSw; (try dsimp only at hSw); go_simp; (try with_reducible rfl))
                    (try simp only [Act.put, List.setIfInBounds_toArray, List.set_cons_zero, List.set_cons_succ])
                    refine wpAnyH_take (i := 12) (oi := _) (v := ?_) (by simp only [List.getElem?_toArray, List.getElem?_cons_succ, List.getElem?_cons_zero]; rfl) (by kernel_rfl) (by kernel_rfl) (by kernel_rfl) (fun _ _ _ h => h) (Or.inl ⟨by rfl, ?_⟩) (by assumption) ?_
                    rotate_left
                    · (intro w hSw; (try dsimp only at hSw); go_simp; (try with_reducible rfl))
                    (try simp only [Act.put, List.setIfInBounds_toArray, List.set_cons_zero, List.set_cons_succ])
                    refine wpAnyH_take (i := 13) (oi := _) (v := ?_) (by simp only [List.getElem?_toArray, List.getElem?_cons_succ, List.getElem?_cons_zero]; rfl) (by kernel_rfl) (by kernel_rfl) (by kernel_rfl) (fun _ _ _ h => h) (Or.inl ⟨by rfl, ?_⟩) (by assumption) ?_
                    rotate_left
                    · (intro w hSw; (try dsimp only at hSw); go_simp; (try with_reducible rfl))
                    (try simp only [Act.put, List.setIfInBounds_toArray, List.set_cons_zero, List.set_cons_succ])
                    refine wpAnyH_take (i := 14) (oi := _) (v := ?_) (by simp only [List.getElem?_toArray, List.getElem?_cons_succ, List.getElem?_cons_zero]; rfl) (by kernel_rfl) (by kernel_rfl) (by kernel_rfl) (fun _ _ _ h => h) (Or.inl ⟨by rfl, ?_⟩) (by assumption) ?_
                    rotate_left
                    · (intro w hSw; (try dsimp only at hSw); go_simp; (try with_reducible rfl))
                    (try simp only [Act.put, List.setIfInBounds_toArray, List.set_cons_zero, List.set_cons_succ])
                    refine wpAnyH_done (by kernel_rfl) ?_ _
                    refine NoPanic.normal ?_
                    clear hH
                    go_wp2_with fail
                    go_roundw
                    case rel =>
                      have w3 := WI'.out
                      rw [HX.out] at w3
                      exact ⟨k + 1, (i : Int), S', by have := MU.out; have := MU'.out; omega, by go_num, rfl, w3, by have := MU.out; have := MU'.out; omega, GS'.out, H4.out.kept (schE_stable.star none_stable) (by repeat (first | with_reducible (exact Keep.same _ _) | with_reducible (apply Keep.drew) | with_reducible (apply Keep.alloc)))⟩
                    case measure => simp [intOf]; omega
                · have d1 : decide (0 < a) = true := decide_eq_true (by have := HA.out; omega)
                  have d2 : decide (a < m1) = false := decide_eq_false (by have := HA.out; have := HM1.out; omega)
                  rcases Decidable.em (inn = (i : Int)) with d3 | d3
                  · have d5 : (inn == (i : Int)) = true := by simp [d3]
                    have HX := Lib.hid (show innX inn i t.at_ t.ops.length = -1 by unfold innX; rw [if_neg (fun h => q2 (by have := h.2; rw [HML.out.1] at this; exact this)), if_pos ⟨q1, d3⟩])
                    clear q1 q2 d3
                    go_wp2_with fail
                    refine (ST.out _ (by repeat (first | with_reducible (exact Keep.same _ _) | with_reducible (apply Keep.drew) | with_reducible (apply Keep.alloc)))).mono ?_
                    rintro e w4 ⟨rfl, hh4⟩
                    have H4 := Lib.hid (hh4.alloc (schE_stable.star none_stable) (.cells #[.int .i64 (i : Int), .int .i64 a, .int .i64 0] 103))
                    have B4 := Blk.fresh w4 103 #[.int .i64 (i : Int), .int .i64 a, .int .i64 0]
                    have f0 := B4.cell 0
                    have f1 := B4.cell 1
                    have f2 := B4.cell 2
                    have ct := (Keep.of_below H4.out.below Nothing).cell CT.out (fun h => h)
                    have hH : (fun w' => w'.cell? ⟨w4.heap.size, 0, none⟩ = some (.int .i64 (i : Int)) ∧ w'.cell? ⟨w4.heap.size, 1, none⟩ = some (.int .i64 a) ∧ w'.cell? (adt.add i) = some (.slice Ak m ck)) (w4.alloc (.cells #[.int .i64 (i : Int), .int .i64 a, .int .i64 0] 103)) := ⟨f0, f1, ct⟩
                    dsimp only at hH
                    clear hh4 B4
                    go_wp2_with fail
                    refine wp_region_noPanic ?_
                    refine wp_region_held_drew (S := (fun w' => w'.cell? ⟨w4.heap.size, 0, none⟩ = some (.int .i64 (i : Int)) ∧ w'.cell? ⟨w4.heap.size, 1, none⟩ = some (.int .i64 a) ∧ w'.cell? (adt.add i) = some (.slice Ak m ck))) (by kernel_rfl) hH (fun hHeld => ?_)
                    refine wpAnyH_take (i := 0) (oi := _) (v := ?_) (by simp only [List.getElem?_toArray, List.getElem?_cons_succ, List.getElem?_cons_zero]; rfl) (by kernel_rfl) (by kernel_rfl) (by kernel_rfl) (fun _ _ _ h => h) (Or.inl ⟨by rfl, ?_⟩) (by assumption) ?_
                    rotate_left
                    · (intro w hSw; (try dsimp only at hSw); go_simp; (try with_reducible rfl))
                    (try simp only [Act.put, List.setIfInBounds_toArray, List.set_cons_zero, List.set_cons_succ])
                    refine wpAnyH_take (i := 1) (oi := _) (v := ?_) (by simp only [List.getElem?_toArray, List.getElem?_cons_succ, List.getElem?_cons_zero]; rfl) (by kernel_rfl) (by kernel_rfl) (by kernel_rfl) (fun _ _ _ h => h) (Or.inl ⟨by rfl, ?_⟩) (by assumption) ?_
                    rotate_left
                    · (intro w hSw; (try dsimp only at hSw); go_simp; (try with_reducible rfl))
                    (try simp only [Act.put, List.setIfInBounds_toArray, List.set_cons_zero, List.set_cons_succ])
                    refine wpAnyH_take (i := 2) (oi := _) (v := ?_) (by simp only [List.getElem?_toArray, List.getElem?_cons_succ, List.getElem?_cons_zero]; rfl) (by kernel_rfl) (by kernel_rfl) (by kernel_rfl) (fun _ _ _ h => h) (Or.inl ⟨by rfl, ?_⟩) (by assumption) ?_
                    rotate_left
                    · (intro w hSw; (try dsimp only at hSw); go_simp; (try with_reducible rfl))
                    (try simp only [Act.put, List.setIfInBounds_toArray, List.set_cons_zero, List.set_cons_succ])
                    refine wpAnyH_take (i := 3) (oi := _) (v := ?_) (by simp only [List.getElem?_toArray, List.getElem?_cons_succ, List.getElem?_cons_zero]; rfl) (by kernel_rfl) (by kernel_rfl) (by kernel_rfl) (fun _ _ _ h => h) (Or.inl ⟨by rfl, ?_⟩) (by assumption) ?_
                    rotate_left
                    · (intro w hSw; (try dsimp only at hSw); go_simp; (try with_reducible rfl))
                    (try simp only [Act.put, List.setIfInBounds_toArray, List.set_cons_zero, List.set_cons_succ])
                    refine wpAnyH_take (i := 4) (oi := _) (v := ?_) (by simp only [List.getElem?_toArray, List.getElem?_cons_succ, List.getElem?_cons_zero]; rfl) (by kernel_rfl) (by kernel_rfl) (by kernel_rfl) (fun _ _ _ h => h) (Or.inl ⟨by rfl, ?_⟩) (by assumption) ?_
                    rotate_left
                    · (intro w hSw; (try dsimp only at hSw); go_simp; (try with_reducible rfl))
                    (try simp only [Act.put, List.setIfInBounds_toArray, List.set_cons_zero, List.set_cons_succ])
                    refine wpAnyH_take (i := 5) (oi := _) (v := ?_) (by simp only [List.getElem?_toArray, List.getElem?_cons_succ, List.getElem?_cons_zero]; rfl) (by kernel_rfl) (by kernel_rfl) (by kernel_rfl) (fun _ _ _ h => h) (Or.inl ⟨by rfl, ?_⟩) (by assumption) ?_
                    rotate_left
                    · (intro w hSw; (try dsimp only at hSw); go_simp; (try with_reducible rfl))
                    (try simp only [Act.put, List.setIfInBounds_toArray, List.set_cons_zero, List.set_cons_succ])
                    refine wpAnyH_take (i := 6) (oi := _) (v := ?_) (by simp only [List.getElem?_toArray, List.getElem?_cons_succ, List.getElem?_cons_zero]; rfl) (by kernel_rfl) (by kernel_rfl) (by kernel_rfl) (fun _ _ _ h => h) (Or.inl ⟨by rfl, ?_⟩) (by assumption) ?_
                    rotate_left
                    · (intro w hSw; (try dsimp only at hSw); go_simp; (try with_reducible rfl))
                    (try simp only [Act.put, List.setIfInBounds_toArray, List.set_cons_zero, List.set_cons_succ])
                    refine wpAnyH_take (i := 7) (oi := _) (v := ?_) (by simp only [List.getElem?_toArray, List.getElem?_cons_succ, List.getElem?_cons_zero]; rfl) (by kernel_rfl) (by kernel_rfl) (by kernel_rfl) (fun _ _ _ h => h) (Or.inl ⟨by rfl, ?_⟩) (by assumption) ?_
                    rotate_left
                    · (intro w hSw; (try dsimp only at hSw); go_simp; (try with_reducible rfl))
                    (try simp only [Act.put, List.setIfInBounds_toArray, List.set_cons_zero, List.set_cons_succ])
                    refine wpAnyH_take (i := 8) (oi := _) (v := ?_) (by simp only [List.getElem?_toArray, List.getElem?_cons_succ, List.getElem?_cons_zero]; rfl) (by kernel_rfl) (by kernel_rfl) (by kernel_rfl) (fun _ _ _ h => h) (Or.inl ⟨by rfl, ?_⟩) (by assumption) ?_
                    rotate_left
                    · (intro w hSw; (try dsimp only at hSw); go_simp; (try with_reducible rfl))
                    (try simp only [Act.put, List.setIfInBounds_toArray, List.set_cons_zero, List.set_cons_succ])
                    refine wpAnyH_take (i := 9) (oi := _) (v := ?_) (by simp only [List.getElem?_toArray, List.getElem?_cons_succ, List.getElem?_cons_zero]; rfl) (by kernel_rfl) (by kernel_rfl) (by kernel_rfl) (fun _ _ _ h => h) (Or.inl ⟨by rfl, ?_⟩) (by assumption) ?_
                    rotate_left
                    · (intro w hSw; (try dsimp only at hSw); go_simp; (try with_reducible rfl))
                    (try simp only [Act.put, List.setIfInBounds_toArray, List.set_cons_zero, List.set_cons_succ])
                    refine wpAnyH_take (i := 10) (oi := _) (v := ?_) (by simp only [List.getElem?_toArray, List.getElem?_cons_succ, List.getElem?_cons_zero]; rfl) (by kernel_rfl) (by kernel_rfl) (by kernel_rfl) (fun _ _ _ h => h) (Or.inl ⟨by rfl, ?_⟩) (by assumption) ?_
                    rotate_left
                    · (intro w hSw; (try dsimp only at hSw); go_simp; (try with_reducible rfl))
                    (try simp only [Act.put, List.setIfInBounds_toArray, List.set_cons_zero, List.set_cons_succ])
                    refine wpAnyH_take (i := 11) (oi := _) (v := ?_) (by simp only [List.getElem?_toArray, List.getElem?_cons_succ, List.getElem?_cons_zero]; rfl) (by kernel_rfl) (by kernel_rfl) (by kernel_rfl) (fun _ _ _ h => h) (Or.inl ⟨by rfl, ?_⟩) (by assumption) ?_
                    rotate_left
                    · (intro w hSw; (try dsimp only at hSw); go_simp; (try with_reducible rfl))
                    (try simp only [Act.put, List.setIfInBounds_toArray, List.set_cons_zero, List.set_cons_succ])
                    refine wpAnyH_take (i := 12) (oi := _) (v := ?_) (by simp only [List.getElem?_toArray, List.getElem?_cons_succ, List.getElem?_cons_zero]; rfl) (by kernel_rfl) (by kernel_rfl) (by kernel_rfl) (fun _ _ _ h => h) (Or.inl ⟨by rfl, ?_⟩) (by assumption) ?_
                    rotate_left
                    · (intro w hSw; (try dsimp only at hSw); go_simp; (try with_reducible rfl))
                    (try simp only [Act.put, List.setIfInBounds_toArray, List.set_cons_zero, List.set_cons_succ])
                    refine wpAnyH_take (i := 13) (oi := _) (v := ?_) (by simp only [List.getElem?_toArray, List.getElem?_cons_succ, List.getElem?_cons_zero]; rfl) (by kernel_rfl) (by kernel_rfl) (by kernel_rfl) (fun _ _ _ h => h) (Or.inl ⟨by rfl, ?_⟩) (by assumption) ?_
                    rotate_left
                    · (intro w hSw; (try dsimp only at hSw); go_simp; (try with_reducible rfl))
                    (try simp only [Act.put, List.setIfInBounds_toArray, List.set_cons_zero, List.set_cons_succ])
                    refine wpAnyH_take (i := 14) (oi := _) (v := ?_) (by simp only [List.getElem?_toArray, List.getElem?_cons_succ, List.getElem?_cons_zero]; rfl) (by kernel_rfl) (by kernel_rfl) (by kernel_rfl) (fun _ _ _ h => h) (Or.inl ⟨by rfl, ?_⟩) (by assumption) ?_
                    rotate_left
                    · (intro w hSw; (try dsimp only at hSw); go_simp; (try with_reducible rfl))
                    (try simp only [Act.put, List.setIfInBounds_toArray, List.set_cons_zero, List.set_cons_succ])
                    refine wpAnyH_done (by kernel_rfl) ?_ _
                    refine NoPanic.normal ?_
                    clear hH
                    go_wp2_with fail
                    go_roundw
                    case rel =>
                      have w3 := WI'.out
                      rw [HX.out] at w3
                      exact ⟨k + 1, (-1), S', by have := MU.out; have := MU'.out; omega, by go_num, rfl, w3, by have := MU.out; have := MU'.out; omega, GS'.out, H4.out.kept (schE_stable.star none_stable) (by repeat (first | with_reducible (exact Keep.same _ _) | with_reducible (apply Keep.drew) | with_reducible (apply Keep.alloc)))⟩
                    case measure => simp [intOf]; omega
                  · have d5 : (inn == (i : Int)) = false := by simp [d3]
                    have HX := Lib.hid (show innX inn i t.at_ t.ops.length = inn by unfold innX; rw [if_neg (fun h => q2 (by have := h.2; rw [HML.out.1] at this; exact this)), if_neg (fun h => d3 h.2)])
                    clear q1 q2 d3
                    go_wp2_with fail
                    refine (ST.out _ (by repeat (first | with_reducible (exact Keep.same _ _) | with_reducible (apply Keep.drew) | with_reducible (apply Keep.alloc)))).mono ?_
                    rintro e w4 ⟨rfl, hh4⟩
                    have H4 := Lib.hid (hh4.alloc (schE_stable.star none_stable) (.cells #[.int .i64 (i : Int), .int .i64 a, .int .i64 0] 103))
                    have B4 := Blk.fresh w4 103 #[.int .i64 (i : Int), .int .i64 a, .int .i64 0]
                    have f0 := B4.cell 0
                    have f1 := B4.cell 1
                    have f2 := B4.cell 2
                    have ct := (Keep.of_below H4.out.below Nothing).cell CT.out (fun h => h)
                    have hH : (fun w' => w'.cell? ⟨w4.heap.size, 0, none⟩ = some (.int .i64 (i : Int)) ∧ w'.cell? ⟨w4.heap.size, 1, none⟩ = some (.int .i64 a) ∧ w'.cell? (adt.add i) = some (.slice Ak m ck)) (w4.alloc (.cells #[.int .i64 (i : Int), .int .i64 a, .int .i64 0] 103)) := ⟨f0, f1, ct⟩
                    dsimp only at hH
                    clear hh4 B4
                    go_wp2_with fail
                    refine wp_region_noPanic ?_
                    refine wp_region_held_drew (S := (fun w' => w'.cell? ⟨w4.heap.size, 0, none⟩ = some (.int .i64 (i : Int)) ∧ w'.cell? ⟨w4.heap.size, 1, none⟩ = some (.int .i64 a) ∧ w'.cell? (adt.add i) = some (.slice Ak m ck))) (by kernel_rfl) hH (fun hHeld => ?_)
                    refine wpAnyH_take (i := 0) (oi := _) (v := ?_) (by simp only [List.getElem?_toArray, List.getElem?_cons_succ, List.getElem?_cons_zero]; rfl) (by kernel_rfl) (by kernel_rfl) (by kernel_rfl) (fun _ _ _ h => h) (Or.inl ⟨by rfl, ?_⟩) (by assumption) ?_
                    rotate_left
                    · (intro w hSw; (try dsimp only at hSw); go_simp; (try with_reducible rfl))
                    (try simp only [Act.put, List.setIfInBounds_toArray, List.set_cons_zero, List.set_cons_succ])
                    refine wpAnyH_take (i := 1) (oi := _) (v := ?_) (by simp only [List.getElem?_toArray, List.getElem?_cons_succ, List.getElem?_cons_zero]; rfl) (by kernel_rfl) (by kernel_rfl) (by kernel_rfl) (fun _ _ _ h => h) (Or.inl ⟨by rfl, ?_⟩) (by assumption) ?_
                    rotate_left
                    · (intro w hSw; (try dsimp only at hSw); go_simp; (try with_reducible rfl))
                    (try simp only [Act.put, List.setIfInBounds_toArray, List.set_cons_zero, List.set_cons_succ])
                    refine wpAnyH_take (i := 2) (oi := _) (v := ?_) (by simp only [List.getElem?_toArray, List.getElem?_cons_succ, List.getElem?_cons_zero]; rfl) (by kernel_rfl) (by kernel_rfl) (by kernel_rfl) (fun _ _ _ h => h) (Or.inl ⟨by rfl, ?_⟩) (by assumption) ?_
                    rotate_left
                    · (intro w hSw; (try dsimp only at hSw); go_simp; (try with_reducible rfl))
                    (try simp only [Act.put, List.setIfInBounds_toArray, List.set_cons_zero, List.set_cons_succ])
                    refine wpAnyH_take (i := 3) (oi := _) (v := ?_) (by simp only [List.getElem?_toArray, List.getElem?_cons_succ, List.getElem?_cons_zero]; rfl) (by kernel_rfl) (by kernel_rfl) (by kernel_rfl) (fun _ _ _ h => h) (Or.inl ⟨by rfl, ?_⟩) (by assumption) ?_
                    rotate_left
                    · (intro w hSw; (try dsimp only at hSw); go_simp; (try with_reducible rfl))
                    (try simp only [Act.put, List.setIfInBounds_toArray, List.set_cons_zero, List.set_cons_succ])
                    refine wpAnyH_take (i := 4) (oi := _) (v := ?_) (by simp only [List.getElem?_toArray, List.getElem?_cons_succ, List.getElem?_cons_zero]; rfl) (by kernel_rfl) (by kernel_rfl) (by kernel_rfl) (fun _ _ _ h => h) (Or.inl ⟨by rfl, ?_⟩) (by assumption) ?_
                    rotate_left
                    · (intro w hSw; (try dsimp only at hSw); go_simp; (try with_reducible rfl))
                    (try simp only [Act.put, List.setIfInBounds_toArray, List.set_cons_zero, List.set_cons_succ])
                    refine wpAnyH_take (i := 5) (oi := _) (v := ?_) (by simp only [List.getElem?_toArray, List.getElem?_cons_succ, List.getElem?_cons_zero]; rfl) (by kernel_rfl) (by kernel_rfl) (by kernel_rfl) (fun _ _ _ h => h) (Or.inl ⟨by rfl, ?_⟩) (by assumption) ?_
                    rotate_left
                    · (intro w hSw; (try dsimp only at hSw); go_simp; (try with_reducible rfl))
                    (try simp only [Act.put, List.setIfInBounds_toArray, List.set_cons_zero, List.set_cons_succ])
                    refine wpAnyH_take (i := 6) (oi := _) (v := ?_) (by simp only [List.getElem?_toArray, List.getElem?_cons_succ, List.getElem?_cons_zero]; rfl) (by kernel_rfl) (by kernel_rfl) (by kernel_rfl) (fun _ _ _ h => h) (Or.inl ⟨by rfl, ?_⟩) (by assumption) ?_
                    rotate_left
                    · (intro w hSw; (try dsimp only at hSw); go_simp; (try with_reducible rfl))
                    (try simp only [Act.put, List.setIfInBounds_toArray, List.set_cons_zero, List.set_cons_succ])
                    refine wpAnyH_take (i := 7) (oi := _) (v := ?_) (by simp only [List.getElem?_toArray, List.getElem?_cons_succ, List.getElem?_cons_zero]; rfl) (by kernel_rfl) (by kernel_rfl) (by kernel_rfl) (fun _ _ _ h => h) (Or.inl ⟨by rfl, ?_⟩) (by assumption) ?_
                    rotate_left
                    · (intro w hSw; (try dsimp only at hSw); go_simp; (try with_reducible rfl))
                    (try simp only [Act.put, List.setIfInBounds_toArray, List.set_cons_zero, List.set_cons_succ])
                    refine wpAnyH_take (i := 8) (oi := _) (v := ?_) (by simp only [List.getElem?_toArray, List.getElem?_cons_succ, List.getElem?_cons_zero]; rfl) (by kernel_rfl) (by kernel_rfl) (by kernel_rfl) (fun _ _ _ h => h) (Or.inl ⟨by rfl, ?_⟩) (by assumption) ?_
                    rotate_left
                    · (intro w hSw; (try dsimp only at hSw); go_simp; (try with_reducible rfl))
                    (try simp only [Act.put, List.setIfInBounds_toArray, List.set_cons_zero, List.set_cons_succ])
                    refine wpAnyH_take (i := 9) (oi := _) (v := ?_) (by simp only [List.getElem?_toArray, List.getElem?_cons_succ, List.getElem?_cons_zero]; rfl) (by kernel_rfl) (by kernel_rfl) (by kernel_rfl) (fun _ _ _ h => h) (Or.inl ⟨by rfl, ?_⟩) (by assumption) ?_
                    rotate_left
                    · (intro w hSw; (try dsimp only at hSw); go_simp; (try with_reducible rfl))
                    (try simp only [Act.put, List.setIfInBounds_toArray, List.set_cons_zero, List.set_cons_succ])
                    refine wpAnyH_take (i := 10) (oi := _) (v := ?_) (by simp only [List.getElem?_toArray, List.getElem?_cons_succ, List.getElem?_cons_zero]; rfl) (by kernel_rfl) (by kernel_rfl) (by kernel_rfl) (fun _ _ _ h => h) (Or.inl ⟨by rfl, ?_⟩) (by assumption) ?_
                    rotate_left
                    · (intro w hSw; (try dsimp only at hSw); go_simp; (try with_reducible rfl))
                    (try simp only [Act.put, List.setIfInBounds_toArray, List.set_cons_zero, List.set_cons_succ])
                    refine wpAnyH_take (i := 11) (oi := _) (v := ?_) (by simp only [List.getElem?_toArray, List.getElem?_cons_succ, List.getElem?_cons_zero]; rfl) (by kernel_rfl) (by kernel_rfl) (by kernel_rfl) (fun _ _ _ h => h) (Or.inl ⟨by rfl, ?_⟩) (by assumption) ?_
                    rotate_left
                    · (intro w hSw; (try dsimp only at hSw); go_simp; (try with_reducible rfl))
                    (try simp only [Act.put, List.setIfInBounds_toArray, List.set_cons_zero, List.set_cons_succ])
                    refine wpAnyH_take (i := 12) (oi := _) (v := ?_) (by simp only [List.getElem?_toArray, List.getElem?_cons_succ, List.getElem?_cons_zero]; rfl) (by kernel_rfl) (by kernel_rfl) (by kernel_rfl) (fun _ _ _ h => h) (Or.inl ⟨by rfl, ?_⟩) (by assumption) ?_
                    rotate_left
                    · (intro w hSw; (try dsimp only at hSw); go_simp; (try with_reducible rfl))
                    (try simp only [Act.put, List.setIfInBounds_toArray, List.set_cons_zero, List.set_cons_succ])
                    refine wpAnyH_take (i := 13) (oi := _) (v := ?_) (by simp only [List.getElem?_toArray, List.getElem?_cons_succ, List.getElem?_cons_zero]; rfl) (by kernel_rfl) (by kernel_rfl) (by kernel_rfl) (fun _ _ _ h => h) (Or.inl ⟨by rfl, ?_⟩) (by assumption) ?_
                    rotate_left
                    · (intro w hSw; (try dsimp only at hSw); go_simp; (try with_reducible rfl))
                    (try simp only [Act.put, List.setIfInBounds_toArray, List.set_cons_zero, List.set_cons_succ])
                    refine wpAnyH_take (i := 14) (oi := _) (v := ?_) (by simp only [List.getElem?_toArray, List.getElem?_cons_succ, List.getElem?_cons_zero]; rfl) (by kernel_rfl) (by kernel_rfl) (by kernel_rfl) (fun _ _ _ h => h) (Or.inl ⟨by rfl, ?_⟩) (by assumption) ?_
                    rotate_left
                    · (intro w hSw; (try dsimp only at hSw); go_simp; (try with_reducible rfl))
                    (try simp only [Act.put, List.setIfInBounds_toArray, List.set_cons_zero, List.set_cons_succ])
                    refine wpAnyH_done (by kernel_rfl) ?_ _
                    refine NoPanic.normal ?_
                    clear hH
                    go_wp2_with fail
                    go_roundw
                    case rel =>
                      have w3 := WI'.out
                      rw [HX.out] at w3
                      exact ⟨k + 1, inn, S', by have := MU.out; have := MU'.out; omega, by go_num, rfl, w3, by have := MU.out; have := MU'.out; omega, GS'.out, H4.out.kept (schE_stable.star none_stable) (by repeat (first | with_reducible (exact Keep.same _ _) | with_reducible (apply Keep.drew) | with_reducible (apply Keep.alloc)))⟩
                    case measure => simp [intOf]; omega
                · have d1 : decide (0 < a) = false := decide_eq_false (by have := HA.out; omega)
                  have HX := Lib.hid (show innX inn i t.at_ t.ops.length = inn by unfold innX; rw [if_neg (by omega), if_neg (by omega)])
                  clear q1
                  go_wp2_with fail
                  refine (ST.out _ (by repeat (first | with_reducible (exact Keep.same _ _) | with_reducible (apply Keep.drew) | with_reducible (apply Keep.alloc)))).mono ?_
                  rintro e w4 ⟨rfl, hh4⟩
                  have H4 := Lib.hid (hh4.alloc (schE_stable.star none_stable) (.cells #[.int .i64 (i : Int), .int .i64 a, .int .i64 0] 103))
                  have B4 := Blk.fresh w4 103 #[.int .i64 (i : Int), .int .i64 a, .int .i64 0]
                  have f0 := B4.cell 0
                  have f1 := B4.cell 1
                  have f2 := B4.cell 2
                  have ct := (Keep.of_below H4.out.below Nothing).cell CT.out (fun h => h)
                  have hH : (fun w' => w'.cell? ⟨w4.heap.size, 0, none⟩ = some (.int .i64 (i : Int)) ∧ w'.cell? ⟨w4.heap.size, 1, none⟩ = some (.int .i64 a) ∧ w'.cell? (adt.add i) = some (.slice Ak m ck)) (w4.alloc (.cells #[.int .i64 (i : Int), .int .i64 a, .int .i64 0] 103)) := ⟨f0, f1, ct⟩
                  dsimp only at hH
                  clear hh4 B4
                  go_wp2_with fail
                  refine wp_region_noPanic ?_
                  refine wp_region_held_drew (S := (fun w' => w'.cell? ⟨w4.heap.size, 0, none⟩ = some (.int .i64 (i : Int)) ∧ w'.cell? ⟨w4.heap.size, 1, none⟩ = some (.int .i64 a) ∧ w'.cell? (adt.add i) = some (.slice Ak m ck))) (by kernel_rfl) hH (fun hHeld => ?_)
                  refine wpAnyH_take (i := 0) (oi := _) (v := ?_) (by simp only [List.getElem?_toArray, List.getElem?_cons_succ, List.getElem?_cons_zero]; rfl) (by kernel_rfl) (by kernel_rfl) (by kernel_rfl) (fun _ _ _ h => h) (Or.inl ⟨by rfl, ?_⟩) (by assumption) ?_
                  rotate_left
                  · (intro w hSw; (try dsimp only at hSw); go_simp; (try with_reducible rfl))
                  (try simp only [Act.put, List.setIfInBounds_toArray, List.set_cons_zero, List.set_cons_succ])
                  refine wpAnyH_take (i := 1) (oi := _) (v := ?_) (by simp only [List.getElem?_toArray, List.getElem?_cons_succ, List.getElem?_cons_zero]; rfl) (by kernel_rfl) (by kernel_rfl) (by kernel_rfl) (fun _ _ _ h => h) (Or.inl ⟨by rfl, ?_⟩) (by assumption) ?_
                  rotate_left
                  · (intro w hSw; (try dsimp only at hSw); go_simp; (try with_reducible rfl))
                  (try simp only [Act.put, List.setIfInBounds_toArray, List.set_cons_zero, List.set_cons_succ])
                  refine wpAnyH_take (i := 2) (oi := _) (v := ?_) (by simp only [List.getElem?_toArray, List.getElem?_cons_succ, List.getElem?_cons_zero]; rfl) (by kernel_rfl) (by kernel_rfl) (by kernel_rfl) (fun _ _ _ h => h) (Or.inl ⟨by rfl, ?_⟩) (by assumption) ?_
                  rotate_left
                  · (intro w hSw; (try dsimp only at hSw); go_simp; (try with_reducible rfl))
                  (try simp only [Act.put, List.setIfInBounds_toArray, List.set_cons_zero, List.set_cons_succ])
                  refine wpAnyH_take (i := 3) (oi := _) (v := ?_) (by simp only [List.getElem?_toArray, List.getElem?_cons_succ, List.getElem?_cons_zero]; rfl) (by kernel_rfl) (by kernel_rfl) (by kernel_rfl) (fun _ _ _ h => h) (Or.inl ⟨by rfl, ?_⟩) (by assumption) ?_
                  rotate_left
                  · (intro w hSw; (try dsimp only at hSw); go_simp; (try with_reducible rfl))
                  (try simp only [Act.put, List.setIfInBounds_toArray, List.set_cons_zero, List.set_cons_succ])
                  refine wpAnyH_take (i := 4) (oi := _) (v := undef) (by simp only [List.getElem?_toArray, List.getElem?_cons_succ, List.getElem?_cons_zero]; rfl) (by kernel_rfl) (by kernel_rfl) (by kernel_rfl) (fun _ _ _ h => h) (Or.inr ⟨by rfl, rfl⟩) (by assumption) ?_
                  (try simp only [Act.put, List.setIfInBounds_toArray, List.set_cons_zero, List.set_cons_succ])
                  refine wpAnyH_take (i := 5) (oi := _) (v := undef) (by simp only [List.getElem?_toArray, List.getElem?_cons_succ, List.getElem?_cons_zero]; rfl) (by kernel_rfl) (by kernel_rfl) (by kernel_rfl) (fun _ _ _ h => h) (Or.inr ⟨by rfl, rfl⟩) (by assumption) ?_
                  (try simp only [Act.put, List.setIfInBounds_toArray, List.set_cons_zero, List.set_cons_succ])
                  refine wpAnyH_take (i := 6) (oi := _) (v := undef) (by simp only [List.getElem?_toArray, List.getElem?_cons_succ, List.getElem?_cons_zero]; rfl) (by kernel_rfl) (by kernel_rfl) (by kernel_rfl) (fun _ _ _ h => h) (Or.inr ⟨by rfl, rfl⟩) (by assumption) ?_
                  (try simp only [Act.put, List.setIfInBounds_toArray, List.set_cons_zero, List.set_cons_succ])
                  refine wpAnyH_take (i := 7) (oi := _) (v := undef) (by simp only [List.getElem?_toArray, List.getElem?_cons_succ, List.getElem?_cons_zero]; rfl) (by kernel_rfl) (by kernel_rfl) (by kernel_rfl) (fun _ _ _ h => h) (Or.inr ⟨by rfl, rfl⟩) (by assumption) ?_
                  (try simp only [Act.put, List.setIfInBounds_toArray, List.set_cons_zero, List.set_cons_succ])
                  refine wpAnyH_take (i := 8) (oi := _) (v := undef) (by simp only [List.getElem?_toArray, List.getElem?_cons_succ, List.getElem?_cons_zero]; rfl) (by kernel_rfl) (by kernel_rfl) (by kernel_rfl) (fun _ _ _ h => h) (Or.inr ⟨by rfl, rfl⟩) (by assumption) ?_
                  (try simp only [Act.put, List.setIfInBounds_toArray, List.set_cons_zero, List.set_cons_succ])
                  refine wpAnyH_take (i := 9) (oi := _) (v := undef) (by simp only [List.getElem?_toArray, List.getElem?_cons_succ, List.getElem?_cons_zero]; rfl) (by kernel_rfl) (by kernel_rfl) (by kernel_rfl) (fun _ _ _ h => h) (Or.inr ⟨by rfl, rfl⟩) (by assumption) ?_
                  (try simp only [Act.put, List.setIfInBounds_toArray, List.set_cons_zero, List.set_cons_succ])
                  refine wpAnyH_take (i := 10) (oi := _) (v := undef) (by simp only [List.getElem?_toArray, List.getElem?_cons_succ, List.getElem?_cons_zero]; rfl) (by kernel_rfl) (by kernel_rfl) (by kernel_rfl) (fun _ _ _ h => h) (Or.inr ⟨by rfl, rfl⟩) (by assumption) ?_
                  (try simp only [Act.put, List.setIfInBounds_toArray, List.set_cons_zero, List.set_cons_succ])
                  refine wpAnyH_take (i := 11) (oi := _) (v := undef) (by simp only [List.getElem?_toArray, List.getElem?_cons_succ, List.getElem?_cons_zero]; rfl) (by kernel_rfl) (by kernel_rfl) (by kernel_rfl) (fun _ _ _ h => h) (Or.inr ⟨by rfl, rfl⟩) (by assumption) ?_
                  (try simp only [Act.put, List.setIfInBounds_toArray, List.set_cons_zero, List.set_cons_succ])
                  refine wpAnyH_take (i := 12) (oi := _) (v := undef) (by simp only [List.getElem?_toArray, List.getElem?_cons_succ, List.getElem?_cons_zero]; rfl) (by kernel_rfl) (by kernel_rfl) (by kernel_rfl) (fun _ _ _ h => h) (Or.inr ⟨by rfl, rfl⟩) (by assumption) ?_
                  (try simp only [Act.put, List.setIfInBounds_toArray, List.set_cons_zero, List.set_cons_succ])
                  refine wpAnyH_take (i := 13) (oi := _) (v := undef) (by simp only [List.getElem?_toArray, List.getElem?_cons_succ, List.getElem?_cons_zero]; rfl) (by kernel_rfl) (by kernel_rfl) (by kernel_rfl) (fun _ _ _ h => h) (Or.inr ⟨by rfl, rfl⟩) (by assumption) ?_
                  (try simp only [Act.put, List.setIfInBounds_toArray, List.set_cons_zero, List.set_cons_succ])
                  refine wpAnyH_take (i := 14) (oi := _) (v := ?_) (by simp only [List.getElem?_toArray, List.getElem?_cons_succ, List.getElem?_cons_zero]; rfl) (by kernel_rfl) (by kernel_rfl) (by kernel_rfl) (fun _ _ _ h => h) (Or.inl ⟨by rfl, ?_⟩) (by assumption) ?_
                  rotate_left
                  · (intro w hSw; (try dsimp only at hSw); go_simp; (try with_reducible rfl))
                  (try simp only [Act.put, List.setIfInBounds_toArray, List.set_cons_zero, List.set_cons_succ])
                  refine wpAnyH_done (by kernel_rfl) ?_ _
                  refine NoPanic.normal ?_
                  clear hH
                  go_wp2_with fail
                  go_roundw
                  case rel =>
                    have w3 := WI'.out
                    rw [HX.out] at w3
                    exact ⟨k + 1, inn, S', by have := MU.out; have := MU'.out; omega, by go_num, rfl, w3, by have := MU.out; have := MU'.out; omega, GS'.out, H4.out.kept (schE_stable.star none_stable) (by repeat (first | with_reducible (exact Keep.same _ _) | with_reducible (apply Keep.drew) | with_reducible (apply Keep.alloc)))⟩
                  case measure => simp [intOf]; omega
              · obtain ⟨i, t, x, hq0, hq1, hLq, ht, hrd, hx, hrx⟩ := round_some (picks := picks) (n := k) (S := S) rfl (by rw [PL.out]; exact h0)
                rw [PL.out] at hq0 hq1 hLq
                obtain ⟨q, hqz, hq⟩ : ∃ q : Nat, q = 0 ∧ pickI picks k L.length = (q : Int) := ⟨0, rfl, by unfold pickI; rw [List.getElem?_eq_none (by omega)]; rfl⟩
                rw [hq] at hq1 hLq
                simp only [Int.toNat_natCast] at hq1 hLq
                subst hqz
                clear hq0 hq
                obtain ⟨adl, rfl, hcl⟩ := R3.out.src.2 (by omega)
                have cl := hcl 0 (.int .i64 (i : Int)) (by unfold ints; rw [List.getElem?_map, hLq]; rfl)
                clear hcl
                rw [show adl.add 0 = adl from rfl] at cl
                have ST := Lib.hid (fun w' (hk' : Keep Nothing w2 w') => show Calls Try.prog 62 #[.pointer (some ⟨b, 0, none⟩), .int .i64 (i : Int)] w' (fun e w' => e = .returned (.tuple #[.agg #[.int .i64 (i : Int), .int .i64 (t.at_ : Int), .int .i64 (stepX S i t x).1], .int .i64 0]) ∧ Holds wq.heap.size wq w' (star (schE b bm (stepX S i t x).2) none_)) from e_step (H3.out.kept (schE_stable.star none_stable) hk') none_stable GS.out (by omega) i t ht hrd x hx)
                have GS' := Lib.hid (GS.out.step (x := x) ht hrd)
                obtain ⟨w1, w2', w3⟩ := ex_step K S inn WI.out i t x ht hrd hx
                have MU' := Lib.hid (mu_step (x := x) ht hrd)
                have WR := Lib.hid w1
                have WI' := Lib.hid w3
                obtain ⟨kk, hkk, hto⟩ := ex_ops WI.out.1 ht
                obtain ⟨adt, Ak, ck, rfl, hct, _⟩ := AO.out i (exO kk) (by rw [HM.out, List.getElem?_map, hkk]; rfl)
                have hil : i < Z.length := by
                  have h1 := (List.getElem?_eq_some_iff.1 hkk).1
                  have h2 := congrArg List.length HM.out
                  rw [List.length_map, List.length_map] at h2
                  omega
                have hm : ∃ m : Nat, m = (exO kk).length := ⟨_, rfl⟩
                obtain ⟨m, hm⟩ := hm
                rw [← hm] at hct
                have HML := Lib.hid (show t.ops.length = m ∧ 2 ≤ m ∧ m ≤ 7 by
                  have h1 := exO_len kk
                  have h2 : kk ≤ 5 := K5.out kk (List.mem_of_getElem? hkk)
                  rw [hto, hm]; omega)
                have CT := Lib.hid hct
                obtain ⟨m1, hm1⟩ : ∃ m1 : Int, m1 = (m : Int) - 1 := ⟨_, rfl⟩
                have hwA : IntKind.i64.wrap ((m : Int) - 1) = m1 := by rw [IntKind.wrap_i64]; have := HML.out; omega
                have hwB : wrap64 ((m : Int) - 1) = m1 := by unfold wrap64; have := HML.out; omega
                have HM1 := Lib.hid hm1
                have W2 := Lib.hid w2'
                clear ht hrd hx hrx hLq w1 w2' w3 hkk hto hct hm hm1
                generalize hS' : (stepX S i t x).2 = S' at *
                generalize her : (stepX S i t x).1 = er at *
                have er0 := WR.out
                subst er0
                obtain ⟨a, ha⟩ : ∃ a : Int, a = (t.at_ : Int) := ⟨_, rfl⟩
                rw [← ha] at ST
                have HA := Lib.hid ha
                clear hS' her ha
                rcases (show (0 < t.at_ ∧ t.at_ < m - 1) ∨ (0 < t.at_ ∧ ¬ t.at_ < m - 1) ∨ t.at_ = 0 by omega) with ⟨q1, q2⟩ | ⟨q1, q2⟩ | q1
                · have d1 : decide (0 < a) = true := decide_eq_true (by have := HA.out; omega)
                  have d2 : decide (a < m1) = true := decide_eq_true (by have := HA.out; have := HM1.out; omega)
                  have HX := Lib.hid (show innX inn i t.at_ t.ops.length = i by unfold innX; rw [if_pos ⟨q1, by rw [HML.out.1]; exact q2⟩])
                  rcases (W2.out q1 (by rw [HML.out.1]; exact q2)) with d3 | d3
                  · have d4 : decide (0 ≤ inn) = false := decide_eq_false (by omega)
                    clear q1 q2 d3
                    go_wp2_with fail
                    refine (ST.out _ (by repeat (first | with_reducible (exact Keep.same _ _) | with_reducible (apply Keep.drew) | with_reducible (apply Keep.alloc)))).mono ?_
                    rintro e w4 ⟨rfl, hh4⟩
                    have H4 := Lib.hid (hh4.alloc (schE_stable.star none_stable) (.cells #[.int .i64 (i : Int), .int .i64 a, .int .i64 0] 103))
                    have B4 := Blk.fresh w4 103 #[.int .i64 (i : Int), .int .i64 a, .int .i64 0]
                    have f0 := B4.cell 0
                    have f1 := B4.cell 1
                    have f2 := B4.cell 2
                    have ct := (Keep.of_below H4.out.below Nothing).cell CT.out (fun h => h)
                    have hH : (fun w' => w'.cell? ⟨w4.heap.size, 0, none⟩ = some (.int .i64 (i : Int)) ∧ w'.cell? ⟨w4.heap.size, 1, none⟩ = some (.int .i64 a) ∧ w'.cell? (adt.add i) = some (.slice Ak m ck)) (w4.alloc (.cells #[.int .i64 (i : Int), .int .i64 a, .int .i64 0] 103)) := ⟨f0, f1, ct⟩
                    dsimp only at hH
                    clear hh4 B4
                    go_wp2_with fail
                    refine wp_region_noPanic ?_
                    refine wp_region_held_drew (S := (fun w' => w'.cell? ⟨w4.heap.size, 0, none⟩ = some (.int .i64 (i : Int)) ∧ w'.cell? ⟨w4.heap.size, 1, none⟩ = some (.int .i64 a) ∧ w'.cell? (adt.add i) = some (.slice Ak m ck))) (by kernel_rfl) hH (fun hHeld => ?_)
                    refine wpAnyH_take (i := 0) (oi := _) (v := ?_) (by simp only [List.getElem?_toArray, List.getElem?_cons_succ, List.getElem?_cons_zero]; rfl) (by kernel_rfl) (by kernel_rfl) (by kernel_rfl) (fun _ _ _ h => h) (Or.inl ⟨by rfl, ?_⟩) (by assumption) ?_
                    rotate_left
                    · (intro w hSw; (try dsimp only at hSw); go_simp; (try with_reducible rfl))
                    (try simp only [Act.put, List.setIfInBounds_toArray, List.set_cons_zero, List.set_cons_succ])
                    refine wpAnyH_take (i := 1) (oi := _) (v := ?_) (by simp only [List.getElem?_toArray, List.getElem?_cons_succ, List.getElem?_cons_zero]; rfl) (by kernel_rfl) (by kernel_rfl) (by kernel_rfl) (fun _ _ _ h => h) (Or.inl ⟨by rfl, ?_⟩) (by assumption) ?_
                    rotate_left
                    · (intro w hSw; (try dsimp only at hSw); go_simp; (try with_reducible rfl))
                    (try simp only [Act.put, List.setIfInBounds_toArray, List.set_cons_zero, List.set_cons_succ])
                    refine wpAnyH_take (i := 2) (oi := _) (v := ?_) (by simp only [List.getElem?_toArray, List.getElem?_cons_succ, List.getElem?_cons_zero]; rfl) (by kernel_rfl) (by kernel_rfl) (by kernel_rfl) (fun _ _ _ h => h) (Or.inl ⟨by rfl, ?_⟩) (by assumption) ?_
                    rotate_left
                    · (intro w hSw; (try dsimp only at hSw); go_simp; (try with_reducible rfl))
                    (try simp only [Act.put, List.setIfInBounds_toArray, List.set_cons_zero, List.set_cons_succ])
                    refine wpAnyH_take (i := 3) (oi := _) (v := ?_) (by simp only [List.getElem?_toArray, List.getElem?_cons_succ, List.getElem?_cons_zero]; rfl) (by kernel_rfl) (by kernel_rfl) (by kernel_rfl) (fun _ _ _ h => h) (Or.inl ⟨by rfl, ?_⟩) (by assumption) ?_
                    rotate_left
                    · (intro w hSw; (try dsimp only at hSw); go_simp; (try with_reducible rfl))
                    (try simp only [Act.put, List.setIfInBounds_toArray, List.set_cons_zero, List.set_cons_succ])
                    refine wpAnyH_take (i := 4) (oi := _) (v := ?_) (by simp only [List.getElem?_toArray, List.getElem?_cons_succ, List.getElem?_cons_zero]; rfl) (by kernel_rfl) (by kernel_rfl) (by kernel_rfl) (fun _ _ _ h => h) (Or.inl ⟨by rfl, ?_⟩) (by assumption) ?_
                    rotate_left
                    · (intro w hSw; (try dsimp only at hSw); go_simp; (try with_reducible rfl))
                    (try simp only [Act.put, List.setIfInBounds_toArray, List.set_cons_zero, List.set_cons_succ])
                    refine wpAnyH_take (i := 5) (oi := _) (v := ?_) (by simp only [List.getElem?_toArray, List.getElem?_cons_succ, List.getElem?_cons_zero]; rfl) (by kernel_rfl) (by kernel_rfl) (by kernel_rfl) (fun _ _ _ h => h) (Or.inl ⟨by rfl, ?_⟩) (by assumption) ?_
                    rotate_left
                    · (intro w hSw; (try dsimp only at hSw); go_simp; (try with_reducible rfl))
                    (try simp only [Act.put, List.setIfInBounds_toArray, List.set_cons_zero, List.set_cons_succ])
                    refine wpAnyH_take (i := 6) (oi := _) (v := ?_) (by simp only [List.getElem?_toArray, List.getElem?_cons_succ, List.getElem?_cons_zero]; rfl) (by kernel_rfl) (by kernel_rfl) (by kernel_rfl) (fun _ _ _ h => h) (Or.inl ⟨by rfl, ?_⟩) (by assumption) ?_
                    rotate_left
                    · (intro w hSw; (try dsimp only at hSw); go_simp; (try with_reducible rfl))
                    (try simp only [Act.put, List.setIfInBounds_toArray, List.set_cons_zero, List.set_cons_succ])
                    refine wpAnyH_take (i := 7) (oi := _) (v := ?_) (by simp only [List.getElem?_toArray, List.getElem?_cons_succ, List.getElem?_cons_zero]; rfl) (by kernel_rfl) (by kernel_rfl) (by kernel_rfl) (fun _ _ _ h => h) (Or.inl ⟨by rfl, ?_⟩) (by assumption) ?_
                    rotate_left
                    · (intro w hSw; (try dsimp only at hSw); go_simp; (try with_reducible rfl))
                    (try simp only [Act.put, List.setIfInBounds_toArray, List.set_cons_zero, List.set_cons_succ])
                    refine wpAnyH_take (i := 8) (oi := _) (v := ?_) (by simp only [List.getElem?_toArray, List.getElem?_cons_succ, List.getElem?_cons_zero]; rfl) (by kernel_rfl) (by kernel_rfl) (by kernel_rfl) (fun _ _ _ h => h) (Or.inl ⟨by rfl, ?_⟩) (by assumption) ?_
                    rotate_left
                    · (intro w hSw; (try dsimp only at hSw); go_simp; (try with_reducible rfl))
                    (try simp only [Act.put, List.setIfInBounds_toArray, List.set_cons_zero, List.set_cons_succ])
                    refine wpAnyH_take (i := 9) (oi := _) (v := ?_) (by simp only [List.getElem?_toArray, List.getElem?_cons_succ, List.getElem?_cons_zero]; rfl) (by kernel_rfl) (by kernel_rfl) (by kernel_rfl) (fun _ _ _ h => h) (Or.inl ⟨by rfl, ?_⟩) (by assumption) ?_
                    rotate_left
                    · (intro w hSw; (try dsimp only at hSw); go_simp; (try with_reducible rfl))
                    (try simp only [Act.put, List.setIfInBounds_toArray, List.set_cons_zero, List.set_cons_succ])
                    refine wpAnyH_take (i := 10) (oi := _) (v := ?_) (by simp only [List.getElem?_toArray, List.getElem?_cons_succ, List.getElem?_cons_zero]; rfl) (by kernel_rfl) (by kernel_rfl) (by kernel_rfl) (fun _ _ _ h => h) (Or.inl ⟨by rfl, ?_⟩) (by assumption) ?_
                    rotate_left
                    · (intro w hSw; (try dsimp only at hSw); go_simp; (try with_reducible rfl))
                    (try simp only [Act.put, List.setIfInBounds_toArray, List.set_cons_zero, List.set_cons_succ])
                    refine wpAnyH_take (i := 11) (oi := _) (v := ?_) (by simp only [List.getElem?_toArray, List.getElem?_cons_succ, List.getElem?_cons_zero]; rfl) (by kernel_rfl) (by kernel_rfl) (by kernel_rfl) (fun _ _ _ h => h) (Or.inl ⟨by rfl, ?_⟩) (by assumption) ?_
                    rotate_left
                    · (intro w hSw; (try dsimp only at hSw); go_simp; (try with_reducible rfl))
                    (try simp only [Act.put, List.setIfInBounds_toArray, List.set_cons_zero, List.set_cons_succ])
                    refine wpAnyH_take (i := 12) (oi := _) (v := ?_) (by simp only [List.getElem?_toArray, List.getElem?_cons_succ, List.getElem?_cons_zero]; rfl) (by kernel_rfl) (by kernel_rfl) (by kernel_rfl) (fun _ _ _ h => h) (Or.inl ⟨by rfl, ?_⟩) (by assumption) ?_
                    rotate_left
                    · (intro w hSw; (try dsimp only at hSw); go_simp; (try with_reducible rfl))
                    (try simp only [Act.put, List.setIfInBounds_toArray, List.set_cons_zero, List.set_cons_succ])
                    refine wpAnyH_take (i := 13) (oi := _) (v := ?_) (by simp only [List.getElem?_toArray, List.getElem?_cons_succ, List.getElem?_cons_zero]; rfl) (by kernel_rfl) (by kernel_rfl) (by kernel_rfl) (fun _ _ _ h => h) (Or.inl ⟨by rfl, ?_⟩) (by assumption) ?_
                    rotate_left
                    · (intro w hSw; (try dsimp only at hSw); go_simp; (try with_reducible rfl))
                    (try simp only [Act.put, List.setIfInBounds_toArray, List.set_cons_zero, List.set_cons_succ])
                    refine wpAnyH_take (i := 14) (oi := _) (v := ?_) (by simp only [List.getElem?_toArray, List.getElem?_cons_succ, List.getElem?_cons_zero]; rfl) (by kernel_rfl) (by kernel_rfl) (by kernel_rfl) (fun _ _ _ h => h) (Or.inl ⟨by rfl, ?_⟩) (by assumption) ?_
                    rotate_left
                    · (intro w hSw; (try dsimp only at hSw); go_simp; (try with_reducible rfl))
                    (try simp only [Act.put, List.setIfInBounds_toArray, List.set_cons_zero, List.set_cons_succ])
                    refine wpAnyH_done (by kernel_rfl) ?_ _
                    refine NoPanic.normal ?_
                    clear hH
                    go_wp2_with fail
                    go_roundw
                    case rel =>
                      have w3 := WI'.out
                      rw [HX.out] at w3
                      exact ⟨k + 1, (i : Int), S', by have := MU.out; have := MU'.out; omega, by go_num, rfl, w3, by have := MU.out; have := MU'.out; omega, GS'.out, H4.out.kept (schE_stable.star none_stable) (by repeat (first | with_reducible (exact Keep.same _ _) | with_reducible (apply Keep.drew) | with_reducible (apply Keep.alloc)))⟩
                    case measure => simp [intOf]; omega
                  · have d4 : decide (0 ≤ inn) = true := decide_eq_true (by omega)
                    have d5 : (inn != (i : Int)) = false := by simp [d3]
                    clear q1 q2 d3
                    go_wp2_with fail
                    refine (ST.out _ (by repeat (first | with_reducible (exact Keep.same _ _) | with_reducible (apply Keep.drew) | with_reducible (apply Keep.alloc)))).mono ?_
                    rintro e w4 ⟨rfl, hh4⟩
                    have H4 := Lib.hid (hh4.alloc (schE_stable.star none_stable) (.cells #[.int .i64 (i : Int), .int .i64 a, .int .i64 0] 103))
                    have B4 := Blk.fresh w4 103 #[.int .i64 (i : Int), .int .i64 a, .int .i64 0]
                    have f0 := B4.cell 0
                    have f1 := B4.cell 1
                    have f2 := B4.cell 2
                    have ct := (Keep.of_below H4.out.below Nothing).cell CT.out (fun h => h)
                    have hH : (fun w' => w'.cell? ⟨w4.heap.size, 0, none⟩ = some (.int .i64 (i : Int)) ∧ w'.cell? ⟨w4.heap.size, 1, none⟩ = some (.int .i64 a) ∧ w'.cell? (adt.add i) = some (.slice Ak m ck)) (w4.alloc (.cells #[.int .i64 (i : Int), .int .i64 a, .int .i64 0] 103)) := ⟨f0, f1, ct⟩
                    dsimp only at hH
                    clear hh4 B4
                    go_wp2_with fail
                    refine wp_region_noPanic ?_
                    refine wp_region_held_drew (S := (fun w' => w'.cell? ⟨w4.heap.size, 0, none⟩ = some (.int .i64 (i : Int)) ∧ w'.cell? ⟨w4.heap.size, 1, none⟩ = some (.int .i64 a) ∧ w'.cell? (adt.add i) = some (.slice Ak m ck))) (by kernel_rfl) hH (fun hHeld => ?_)
                    refine wpAnyH_take (i := 0) (oi := _) (v := ?_) (by simp only [List.getElem?_toArray, List.getElem?_cons_succ, List.getElem?_cons_zero]; rfl) (by kernel_rfl) (by kernel_rfl) (by kernel_rfl) (fun _ _ _ h => h) (Or.inl ⟨by rfl, ?_⟩) (by assumption) ?_
                    rotate_left
                    · (intro w hSw; (try dsimp only at hSw); go_simp; (try with_reducible rfl))
                    (try simp only [Act.put, List.setIfInBounds_toArray, List.set_cons_zero, List.set_cons_succ])
                    refine wpAnyH_take (i := 1) (oi := _) (v := ?_) (by simp only [List.getElem?_toArray, List.getElem?_cons_succ, List.getElem?_cons_zero]; rfl) (by kernel_rfl) (by kernel_rfl) (by kernel_rfl) (fun _ _ _ h => h) (Or.inl ⟨by rfl, ?_⟩) (by assumption) ?_
                    rotate_left
                    · (intro w hSw; (try dsimp only at hSw); go_simp; (try with_reducible rfl))
                    (try simp only [Act.put, List.setIfInBounds_toArray, List.set_cons_zero, List.set_cons_succ])
                    refine wpAnyH_take (i := 2) (oi := _) (v := ?_) (by simp only [List.getElem?_toArray, List.getElem?_cons_succ, List.getElem?_cons_zero]; rfl) (by kernel_rfl) (by kernel_rfl) (by kernel_rfl) (fun _ _ _ h => h) (Or.inl ⟨by rfl, ?_⟩) (by assumption) ?_
                    rotate_left
                    · (intro w hSw; (try dsimp only at hSw); go_simp; (try with_reducible rfl))
                    (try simp only [Act.put, List.setIfInBounds_toArray, List.set_cons_zero, List.set_cons_succ])
                    refine wpAnyH_take (i := 3) (oi := _) (v := ?_) (by simp only [List.getElem?_toArray, List.getElem?_cons_succ, List.getElem?_cons_zero]; rfl) (by kernel_rfl) (by kernel_rfl) (by kernel_rfl) (fun _ _ _ h => h) (Or.inl ⟨by rfl, ?_⟩) (by assumption) ?_
                    rotate_left
                    · (intro w hSw; (try dsimp only at hSw); go_simp; (try with_reducible rfl))
                    (try simp only [Act.put, List.setIfInBounds_toArray, List.set_cons_zero, List.set_cons_succ])
                    refine wpAnyH_take (i := 4) (oi := _) (v := ?_) (by simp only [List.getElem?_toArray, List.getElem?_cons_succ, List.getElem?_cons_zero]; rfl) (by kernel_rfl) (by kernel_rfl) (by kernel_rfl) (fun _ _ _ h => h) (Or.inl ⟨by rfl, ?_⟩) (by assumption) ?_
                    rotate_left
                    · (intro w hSw; (try dsimp only at hSw); go_simp; (try with_reducible rfl))
                    (try simp only [Act.put, List.setIfInBounds_toArray, List.set_cons_zero, List.set_cons_succ])
                    refine wpAnyH_take (i := 5) (oi := _) (v := ?_) (by simp only [List.getElem?_toArray, List.getElem?_cons_succ, List.getElem?_cons_zero]; rfl) (by kernel_rfl) (by kernel_rfl) (by kernel_rfl) (fun _ _ _ h => h) (Or.inl ⟨by rfl, ?_⟩) (by assumption) ?_
                    rotate_left
                    · (intro w hSw; (try dsimp only at hSw); go_simp; (try with_reducible rfl))
                    (try simp only [Act.put, List.setIfInBounds_toArray, List.set_cons_zero, List.set_cons_succ])
                    refine wpAnyH_take (i := 6) (oi := _) (v := ?_) (by simp only [List.getElem?_toArray, List.getElem?_cons_succ, List.getElem?_cons_zero]; rfl) (by kernel_rfl) (by kernel_rfl) (by kernel_rfl) (fun _ _ _ h => h) (Or.inl ⟨by rfl, ?_⟩) (by assumption) ?_
                    rotate_left
                    · (intro w hSw; (try dsimp only at hSw); go_simp; (try with_reducible rfl))
                    (try simp only [Act.put, List.setIfInBounds_toArray, List.set_cons_zero, List.set_cons_succ])
                    refine wpAnyH_take (i := 7) (oi := _) (v := ?_) (by simp only [List.getElem?_toArray, List.getElem?_cons_succ, List.getElem?_cons_zero]; rfl) (by kernel_rfl) (by kernel_rfl) (by kernel_rfl) (fun _ _ _ h => h) (Or.inl ⟨by rfl, ?_⟩) (by assumption) ?_
                    rotate_left
                    · (intro w hSw; (try dsimp only at hSw); go_simp; (try with_reducible rfl))
                    (try simp only [Act.put, List.setIfInBounds_toArray, List.set_cons_zero, List.set_cons_succ])
                    refine wpAnyH_take (i := 8) (oi := _) (v := ?_) (by simp only [List.getElem?_toArray, List.getElem?_cons_succ, List.getElem?_cons_zero]; rfl) (by kernel_rfl) (by kernel_rfl) (by kernel_rfl) (fun _ _ _ h => h) (Or.inl ⟨by rfl, ?_⟩) (by assumption) ?_
                    rotate_left
                    · (intro w hSw; (try dsimp only at hSw); go_simp; (try with_reducible rfl))
                    (try simp only [Act.put, List.setIfInBounds_toArray, List.set_cons_zero, List.set_cons_succ])
                    refine wpAnyH_take (i := 9) (oi := _) (v := ?_) (by simp only [List.getElem?_toArray, List.getElem?_cons_succ, List.getElem?_cons_zero]; rfl) (by kernel_rfl) (by kernel_rfl) (by kernel_rfl) (fun _ _ _ h => h) (Or.inl ⟨by rfl, ?_⟩) (by assumption) ?_
                    rotate_left
                    · (intro w hSw; (try dsimp only at hSw); go_simp; (try with_reducible rfl))
                    (try simp only [Act.put, List.setIfInBounds_toArray, List.set_cons_zero, List.set_cons_succ])
                    refine wpAnyH_take (i := 10) (oi := _) (v := ?_) (by simp only [List.getElem?_toArray, List.getElem?_cons_succ, List.getElem?_cons_zero]; rfl) (by kernel_rfl) (by kernel_rfl) (by kernel_rfl) (fun _ _ _ h => h) (Or.inl ⟨by rfl, ?_⟩) (by assumption) ?_
                    rotate_left
                    · (intro w hSw; (try dsimp only at hSw); go_simp; (try with_reducible rfl))
                    (try simp only [Act.put, List.setIfInBounds_toArray, List.set_cons_zero, List.set_cons_succ])
                    refine wpAnyH_take (i := 11) (oi := _) (v := ?_) (by simp only [List.getElem?_toArray, List.getElem?_cons_succ, List.getElem?_cons_zero]; rfl) (by kernel_rfl) (by kernel_rfl) (by kernel_rfl) (fun _ _ _ h => h) (Or.inl ⟨by rfl, ?_⟩) (by assumption) ?_
                    rotate_left
                    · (intro w hSw; (try dsimp only at hSw); go_simp; (try with_reducible rfl))
                    (try simp only [Act.put, List.setIfInBounds_toArray, List.set_cons_zero, List.set_cons_succ])
                    refine wpAnyH_take (i := 12) (oi := _) (v := ?_) (by simp only [List.getElem?_toArray, List.getElem?_cons_succ, List.getElem?_cons_zero]; rfl) (by kernel_rfl) (by kernel_rfl) (by kernel_rfl) (fun _ _ _ h => h) (Or.inl ⟨by rfl, ?_⟩) (by assumption) ?_
                    rotate_left
                    · (intro w hSw; (try dsimp only at hSw); go_simp; (try with_reducible rfl))
                    (try simp only [Act.put, List.setIfInBounds_toArray, List.set_cons_zero, List.set_cons_succ])
                    refine wpAnyH_take (i := 13) (oi := _) (v := ?_) (by simp only [List.getElem?_toArray, List.getElem?_cons_succ, List.getElem?_cons_zero]; rfl) (by kernel_rfl) (by kernel_rfl) (by kernel_rfl) (fun _ _ _ h => h) (Or.inl ⟨by rfl, ?_⟩) (by assumption) ?_
                    rotate_left
                    · (intro w hSw; (try dsimp only at hSw); go_simp; (try with_reducible rfl))
                    (try simp only [Act.put, List.setIfInBounds_toArray, List.set_cons_zero, List.set_cons_succ])
                    refine wpAnyH_take (i := 14) (oi := _) (v := ?_) (by simp only [List.getElem?_toArray, List.getElem?_cons_succ, List.getElem?_cons_zero]; rfl) (by kernel_rfl) (by kernel_rfl) (by kernel_rfl) (fun _ _ _ h => h) (Or.inl ⟨by rfl, ?_⟩) (by assumption) ?_
                    rotate_left
                    · (intro w hSw; (try dsimp only at hSw); go_simp; (try with_reducible rfl))
                    (try simp only [Act.put, List.setIfInBounds_toArray, List.set_cons_zero, List.set_cons_succ])
                    refine wpAnyH_done (by kernel_rfl) ?_ _
                    refine NoPanic.normal ?_
                    clear hH
                    go_wp2_with fail
                    go_roundw
                    case rel =>
                      have w3 := WI'.out
                      rw [HX.out] at w3
                      exact ⟨k + 1, (i : Int), S', by have := MU.out; have := MU'.out; omega, by go_num, rfl, w3, by have := MU.out; have := MU'.out; omega, GS'.out, H4.out.kept (schE_stable.star none_stable) (by repeat (first | with_reducible (exact Keep.same _ _) | with_reducible (apply Keep.drew) | with_reducible (apply Keep.alloc)))⟩
                    case measure => simp [intOf]; omega
                · have d1 : decide (0 < a) = true := decide_eq_true (by have := HA.out; omega)
                  have d2 : decide (a < m1) = false := decide_eq_false (by have := HA.out; have := HM1.out; omega)
                  rcases Decidable.em (inn = (i : Int)) with d3 | d3
                  · have d5 : (inn == (i : Int)) = true := by simp [d3]
                    have HX := Lib.hid (show innX inn i t.at_ t.ops.length = -1 by unfold innX; rw [if_neg (fun h => q2 (by have := h.2; rw [HML.out.1] at this; exact this)), if_pos ⟨q1, d3⟩])
                    clear q1 q2 d3
                    go_wp2_with fail
                    refine (ST.out _ (by repeat (first | with_reducible (exact Keep.same _ _) | with_reducible (apply Keep.drew) | with_reducible (apply Keep.alloc)))).mono ?_
                    rintro e w4 ⟨rfl, hh4⟩
                    have H4 := Lib.hid (hh4.alloc (schE_stable.star none_stable) (.cells #[.int .i64 (i : Int), .int .i64 a, .int .i64 0] 103))
                    have B4 := Blk.fresh w4 103 #[.int .i64 (i : Int), .int .i64 a, .int .i64 0]
                    have f0 := B4.cell 0
                    have f1 := B4.cell 1
                    have f2 := B4.cell 2
                    have ct := (Keep.of_below H4.out.below Nothing).cell CT.out (fun h => h)
                    have hH : (fun w' => w'.cell? ⟨w4.heap.size, 0, none⟩ = some (.int .i64 (i : Int)) ∧ w'.cell? ⟨w4.heap.size, 1, none⟩ = some (.int .i64 a) ∧ w'.cell? (adt.add i) = some (.slice Ak m ck)) (w4.alloc (.cells #[.int .i64 (i : Int), .int .i64 a, .int .i64 0] 103)) := ⟨f0, f1, ct⟩
                    dsimp only at hH
                    clear hh4 B4
                    go_wp2_with fail
                    refine wp_region_noPanic ?_
                    refine wp_region_held_drew (S := (fun w' => w'.cell? ⟨w4.heap.size, 0, none⟩ = some (.int .i64 (i : Int)) ∧ w'.cell? ⟨w4.heap.size, 1, none⟩ = some (.int .i64 a) ∧ w'.cell? (adt.add i) = some (.slice Ak m ck))) (by kernel_rfl) hH (fun hHeld => ?_)
                    refine wpAnyH_take (i := 0) (oi := _) (v := ?_) (by simp only [List.getElem?_toArray, List.getElem?_cons_succ, List.getElem?_cons_zero]; rfl) (by kernel_rfl) (by kernel_rfl) (by kernel_rfl) (fun _ _ _ h => h) (Or.inl ⟨by rfl, ?_⟩) (by assumption) ?_
                    rotate_left
                    · (intro w hSw; (try dsimp only at hSw); go_simp; (try with_reducible rfl))
                    (try simp only [Act.put, List.setIfInBounds_toArray, List.set_cons_zero, List.set_cons_succ])
                    refine wpAnyH_take (i := 1) (oi := _) (v := ?_) (by simp only [List.getElem?_toArray, List.getElem?_cons_succ, List.getElem?_cons_zero]; rfl) (by kernel_rfl) (by kernel_rfl) (by kernel_rfl) (fun _ _ _ h => h) (Or.inl ⟨by rfl, ?_⟩) (by assumption) ?_
                    rotate_left
                    · (intro w hSw; (try dsimp only at hSw); go_simp; (try with_reducible rfl))
                    (try simp only [Act.put, List.setIfInBounds_toArray, List.set_cons_zero, List.set_cons_succ])
                    refine wpAnyH_take (i := 2) (oi := _) (v := ?_) (by simp only [List.getElem?_toArray, List.getElem?_cons_succ, List.getElem?_cons_zero]; rfl) (by kernel_rfl) (by kernel_rfl) (by kernel_rfl) (fun _ _ _ h => h) (Or.inl ⟨by rfl, ?_⟩) (by assumption) ?_
                    rotate_left
                    · (intro w hSw; (try dsimp only at hSw); go_simp; (try with_reducible rfl))
                    (try simp only [Act.put, List.setIfInBounds_toArray, List.set_cons_zero, List.set_cons_succ])
                    refine wpAnyH_take (i := 3) (oi := _) (v := ?_) (by simp only [List.getElem?_toArray, List.getElem?_cons_succ, List.getElem?_cons_zero]; rfl) (by kernel_rfl) (by kernel_rfl) (by kernel_rfl) (fun _ _ _ h => h) (Or.inl ⟨by rfl, ?_⟩) (by assumption) ?_
                    rotate_left
                    · (intro w hSw; (try dsimp only at hSw); go_simp; (try with_reducible rfl))
                    (try simp only [Act.put, List.setIfInBounds_toArray, List.set_cons_zero, List.set_cons_succ])
                    refine wpAnyH_take (i := 4) (oi := _) (v := ?_) (by simp only [List.getElem?_toArray, List.getElem?_cons_succ, List.getElem?_cons_zero]; rfl) (by kernel_rfl) (by kernel_rfl) (by kernel_rfl) (fun _ _ _ h => h) (Or.inl ⟨by rfl, ?_⟩) (by assumption) ?_
                    rotate_left
                    · (intro w hSw; (try dsimp only at hSw); go_simp; (try with_reducible rfl))
                    (try simp only [Act.put, List.setIfInBounds_toArray, List.set_cons_zero, List.set_cons_succ])
                    refine wpAnyH_take (i := 5) (oi := _) (v := ?_) (by simp only [List.getElem?_toArray, List.getElem?_cons_succ, List.getElem?_cons_zero]; rfl) (by kernel_rfl) (by kernel_rfl) (by kernel_rfl) (fun _ _ _ h => h) (Or.inl ⟨by rfl, ?_⟩) (by assumption) ?_
                    rotate_left
                    · (intro w hSw; (try dsimp only at hSw); go_simp; (try with_reducible rfl))
                    (try simp only [Act.put, List.setIfInBounds_toArray, List.set_cons_zero, List.set_cons_succ])
                    refine wpAnyH_take (i := 6) (oi := _) (v := ?_) (by simp only [List.getElem?_toArray, List.getElem?_cons_succ, List.getElem?_cons_zero]; rfl) (by kernel_rfl) (by kernel_rfl) (by kernel_rfl) (fun _ _ _ h => h) (Or.inl ⟨by rfl, ?_⟩) (by assumption) ?_
                    rotate_left
                    · (intro w hSw; (try dsimp only at hSw); go_simp; (try with_reducible rfl))
                    (try simp only [Act.put, List.setIfInBounds_toArray, List.set_cons_zero, List.set_cons_succ])
                    refine wpAnyH_take (i := 7) (oi := _) (v := ?_) (by simp only [List.getElem?_toArray, List.getElem?_cons_succ, List.getElem?_cons_zero]; rfl) (by kernel_rfl) (by kernel_rfl) (by kernel_rfl) (fun _ _ _ h => h) (Or.inl ⟨by rfl, ?_⟩) (by assumption) ?_
                    rotate_left
                    · (intro w hSw; (try dsimp only at hSw); go_simp; (try with_reducible rfl))
                    (try simp only [Act.put, List.setIfInBounds_toArray, List.set_cons_zero, List.set_cons_succ])
                    refine wpAnyH_take (i := 8) (oi := _) (v := ?_) (by simp only [List.getElem?_toArray, List.getElem?_cons_succ, List.getElem?_cons_zero]; rfl) (by kernel_rfl) (by kernel_rfl) (by kernel_rfl) (fun _ _ _ h => h) (Or.inl ⟨by rfl, ?_⟩) (by assumption) ?_
                    rotate_left
                    · (intro w hSw; (try dsimp only at hSw); go_simp; (try with_reducible rfl))
                    (try simp only [Act.put, List.setIfInBounds_toArray, List.set_cons_zero, List.set_cons_succ])
                    refine wpAnyH_take (i := 9) (oi := _) (v := ?_) (by simp only [List.getElem?_toArray, List.getElem?_cons_succ, List.getElem?_cons_zero]; rfl) (by kernel_rfl) (by kernel_rfl) (by kernel_rfl) (fun _ _ _ h => h) (Or.inl ⟨by rfl, ?_⟩) (by assumption) ?_
                    rotate_left
                    · (intro w hSw; (try dsimp only at hSw); go_simp; (try with_reducible rfl))
                    (try simp only [Act.put, List.setIfInBounds_toArray, List.set_cons_zero, List.set_cons_succ])
                    refine wpAnyH_take (i := 10) (oi := _) (v := ?_) (by simp only [List.getElem?_toArray, List.getElem?_cons_succ, List.getElem?_cons_zero]; rfl) (by kernel_rfl) (by kernel_rfl) (by kernel_rfl) (fun _ _ _ h => h) (Or.inl ⟨by rfl, ?_⟩) (by assumption) ?_
                    rotate_left
                    · (intro w hSw; (try dsimp only at hSw); go_simp; (try with_reducible rfl))
                    (try simp only [Act.put, List.setIfInBounds_toArray, List.set_cons_zero, List.set_cons_succ])
                    refine wpAnyH_take (i := 11) (oi := _) (v := ?_) (by simp only [List.getElem?_toArray, List.getElem?_cons_succ, List.getElem?_cons_zero]; rfl) (by kernel_rfl) (by kernel_rfl) (by kernel_rfl) (fun _ _ _ h => h) (Or.inl ⟨by rfl, ?_⟩) (by assumption) ?_
                    rotate_left
                    · (intro w hSw; (try dsimp only at hSw); go_simp; (try with_reducible rfl))
                    (try simp only [Act.put, List.setIfInBounds_toArray, List.set_cons_zero, List.set_cons_succ])
                    refine wpAnyH_take (i := 12) (oi := _) (v := ?_) (by simp only [List.getElem?_toArray, List.getElem?_cons_succ, List.getElem?_cons_zero]; rfl) (by kernel_rfl) (by kernel_rfl) (by kernel_rfl) (fun _ _ _ h => h) (Or.inl ⟨by rfl, ?_⟩) (by assumption) ?_
                    rotate_left
                    · (intro w hSw; (try dsimp only at hSw); go_simp; (try with_reducible rfl))
                    (try simp only [Act.put, List.setIfInBounds_toArray, List.set_cons_zero, List.set_cons_succ])
                    refine wpAnyH_take (i := 13) (oi := _) (v := ?_) (by simp only [List.getElem?_toArray, List.getElem?_cons_succ, List.getElem?_cons_zero]; rfl) (by kernel_rfl) (by kernel_rfl) (by kernel_rfl) (fun _ _ _ h => h) (Or.inl ⟨by rfl, ?_⟩) (by assumption) ?_
                    rotate_left
                    · (intro w hSw; (try dsimp only at hSw); go_simp; (try with_reducible rfl))
                    (try simp only [Act.put, List.setIfInBounds_toArray, List.set_cons_zero, List.set_cons_succ])
                    refine wpAnyH_take (i := 14) (oi := _) (v := ?_) (by simp only [List.getElem?_toArray, List.getElem?_cons_succ, List.getElem?_cons_zero]; rfl) (by kernel_rfl) (by kernel_rfl) (by kernel_rfl) (fun _ _ _ h => h) (Or.inl ⟨by rfl, ?_⟩) (by assumption) ?_
                    rotate_left
                    · (intro w hSw; (try dsimp only at hSw); go_simp; (try with_reducible rfl))
                    (try simp only [Act.put, List.setIfInBounds_toArray, List.set_cons_zero, List.set_cons_succ])
                    refine wpAnyH_done (by kernel_rfl) ?_ _
                    refine NoPanic.normal ?_
                    clear hH
                    go_wp2_with fail
                    go_roundw
                    case rel =>
                      have w3 := WI'.out
                      rw [HX.out] at w3
                      exact ⟨k + 1, (-1), S', by have := MU.out; have := MU'.out; omega, by go_num, rfl, w3, by have := MU.out; have := MU'.out; omega, GS'.out, H4.out.kept (schE_stable.star none_stable) (by repeat (first | with_reducible (exact Keep.same _ _) | with_reducible (apply Keep.drew) | with_reducible (apply Keep.alloc)))⟩
                    case measure => simp [intOf]; omega
                  · have d5 : (inn == (i : Int)) = false := by simp [d3]
                    have HX := Lib.hid (show innX inn i t.at_ t.ops.length = inn by unfold innX; rw [if_neg (fun h => q2 (by have := h.2; rw [HML.out.1] at this; exact this)), if_neg (fun h => d3 h.2)])
                    clear q1 q2 d3
                    go_wp2_with fail
                    refine (ST.out _ (by repeat (first | with_reducible (exact Keep.same _ _) | with_reducible (apply Keep.drew) | with_reducible (apply Keep.alloc)))).mono ?_
                    rintro e w4 ⟨rfl, hh4⟩
                    have H4 := Lib.hid (hh4.alloc (schE_stable.star none_stable) (.cells #[.int .i64 (i : Int), .int .i64 a, .int .i64 0] 103))
                    have B4 := Blk.fresh w4 103 #[.int .i64 (i : Int), .int .i64 a, .int .i64 0]
                    have f0 := B4.cell 0
                    have f1 := B4.cell 1
                    have f2 := B4.cell 2
                    have ct := (Keep.of_below H4.out.below Nothing).cell CT.out (fun h => h)
                    have hH : (fun w' => w'.cell? ⟨w4.heap.size, 0, none⟩ = some (.int .i64 (i : Int)) ∧ w'.cell? ⟨w4.heap.size, 1, none⟩ = some (.int .i64 a) ∧ w'.cell? (adt.add i) = some (.slice Ak m ck)) (w4.alloc (.cells #[.int .i64 (i : Int), .int .i64 a, .int .i64 0] 103)) := ⟨f0, f1, ct⟩
                    dsimp only at hH
                    clear hh4 B4
                    go_wp2_with fail
                    refine wp_region_noPanic ?_
                    refine wp_region_held_drew (S := (fun w' => w'.cell? ⟨w4.heap.size, 0, none⟩ = some (.int .i64 (i : Int)) ∧ w'.cell? ⟨w4.heap.size, 1, none⟩ = some (.int .i64 a) ∧ w'.cell? (adt.add i) = some (.slice Ak m ck))) (by kernel_rfl) hH (fun hHeld => ?_)
                    refine wpAnyH_take (i := 0) (oi := _) (v := ?_) (by simp only [List.getElem?_toArray, List.getElem?_cons_succ, List.getElem?_cons_zero]; rfl) (by kernel_rfl) (by kernel_rfl) (by kernel_rfl) (fun _ _ _ h => h) (Or.inl ⟨by rfl, ?_⟩) (by assumption) ?_
                    rotate_left
                    · (intro w hSw; (try dsimp only at hSw); go_simp; (try with_reducible rfl))
                    (try simp only [Act.put, List.setIfInBounds_toArray, List.set_cons_zero, List.set_cons_succ])
                    refine wpAnyH_take (i := 1) (oi := _) (v := ?_) (by simp only [List.getElem?_toArray, List.getElem?_cons_succ, List.getElem?_cons_zero]; rfl) (by kernel_rfl) (by kernel_rfl) (by kernel_rfl) (fun _ _ _ h => h) (Or.inl ⟨by rfl, ?_⟩) (by assumption) ?_
                    rotate_left
                    · (intro w hSw; (try dsimp only at hSw); go_simp; (try with_reducible rfl))
                    (try simp only [Act.put, List.setIfInBounds_toArray, List.set_cons_zero, List.set_cons_succ])
                    refine wpAnyH_take (i := 2) (oi := _) (v := ?_) (by simp only [List.getElem?_toArray, List.getElem?_cons_succ, List.getElem?_cons_zero]; rfl) (by kernel_rfl) (by kernel_rfl) (by kernel_rfl) (fun _ _ _ h => h) (Or.inl ⟨by rfl, ?_⟩) (by assumption) ?_
                    rotate_left
                    · (intro w hSw; (try dsimp only at hSw); go_simp; (try with_reducible rfl))
                    (try simp only [Act.put, List.setIfInBounds_toArray, List.set_cons_zero, List.set_cons_succ])
                    refine wpAnyH_take (i := 3) (oi := _) (v := ?_) (by simp only [List.getElem?_toArray, List.getElem?_cons_succ, List.getElem?_cons_zero]; rfl) (by kernel_rfl) (by kernel_rfl) (by kernel_rfl) (fun _ _ _ h => h) (Or.inl ⟨by rfl, ?_⟩) (by assumption) ?_
                    rotate_left
                    · (intro w hSw; (try dsimp only at hSw); go_simp; (try with_reducible rfl))
                    (try simp only [Act.put, List.setIfInBounds_toArray, List.set_cons_zero, List.set_cons_succ])
                    refine wpAnyH_take (i := 4) (oi := _) (v := ?_) (by simp only [List.getElem?_toArray, List.getElem?_cons_succ, List.getElem?_cons_zero]; rfl) (by kernel_rfl) (by kernel_rfl) (by kernel_rfl) (fun _ _ _ h => h) (Or.inl ⟨by rfl, ?_⟩) (by assumption) ?_
                    rotate_left
                    · (intro w hSw; (try dsimp only at hSw); go_simp; (try with_reducible rfl))
                    (try simp only [Act.put, List.setIfInBounds_toArray, List.set_cons_zero, List.set_cons_succ])
                    refine wpAnyH_take (i := 5) (oi := _) (v := ?_) (by simp only [List.getElem?_toArray, List.getElem?_cons_succ, List.getElem?_cons_zero]; rfl) (by kernel_rfl) (by kernel_rfl) (by kernel_rfl) (fun _ _ _ h => h) (Or.inl ⟨by rfl, ?_⟩) (by assumption) ?_
                    rotate_left
                    · (intro w hSw; (try dsimp only at hSw); go_simp; (try with_reducible rfl))
                    (try simp only [Act.put, List.setIfInBounds_toArray, List.set_cons_zero, List.set_cons_succ])
                    refine wpAnyH_take (i := 6) (oi := _) (v := ?_) (by simp only [List.getElem?_toArray, List.getElem?_cons_succ, List.getElem?_cons_zero]; rfl) (by kernel_rfl) (by kernel_rfl) (by kernel_rfl) (fun _ _ _ h => h) (Or.inl ⟨by rfl, ?_⟩) (by assumption) ?_
                    rotate_left
                    · (intro w hSw; (try dsimp only at hSw); go_simp; (try with_reducible rfl))
                    (try simp only [Act.put, List.setIfInBounds_toArray, List.set_cons_zero, List.set_cons_succ])
                    refine wpAnyH_take (i := 7) (oi := _) (v := ?_) (by simp only [List.getElem?_toArray, List.getElem?_cons_succ, List.getElem?_cons_zero]; rfl) (by kernel_rfl) (by kernel_rfl) (by kernel_rfl) (fun _ _ _ h => h) (Or.inl ⟨by rfl, ?_⟩) (by assumption) ?_
                    rotate_left
                    · (intro w hSw; (try dsimp only at hSw); go_simp; (try with_reducible rfl))
                    (try simp only [Act.put, List.setIfInBounds_toArray, List.set_cons_zero, List.set_cons_succ])
                    refine wpAnyH_take (i := 8) (oi := _) (v := ?_) (by simp only [List.getElem?_toArray, List.getElem?_cons_succ, List.getElem?_cons_zero]; rfl) (by kernel_rfl) (by kernel_rfl) (by kernel_rfl) (fun _ _ _ h => h) (Or.inl ⟨by rfl, ?_⟩) (by assumption) ?_
                    rotate_left
                    · (intro w hSw; (try dsimp only at hSw); go_simp; (try with_reducible rfl))
                    (try simp only [Act.put, List.setIfInBounds_toArray, List.set_cons_zero, List.set_cons_succ])
                    refine wpAnyH_take (i := 9) (oi := _) (v := ?_) (by simp only [List.getElem?_toArray, List.getElem?_cons_succ, List.getElem?_cons_zero]; rfl) (by kernel_rfl) (by kernel_rfl) (by kernel_rfl) (fun _ _ _ h => h) (Or.inl ⟨by rfl, ?_⟩) (by assumption) ?_
                    rotate_left
                    · (intro w hSw; (try dsimp only at hSw); go_simp; (try with_reducible rfl))
                    (try simp only [Act.put, List.setIfInBounds_toArray, List.set_cons_zero, List.set_cons_succ])
                    refine wpAnyH_take (i := 10) (oi := _) (v := ?_) (by simp only [List.getElem?_toArray, List.getElem?_cons_succ, List.getElem?_cons_zero]; rfl) (by kernel_rfl) (by kernel_rfl) (by kernel_rfl) (fun _ _ _ h => h) (Or.inl ⟨by rfl, ?_⟩) (by assumption) ?_
                    rotate_left
                    · (intro w hSw; (try dsimp only at hSw); go_simp; (try with_reducible rfl))
                    (try simp only [Act.put, List.setIfInBounds_toArray, List.set_cons_zero, List.set_cons_succ])
                    refine wpAnyH_take (i := 11) (oi := _) (v := ?_) (by simp only [List.getElem?_toArray, List.getElem?_cons_succ, List.getElem?_cons_zero]; rfl) (by kernel_rfl) (by kernel_rfl) (by kernel_rfl) (fun _ _ _ h => h) (Or.inl ⟨by rfl, ?_⟩) (by assumption) ?_
                    rotate_left
                    · (intro w hSw; (try dsimp only at hSw); go_simp; (try with_reducible rfl))
                    (try simp only [Act.put, List.setIfInBounds_toArray, List.set_cons_zero, List.set_cons_succ])
                    refine wpAnyH_take (i := 12) (oi := _) (v := ?_) (by simp only [List.getElem?_toArray, List.getElem?_cons_succ, List.getElem?_cons_zero]; rfl) (by kernel_rfl) (by kernel_rfl) (by kernel_rfl) (fun _ _ _ h => h) (Or.inl ⟨by rfl, ?_⟩) (by assumption) ?_
                    rotate_left
                    · (intro w hSw; (try dsimp only at hSw); go_simp; (try with_reducible rfl))
                    (try simp only [Act.put, List.setIfInBounds_toArray, List.set_cons_zero, List.set_cons_succ])
                    refine wpAnyH_take (i := 13) (oi := _) (v := ?_) (by simp only [List.getElem?_toArray, List.getElem?_cons_succ, List.getElem?_cons_zero]; rfl) (by kernel_rfl) (by kernel_rfl) (by kernel_rfl) (fun _ _ _ h => h) (Or.inl ⟨by rfl, ?_⟩) (by assumption) ?_
                    rotate_left
                    · (intro w hSw; (try dsimp only at hSw); go_simp; (try with_reducible rfl))
                    (try simp only [Act.put, List.setIfInBounds_toArray, List.set_cons_zero, List.set_cons_succ])
                    refine wpAnyH_take (i := 14) (oi := _) (v := ?_) (by simp only [List.getElem?_toArray, List.getElem?_cons_succ, List.getElem?_cons_zero]; rfl) (by kernel_rfl) (by kernel_rfl) (by kernel_rfl) (fun _ _ _ h => h) (Or.inl ⟨by rfl, ?_⟩) (by assumption) ?_
                    rotate_left
                    · (intro w hSw; (try dsimp only at hSw); go_simp; (try with_reducible rfl))
                    (try simp only [Act.put, List.setIfInBounds_toArray, List.set_cons_zero, List.set_cons_succ])
                    refine wpAnyH_done (by kernel_rfl) ?_ _
                    refine NoPanic.normal ?_
                    clear hH
                    go_wp2_with fail
                    go_roundw
                    case rel =>
                      have w3 := WI'.out
                      rw [HX.out] at w3
                      exact ⟨k + 1, inn, S', by have := MU.out; have := MU'.out; omega, by go_num, rfl, w3, by have := MU.out; have := MU'.out; omega, GS'.out, H4.out.kept (schE_stable.star none_stable) (by repeat (first | with_reducible (exact Keep.same _ _) | with_reducible (apply Keep.drew) | with_reducible (apply Keep.alloc)))⟩
                    case measure => simp [intOf]; omega
                · have d1 : decide (0 < a) = false := decide_eq_false (by have := HA.out; omega)
                  have HX := Lib.hid (show innX inn i t.at_ t.ops.length = inn by unfold innX; rw [if_neg (by omega), if_neg (by omega)])
                  clear q1
                  go_wp2_with fail
                  refine (ST.out _ (by repeat (first | with_reducible (exact Keep.same _ _) | with_reducible (apply Keep.drew) | with_reducible (apply Keep.alloc)))).mono ?_
                  rintro e w4 ⟨rfl, hh4⟩
                  have H4 := Lib.hid (hh4.alloc (schE_stable.star none_stable) (.cells #[.int .i64 (i : Int), .int .i64 a, .int .i64 0] 103))
                  have B4 := Blk.fresh w4 103 #[.int .i64 (i : Int), .int .i64 a, .int .i64 0]
                  have f0 := B4.cell 0
                  have f1 := B4.cell 1
                  have f2 := B4.cell 2
                  have ct := (Keep.of_below H4.out.below Nothing).cell CT.out (fun h => h)
                  have hH : (fun w' => w'.cell? ⟨w4.heap.size, 0, none⟩ = some (.int .i64 (i : Int)) ∧ w'.cell? ⟨w4.heap.size, 1, none⟩ = some (.int .i64 a) ∧ w'.cell? (adt.add i) = some (.slice Ak m ck)) (w4.alloc (.cells #[.int .i64 (i : Int), .int .i64 a, .int .i64 0] 103)) := ⟨f0, f1, ct⟩
                  dsimp only at hH
                  clear hh4 B4
                  go_wp2_with fail
                  refine wp_region_noPanic ?_
                  refine wp_region_held_drew (S := (fun w' => w'.cell? ⟨w4.heap.size, 0, none⟩ = some (.int .i64 (i : Int)) ∧ w'.cell? ⟨w4.heap.size, 1, none⟩ = some (.int .i64 a) ∧ w'.cell? (adt.add i) = some (.slice Ak m ck))) (by kernel_rfl) hH (fun hHeld => ?_)
                  refine wpAnyH_take (i := 0) (oi := _) (v := ?_) (by simp only [List.getElem?_toArray, List.getElem?_cons_succ, List.getElem?_cons_zero]; rfl) (by kernel_rfl) (by kernel_rfl) (by kernel_rfl) (fun _ _ _ h => h) (Or.inl ⟨by rfl, ?_⟩) (by assumption) ?_
                  rotate_left
                  · (intro w hSw; (try dsimp only at hSw); go_simp; (try with_reducible rfl))
                  (try simp only [Act.put, List.setIfInBounds_toArray, List.set_cons_zero, List.set_cons_succ])
                  refine wpAnyH_take (i := 1) (oi := _) (v := ?_) (by simp only [List.getElem?_toArray, List.getElem?_cons_succ, List.getElem?_cons_zero]; rfl) (by kernel_rfl) (by kernel_rfl) (by kernel_rfl) (fun _ _ _ h => h) (Or.inl ⟨by rfl, ?_⟩) (by assumption) ?_
                  rotate_left
                  · (intro w hSw; (try dsimp only at hSw); go_simp; (try with_reducible rfl))
                  (try simp only [Act.put, List.setIfInBounds_toArray, List.set_cons_zero, List.set_cons_succ])
                  refine wpAnyH_take (i := 2) (oi := _) (v := ?_) (by simp only [List.getElem?_toArray, List.getElem?_cons_succ, List.getElem?_cons_zero]; rfl) (by kernel_rfl) (by kernel_rfl) (by kernel_rfl) (fun _ _ _ h => h) (Or.inl ⟨by rfl, ?_⟩) (by assumption) ?_
                  rotate_left
                  · (intro w hSw; (try dsimp only at hSw); go_simp; (try with_reducible rfl))
                  (try simp only [Act.put, List.setIfInBounds_toArray, List.set_cons_zero, List.set_cons_succ])
                  refine wpAnyH_take (i := 3) (oi := _) (v := ?_) (by simp only [List.getElem?_toArray, List.getElem?_cons_succ, List.getElem?_cons_zero]; rfl) (by kernel_rfl) (by kernel_rfl) (by kernel_rfl) (fun _ _ _ h => h) (Or.inl ⟨by rfl, ?_⟩) (by assumption) ?_
                  rotate_left
                  · (intro w hSw; (try dsimp only at hSw); go_simp; (try with_reducible rfl))
                  (try simp only [Act.put, List.setIfInBounds_toArray, List.set_cons_zero, List.set_cons_succ])
                  refine wpAnyH_take (i := 4) (oi := _) (v := undef) (by simp only [List.getElem?_toArray, List.getElem?_cons_succ, List.getElem?_cons_zero]; rfl) (by kernel_rfl) (by kernel_rfl) (by kernel_rfl) (fun _ _ _ h => h) (Or.inr ⟨by rfl, rfl⟩) (by assumption) ?_
                  (try simp only [Act.put, List.setIfInBounds_toArray, List.set_cons_zero, List.set_cons_succ])
                  refine wpAnyH_take (i := 5) (oi := _) (v := undef) (by simp only [List.getElem?_toArray, List.getElem?_cons_succ, List.getElem?_cons_zero]; rfl) (by kernel_rfl) (by kernel_rfl) (by kernel_rfl) (fun _ _ _ h => h) (Or.inr ⟨by rfl, rfl⟩) (by assumption) ?_
                  (try simp only [Act.put, List.setIfInBounds_toArray, List.set_cons_zero, List.set_cons_succ])
                  refine wpAnyH_take (i := 6) (oi := _) (v := undef) (by simp only [List.getElem?_toArray, List.getElem?_cons_succ, List.getElem?_cons_zero]; rfl) (by kernel_rfl) (by kernel_rfl) (by kernel_rfl) (fun _ _ _ h => h) (Or.inr ⟨by rfl, rfl⟩) (by assumption) ?_
                  (try simp only [Act.put, List.setIfInBounds_toArray, List.set_cons_zero, List.set_cons_succ])
                  refine wpAnyH_take (i := 7) (oi := _) (v := undef) (by simp only [List.getElem?_toArray, List.getElem?_cons_succ, List.getElem?_cons_zero]; rfl) (by kernel_rfl) (by kernel_rfl) (by kernel_rfl) (fun _ _ _ h => h) (Or.inr ⟨by rfl, rfl⟩) (by assumption) ?_
                  (try simp only [Act.put, List.setIfInBounds_toArray, List.set_cons_zero, List.set_cons_succ])
                  refine wpAnyH_take (i := 8) (oi := _) (v := undef) (by simp only [List.getElem?_toArray, List.getElem?_cons_succ, List.getElem?_cons_zero]; rfl) (by kernel_rfl) (by kernel_rfl) (by kernel_rfl) (fun _ _ _ h => h) (Or.inr ⟨by rfl, rfl⟩) (by assumption) ?_
                  (try simp only [Act.put, List.setIfInBounds_toArray, List.set_cons_zero, List.set_cons_succ])
                  refine wpAnyH_take (i := 9) (oi := _) (v := undef) (by simp only [List.getElem?_toArray, List.getElem?_cons_succ, List.getElem?_cons_zero]; rfl) (by kernel_rfl) (by kernel_rfl) (by kernel_rfl) (fun _ _ _ h => h) (Or.inr ⟨by rfl, rfl⟩) (by assumption) ?_
                  (try simp only [Act.put, List.setIfInBounds_toArray, List.set_cons_zero, List.set_cons_succ])
                  refine wpAnyH_take (i := 10) (oi := _) (v := undef) (by simp only [List.getElem?_toArray, List.getElem?_cons_succ, List.getElem?_cons_zero]; rfl) (by kernel_rfl) (by kernel_rfl) (by kernel_rfl) (fun _ _ _ h => h) (Or.inr ⟨by rfl, rfl⟩) (by assumption) ?_
                  (try simp only [Act.put, List.setIfInBounds_toArray, List.set_cons_zero, List.set_cons_succ])
                  refine wpAnyH_take (i := 11) (oi := _) (v := undef) (by simp only [List.getElem?_toArray, List.getElem?_cons_succ, List.getElem?_cons_zero]; rfl) (by kernel_rfl) (by kernel_rfl) (by kernel_rfl) (fun _ _ _ h => h) (Or.inr ⟨by rfl, rfl⟩) (by assumption) ?_
                  (try simp only [Act.put, List.setIfInBounds_toArray, List.set_cons_zero, List.set_cons_succ])
                  refine wpAnyH_take (i := 12) (oi := _) (v := undef) (by simp only [List.getElem?_toArray, List.getElem?_cons_succ, List.getElem?_cons_zero]; rfl) (by kernel_rfl) (by kernel_rfl) (by kernel_rfl) (fun _ _ _ h => h) (Or.inr ⟨by rfl, rfl⟩) (by assumption) ?_
                  (try simp only [Act.put, List.setIfInBounds_toArray, List.set_cons_zero, List.set_cons_succ])
                  refine wpAnyH_take (i := 13) (oi := _) (v := undef) (by simp only [List.getElem?_toArray, List.getElem?_cons_succ, List.getElem?_cons_zero]; rfl) (by kernel_rfl) (by kernel_rfl) (by kernel_rfl) (fun _ _ _ h => h) (Or.inr ⟨by rfl, rfl⟩) (by assumption) ?_
                  (try simp only [Act.put, List.setIfInBounds_toArray, List.set_cons_zero, List.set_cons_succ])
                  refine wpAnyH_take (i := 14) (oi := _) (v := ?_) (by simp only [List.getElem?_toArray, List.getElem?_cons_succ, List.getElem?_cons_zero]; rfl) (by kernel_rfl) (by kernel_rfl) (by kernel_rfl) (fun _ _ _ h => h) (Or.inl ⟨by rfl, ?_⟩) (by assumption) ?_
                  rotate_left
                  · (intro w hSw; (try dsimp only at hSw); go_simp; (try with_reducible rfl))
                  (try simp only [Act.put, List.setIfInBounds_toArray, List.set_cons_zero, List.set_cons_succ])
                  refine wpAnyH_done (by kernel_rfl) ?_ _
                  refine NoPanic.normal ?_
                  clear hH
                  go_wp2_with fail
                  go_roundw
                  case rel =>
                    have w3 := WI'.out
                    rw [HX.out] at w3
                    exact ⟨k + 1, inn, S', by have := MU.out; have := MU'.out; omega, by go_num, rfl, w3, by have := MU.out; have := MU'.out; omega, GS'.out, H4.out.kept (schE_stable.star none_stable) (by repeat (first | with_reducible (exact Keep.same _ _) | with_reducible (apply Keep.drew) | with_reducible (apply Keep.alloc)))⟩
                  case measure => simp [intOf]; omega
end Go.Proofs.Ytmohpjkbhpgidaa.A
