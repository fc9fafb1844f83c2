/-
  Rows of operations that a law makes; SchedOnce. Printed by gen_yp.py.
-/
import Derived.Test.YtmohpjkbhpgidaaYP
namespace Go.Proofs.Ytmohpjkbhpgidaa.A
open Go.ChangeShapes Go.WideShapes Go.ChangeAt Go.RowKit Go.Joins Go.Proofs.Ytmohpjkbhpgidaa.U
set_option linter.unusedVariables false
set_option linter.unusedSimpArgs false
set_option maxRecDepth 100000
set_option maxHeartbeats 800000

theorem once15a (w : World) (n : Int) (Ap : Option Addr) (np cp : Nat) (picks : List Int) (hp : U.Src w Ap 1 np (ints picks)) (h1 : 8 < n) :
    Calls Try.prog 15 #[.int .i64 n, .slice Ap np cp] w (fun e w' => e = .returned (.bool true) ∧ Keep Nothing w w') := by
  have HP := Lib.hid hp
  have hu := Try.underlying97
  have hu2 := Try.underlying103
  have HS := Lib.hid (tks_none w)
  clear hp
  go_enter Try.func15, Try.ntmps15
  go_wp2_with fail
  go_loopw [5, 6] (fun tv iv wr => ∃ (k : Nat) (Z : List (Value × List Op3)) (A : Option Addr) (c : Nat), k ≤ 8 ∧ iv = .int .i64 k ∧ tv = .slice A Z.length c ∧ Z.length = k ∧ Z.map (·.2) = List.replicate k ocOps ∧ Holds w.heap.size w wr (star (tksP (.slice A Z.length c) Z) none_)) (fun _ iv _ => 8 - (intOf iv).toNat)
  case atStart => exact ⟨0, [], none, 0, by omega, by simp, by simp, rfl, rfl, HS.out⟩
  case round =>
    obtain ⟨k, Z, A, c, hk, rfl, rfl, hZ, hZm, hh⟩ := hrel
    have HH := Lib.hid hh
    have HZ := Lib.hid hZ
    have HM := Lib.hid hZm
    have HK := Lib.hid hk
    clear hh hZ hZm
    by_cases hlt : k < 8
    · have HLT := Lib.hid (show k + 1 ≤ 8 by omega)
      have T1 := Lib.hid (tks_made HH.out none_stable ocOps 3 rfl (by decide) (.cells #[.slice (some ⟨wr.heap.size, 0, none⟩) 3 3] 99))
      have S1 := Lib.hid (show Stable (star (rowP 97 3 (.slice (some ⟨wr.heap.size, 0, none⟩) 3 3) 3 (opsV ocOps)) (star (innP Z) none_)) from (rowP_stable _ _ _ _ _).star ((innP_stable Z).star none_stable))
      have SRC := Lib.hid (show U.Src ((wr.alloc (.cells (opsV ocOps).toArray 97)).alloc (.cells #[.slice (some ⟨wr.heap.size, 0, none⟩) 3 3] 99)) (some ⟨wr.heap.size + 1, 0, none⟩) 1 1 [.slice (some ⟨wr.heap.size, 0, none⟩) 3 3] from by
        have h := U.Src.fresh (wr.alloc (.cells (opsV ocOps).toArray 97)) #[.slice (some ⟨wr.heap.size, 0, none⟩) 3 3] 99 1 1 rfl
        rw [size_alloc] at h
        exact h)
      have hml : Z.length + 1 ≤ maxLen := by have := HZ.out; have := HK.out; unfold maxLen; omega
      have hb : (Z.length + 1) * 24 ≤ 140737488355328 := by have := HZ.out; have := HK.out; omega
      clear hk
      go_wp2_with (at_builtin; refine wpList_app _ rfl E89 (.tmp 19) (.tmp 24) rfl T1.out.row SRC.out 1 rfl rfl (by simp [Value.oneCell']) hml hb ?_)
      intro v5 w5 hr5 hg5 hl5
      obtain ⟨A5, c5, rfl, _, _⟩ := hr5.form
      have h5 := T1.out.grew S1.out hr5 hg5 (by rw [size_alloc, size_alloc] at *; exact hl5)
      have H5 := Lib.hid (tks_push (L := ocOps) (Z := Z) rfl rfl h5)
      clear hr5 hg5 hl5 h5
      go_wp2_with fail
      go_roundw
      case rel =>
        refine ⟨k + 1, Z ++ [(.slice (some ⟨wr.heap.size, 0, none⟩) 3 3, ocOps)], A5, c5, HLT.out, by go_num, by simp, by simp [HZ.out], ?_, ?_⟩
        · rw [List.map_append, HM.out, List.replicate_succ']; rfl
        · rw [List.length_append]; exact H5.out
      case measure => have := HLT.out; simp [intOf]; omega
    · obtain rfl : k = 8 := by omega
      clear hk
      by_cases hbig : 1000 < np
      · go_wp2_with fail
        refine (awake54 _).mono ?_
        rintro e w6 ⟨rfl, hk6⟩
        have H6 := Lib.hid (HH.out.kept ((tksP_stable _ _).star none_stable) (Keep.then (by repeat (first | with_reducible (exact Keep.same _ _) | with_reducible (apply Keep.drew) | with_reducible (apply Keep.alloc))) hk6))
        clear hk6
        go_wp2_with fail
        go_ret
        exact ⟨rfl, Keep.of_below H6.out.below _⟩
      · have AO := Lib.hid (tks_args HH.out (fun z hz => by
          have h1 : z.2 ∈ Z.map (·.2) := List.mem_map_of_mem hz
          rw [HM.out] at h1
          rw [List.eq_of_mem_replicate h1]
          decide))
        have KW := Lib.hid (Keep.of_below HH.out.below Nothing)
        have hR := oc_run 8 (by omega) (by omega) picks
        have RN := Lib.hid (run_calls wr A Ap c np cp (List.replicate 8 ocOps) picks (by have := AO.out; rw [HM.out] at this; exact this) (by rw [List.length_replicate]; omega) (src_keep HP.out KW.out) (new_good _ (fun l hl => by
          rw [List.eq_of_mem_replicate hl]
          exact ⟨by decide, fun x hx => by simp only [ocOps, List.mem_cons, List.not_mem_nil, or_false] at hx; rcases hx with rfl | rfl | rfl <;> exact ⟨by decide, by decide⟩⟩) (by rw [List.length_replicate]; omega)))
        rw [List.length_replicate] at RN
        have e0 : Z.length = 8 := HZ.out
        generalize runX picks 10000 0 (newS (List.replicate 8 ocOps)) [] = R at *
        have R1 := Lib.hid hR.1
        have R2 := Lib.hid hR.2.1
        have R3 := Lib.hid hR.2.2
        rw [e0]
        clear hR e0
        go_wp2_with fail
        refine RN.out.mono ?_
        rintro e w6 ⟨A6, c6, rfl, hr6, hk6⟩
        rw [R3.out]
        have K6 := Lib.hid (KW.out.then hk6)
        have RW := Lib.hid hr6
        obtain ⟨l, hl⟩ : ∃ l, R.1 = l := ⟨_, rfl⟩
        rw [hl] at R1 R2 RW ⊢
        clear hr6 hk6 hl
        go_wp2_with fail
        go_loopw [9, 10] (fun av iv wr => ∃ (j : Nat), j ≤ l.length ∧ iv = .int .i64 j ∧ av = .int .i64 (adds (l.take j)) ∧ Keep Nothing w6 wr) (fun _ iv _ => l.length - (intOf iv).toNat)
        case atStart => exact ⟨0, by omega, by simp, by simp [adds], (by repeat (first | with_reducible (exact Keep.same _ _) | with_reducible (apply Keep.drew) | with_reducible (apply Keep.alloc)))⟩
        case round =>
          obtain ⟨j, hj, rfl, rfl, hkj⟩ := hrel
          have KJ := Lib.hid hkj
          clear hkj
          have LM := Lib.hid (show l.length ≤ 9223372036854775807 from RW.out.len)
          by_cases hlt : j < l.length
          · obtain ⟨ev, hev⟩ : ∃ ev, l[j]? = some ev := ⟨_, List.getElem?_eq_getElem hlt⟩
            obtain ⟨ad, rfl, hc⟩ := RW.out.src.2 (by omega)
            have c1 : wr.cell? ⟨(ad.add (j * 3)).block, (ad.add (j * 3)).off + 1, none⟩ = some (.int .i64 ev.at_) := KJ.out.cell (by
              have := hc (j * 3 + 1) _ (by rw [evsV_get hev 1 (by omega)]; rfl)
              rw [addLater ad (j * 3) 1 (by omega)] at this
              exact this) (fun h => h)
            have c2 : wr.cell? ⟨(ad.add (j * 3)).block, (ad.add (j * 3)).off + 2, none⟩ = some (.int .i64 ev.er) := KJ.out.cell (by
              have := hc (j * 3 + 2) _ (by rw [evsV_get hev 2 (by omega)]; rfl)
              rw [addLater ad (j * 3) 2 (by omega)] at this
              exact this) (fun h => h)
            rw [R1.out ev (List.mem_of_getElem? hev)] at c2
            have HEV := Lib.hid hev
            have HJ := Lib.hid hlt
            have TK := Lib.hid (show l.take (j + 1) = l.take j ++ [ev] by rw [List.take_add_one, hev]; rfl)
            clear hc hev
            have AB := Lib.hid (show adds (l.take j) ≤ j from by unfold adds; exact Nat.le_trans List.countP_le_length (by rw [List.length_take]; omega))
            have hwj : IntKind.i64.wrap ((adds (l.take j) : Int) + 1) = (adds (l.take j) : Int) + 1 := by rw [IntKind.wrap_i64]; have := AB.out; have := LM.out; omega
            have hwj2 : wrap64 ((adds (l.take j) : Int) + 1) = (adds (l.take j) : Int) + 1 := by unfold wrap64; have := AB.out; have := LM.out; omega
            by_cases h1 : ev.at_ = 1
            · have d1 : ((ev.at_ : Int) == 1) = true := by simp [h1]
              have EA := Lib.hid (show (ev.at_ == 1) = true by simp [h1])
              clear h1
              go_wp2_with fail
              go_roundw
              case rel => exact ⟨j + 1, HJ.out, by (rw [show wrap64 ((j : Int) + 1) = (j : Int) + 1 from wrap64_in (by omega) (by have := LM.out; omega)]; simp), by (rw [TK.out, adds_app, EA.out]; simp), KJ.out.then (by repeat (first | with_reducible (exact Keep.same _ _) | with_reducible (apply Keep.drew) | with_reducible (apply Keep.alloc)))⟩
              case measure => exact meas_next HJ.out LM.out
            · have d1 : ((ev.at_ : Int) == 1) = false := by simp; omega
              have EA := Lib.hid (show (ev.at_ == 1) = false by simp [h1])
              clear h1
              go_wp2_with fail
              go_roundw
              case rel => exact ⟨j + 1, HJ.out, by (rw [show wrap64 ((j : Int) + 1) = (j : Int) + 1 from wrap64_in (by omega) (by have := LM.out; omega)]; simp), by (rw [TK.out, adds_app, EA.out]; simp), KJ.out.then (by repeat (first | with_reducible (exact Keep.same _ _) | with_reducible (apply Keep.drew) | with_reducible (apply Keep.alloc)))⟩
              case measure => exact meas_next HJ.out LM.out
          · obtain rfl : j = l.length := by omega
            have e1 : adds (l.take l.length) = 1 := by rw [List.take_length]; exact R2.out
            rw [e1]
            clear e1
            go_wp2_with fail
            refine (awake54 _).mono ?_
            rintro e w7 ⟨rfl, hk7⟩
            have K7 := Lib.hid (K6.out.then (KJ.out.then (Keep.then (by repeat (first | with_reducible (exact Keep.same _ _) | with_reducible (apply Keep.drew) | with_reducible (apply Keep.alloc))) hk7)))
            clear hk7
            go_wp2_with fail
            go_ret
            exact ⟨rfl, K7.out⟩
end Go.Proofs.Ytmohpjkbhpgidaa.A
