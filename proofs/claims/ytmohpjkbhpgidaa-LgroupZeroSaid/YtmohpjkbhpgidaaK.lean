/-
  LgroupOnces, LgroupZero, LgroupAlone.
-/
import Derived.Test.YtmohpjkbhpgidaaJ
namespace Go.Proofs.Ytmohpjkbhpgidaa.A
open Go.RowKit Go.Proofs.Ytmohpjkbhpgidaa.U
set_option linter.unusedVariables false
set_option linter.unusedSimpArgs false
set_option maxRecDepth 100000

theorem dL_len (W : Int) (ov : Bool) (L : List Int) (x : Int) : (dL W ov L x).length ≤ L.length + 1 := by
  unfold dL; split <;> simp
theorem fL_len (W x : Int) (L : List Int) : (fL W x L).length ≤ L.length := by
  unfold fL; split <;> simp
theorem fR_len (W x : Int) (L : List Int) : (fR W x L).length ≤ L.length := by
  unfold fR; split <;> simp
set_option maxHeartbeats 3200000 in
theorem onces_calls (w : World) (A : Option Addr) (len cap : Nat) (l : List Deed) (hA : R.Args w w.heap.size A len 3 Deed.cells l) (hlen : len ≤ cap) (hcap : cap ≤ maxLen) :
    Calls Try.prog 8 #[.slice A len cap] w (fun e w' => e = .returned (.bool true) ∧ Keep Nothing w w') := by
  have HA := Lib.hid hA
  have hu71 := Try.underlying71
  have hu81 := Try.underlying81
  have hb : ∀ w', Below w.heap.size w w' → Keep Nothing w w' := fun w' h => Keep.of_below h _
  have H0 := Lib.hid (Holds.start w)
  have SO := Lib.hid oP_stable
  have SR := Lib.hid rP_stable
  have SA := Lib.hid anP_stable
  have hmax : maxLen = 9223372036854775807 := by rfl
  clear hA
  go_enter Try.func8, Try.ntmps8
  go_wp2_with fail
  refine (onew_calls _).mono ?_
  rintro e w1 ⟨rfl, hw1⟩
  have H1 := Lib.hid (show Holds w.heap.size w w1 (star (oP w.heap.size (-1) false []) none_) by rw [hw1]; exact H0.out.more none_stable (new_once w) ((Keep.same _ _).alloc _) (fun k hk => by omega))
  clear hw1
  go_wp2_with fail
  refine (ronew_calls _).mono ?_
  rintro e w2 ⟨rfl, hw2⟩
  have H2 := Lib.hid (show Holds w.heap.size w w2 (star (rP w1.heap.size (-1) false []) (star (oP w.heap.size (-1) false []) none_)) by rw [hw2]; exact Holds.newQ H1.out ((SO.out _ _ _ _).star none_stable) 81 [.int .i64 (-1), .bool false])
  clear hw2
  have H3 := Lib.hid H2.out.turn.turn.drop.swap
  go_wp2_with fail
  generalize hg2 : w1.heap.size = b2 at *
  generalize hg1 : w.heap.size = b1 at *
  clear hg1 hg2
  go_loopw [5] (fun v wr => ∃ (k : Nat) (W : Int) (ov : Bool) (L : List Int), k ≤ 300 ∧ v = .int .i64 k ∧ L.length ≤ k ∧ Holds b1 w wr (star (oP b1 W ov L) (rP b2 W ov L))) (fun v _ => 300 - (intOf v).toNat)
  case atStart => exact ⟨0, -1, false, [], by omega, by simp, by simp, H3.out⟩
  case round =>
    obtain ⟨k, W, ov, L, hk, rfl, hL, hh⟩ := hrel
    have H := Lib.hid hh
    clear hh
    by_cases hin : k < len ∧ k < 300
    · obtain ⟨hkl, hk3⟩ := hin
      obtain ⟨ad, x, rfl, hat⟩ := deed_all HA.out hkl
      have CC := Lib.hid hat
      obtain ⟨c0, c1, c2⟩ := CC.out _ H.out.below
      clear hat
      cases hxs : x.s with
      | false =>
        rw [hxs] at c2
        have hlen2 := dL_len W ov L x.t
        have HW := Lib.hid (x_do (x := x.t) H.out (SR.out _ _ _ _) (by omega))
        go_wp2_with fail
        refine HW.out.mono ?_
        rintro e w2 ⟨rfl, h2⟩
        have H2' := Lib.hid h2.swap
        clear h2 c0 c1 c2 HW
        obtain ⟨c0, c1, c2⟩ := CC.out _ H2'.out.below
        rw [hxs] at c2
        have HW := Lib.hid (y_do (x := x.t) H2'.out (SO.out _ _ _ _) (by omega))
        go_wp2_with fail
        refine HW.out.mono ?_
        rintro e w3 ⟨rfl, h3⟩
        have H4 := Lib.hid h3.swap
        clear h3 c0 c1 c2 HW
        have hLL : (dL W ov L x.t).length ≤ k + 1 := by omega
        generalize dL W ov L x.t = LL at *
        generalize dW W ov L x.t = WW at *
        generalize dRun W ov L x.t = bb at *
        generalize dWait W ov L x.t = cc at *
        generalize dE W L x.t = ee at *
        have EB := Lib.hid (show ∀ z : Bool, (z == z) = true from fun z => by simp)
        have eb1 : (bb == bb) = true := by simp
        have eb2 : (cc == cc) = true := by simp
        have HS := Lib.hid (x_state H4.out)
        have SS := Lib.hid ((SO.out b1 WW ov LL).star (SR.out b2 WW ov LL))
        obtain ⟨F8, v8, hb8, hr8, hF8⟩ := H4.out.right
        have y0 := hb8.cell 0
        have y1 := hb8.cell 1
        clear hb8 hr8 hF8
        have eb3 : (ov == ov) = true := by simp
        go_wp2_with fail
        refine HS.out.mono ?_
        rintro e w6 ⟨rfl, ⟨n6, rfl⟩⟩
        go_wp2_with fail
        go_roundw
        case rel => exact ⟨k + 1, WW, ov, LL, by omega, by go_num, by omega, H4.out.drewN SS.out _⟩
        case measure => simp [intOf]; omega
      | true =>
        rw [hxs] at c2
        have hlen2 := fL_len W x.t L
        have hlen3 := fR_len W x.t L
        have HW := Lib.hid (x_done (x := x.t) H.out (SR.out _ _ _ _))
        go_wp2_with fail
        refine HW.out.mono ?_
        rintro e w2 ⟨a2, rfl, h2⟩
        have H2' := Lib.hid (Holds.assoc h2).turn.turn
        clear h2 c0 c1 c2 HW
        obtain ⟨c0, c1, c2⟩ := CC.out _ H2'.out.below
        rw [hxs] at c2
        have HW := Lib.hid (y_done (x := x.t) H2'.out ((SA.out _ _).star (SO.out _ _ _ _)))
        go_wp2_with fail
        refine HW.out.mono ?_
        rintro e w3 ⟨a3, rfl, h3⟩
        have H3' := Lib.hid (Holds.assoc h3)
        clear h3 c0 c1 c2 HW
        have hLL : (fL W x.t L).length ≤ k + 1 := by omega
        generalize fL W x.t L = LL at *
        generalize fR W x.t L = RR at *
        generalize fE W x.t = ee at *
        generalize fW W x.t = WW at *
        generalize fO W x.t ov = oo at *
        have HI := Lib.hid (show Calls Try.prog 22 #[.slice a2.1 RR.length a2.2, .slice a3.1 RR.length a3.2] w3 (Pure w3 (.bool true)) by
          obtain ⟨F1, r1, _⟩ := H3'.out.left
          obtain ⟨F2, r2, _⟩ := H3'.out.drop.drop.left
          exact ints_calls _ _ _ _ _ _ _ RR r2.src r1.src (by omega))
        go_wp2_with fail
        refine HI.out.mono ?_
        rintro e w4 ⟨rfl, ⟨n4, rfl⟩⟩
        have H4 := Lib.hid H3'.out.drop.turn.drop
        have SS := Lib.hid ((SO.out b1 WW oo LL).star (SR.out b2 WW oo LL))
        have HS := Lib.hid (x_state (H4.out.drewN SS.out n4))
        obtain ⟨F8, v8, hb8, hr8, hF8⟩ := H4.out.right
        have y0 := hb8.cell 0
        have y1 := hb8.cell 1
        clear hb8 hr8 hF8
        have eb3 : (oo == oo) = true := by simp
        go_wp2_with fail
        refine HS.out.mono ?_
        rintro e w6 ⟨rfl, ⟨n6, rfl⟩⟩
        go_wp2_with fail
        go_roundw
        case rel => exact ⟨k + 1, WW, oo, LL, by omega, by go_num, by omega, H4.out.drewN SS.out _⟩
        case measure => simp [intOf]; omega
    · rcases (show ¬ k < len ∨ (k < len ∧ ¬ k < 300) by omega) with hex | ⟨hex1, hex2⟩
      all_goals go_wp2_with fail
      all_goals refine (awake_calls _).mono ?_
      all_goals rintro e w9 ⟨rfl, hk9⟩
      all_goals have K9 := Lib.hid hk9
      all_goals clear hk9
      all_goals go_wp2_with fail
      all_goals go_ret
      all_goals exact ⟨rfl, (hb _ H.out.below).then K9.out⟩
theorem zero_keeps {n d : Int} {L : List Int} (h : n = 0 → L = []) : gN n d = 0 → gL n d L = [] := by
  intro h0
  unfold gN at h0
  unfold gL
  split at h0
  · rename_i he
    rw [if_pos ⟨he, h0⟩]
  · rename_i he
    rw [if_neg (fun hh => he hh.1)]
    exact h h0
theorem zero_waits {n x : Int} {L : List Int} (h : n = 0 → L = []) : n = 0 → wL n L x = [] := by
  intro h0
  unfold wL
  rw [if_pos (.inr (.inr h0))]
  exact h h0
set_option maxHeartbeats 3200000 in
theorem zero_calls (w : World) (A : Option Addr) (len cap : Nat) (l : List Deed) (hA : R.Args w w.heap.size A len 3 Deed.cells l) (hlen : len ≤ cap) (hcap : cap ≤ maxLen) :
    Calls Try.prog 11 #[.slice A len cap] w (fun e w' => e = .returned (.bool true) ∧ Keep Nothing w w') := by
  have HA := Lib.hid hA
  have hu71 := Try.underlying71
  have hb : ∀ w', Below w.heap.size w w' → Keep Nothing w w' := fun w' h => Keep.of_below h _
  have H0 := Lib.hid (Holds.start w)
  have SG := Lib.hid gP_stable
  have SA := Lib.hid anP_stable
  have hmax : maxLen = 9223372036854775807 := by rfl
  clear hA
  go_enter Try.func11, Try.ntmps11
  go_wp2_with fail
  refine (gnew_calls _).mono ?_
  rintro e w1 ⟨rfl, hw1⟩
  have H1 := Lib.hid (show Holds w.heap.size w w1 (star (gP 135 w.heap.size 0 []) none_) by rw [hw1]; exact Holds.newQ H0.out none_stable 135 [.int .i64 0])
  clear hw1
  go_wp2_with fail
  generalize hg1 : w.heap.size = b1 at *
  clear hg1
  go_loopw [4, 5] (fun sv v wr => ∃ (k : Nat) (n : Int) (L : List Int), k ≤ 300 ∧ v = .int .i64 k ∧ sv = .int .i64 n ∧ L.length ≤ k ∧ 0 ≤ n ∧ n ≤ 1073741824 ∧ (n = 0 → L = []) ∧ Holds b1 w wr (star (gP 135 b1 n L) none_)) (fun _ v _ => 300 - (intOf v).toNat)
  case atStart => exact ⟨0, 0, [], by omega, by simp, by simp, by simp, by omega, by omega, fun _ => rfl, H1.out⟩
  case round =>
    obtain ⟨k, n, L, hk, rfl, rfl, hL, hn0, hn1, hz, hh⟩ := hrel
    have H := Lib.hid hh
    have Z := Lib.hid hz
    clear hh hz
    by_cases hin : k < len ∧ k < 300
    · obtain ⟨hkl, hk3⟩ := hin
      obtain ⟨ad, x, rfl, hat⟩ := deed_all HA.out hkl
      have CC := Lib.hid hat
      obtain ⟨c0, c1, c2⟩ := CC.out _ H.out.below
      clear hat
      cases hxs : x.s with
      | true =>
        rw [hxs] at c2
        have hlen2 := wL_len n L x.t
        have HW := Lib.hid (x_wait (x := x.t) H.out none_stable (by omega))
        have Z2 := Lib.hid (zero_waits (x := x.t) Z.out)
        go_wp2_with fail
        refine HW.out.mono ?_
        rintro e w2 ⟨rfl, h2⟩
        have H4 := Lib.hid h2
        clear h2 c0 c1 c2 HW
        have hLL : (wL n L x.t).length ≤ k + 1 := by omega
        generalize wL n L x.t = LL at *
        generalize wB n L x.t = bb at *
        generalize wE L x.t = ee at *
        have hN0 := hn0
        have hN1 := hn1
        have SS := Lib.hid ((SG.out 135 b1 n LL).star none_stable)
        have T1 := Lib.hid (x_count H4.out)
        have T2 := Lib.hid (x_queue H4.out (by omega))
        by_cases hnz : n = 0
        · have hl0 := Z2.out hnz
          have gz : (n == 0) = true := by rw [beq_iff_eq]; exact hnz
          have NZ := Lib.hid hnz
          have LZ := Lib.hid hl0
          have hlz : LL.length = 0 := by rw [hl0]; rfl
          rw [hlz] at T2
          clear hnz hl0
          go_wp2_with fail
          refine T1.out.mono ?_
          rintro e w6 ⟨rfl, rfl⟩
          go_wp2_with fail
          refine T2.out.mono ?_
          rintro e w7 ⟨A7, c7, rfl, hr7, hk7, ho7⟩
          have K7 := Lib.hid hk7
          clear hr7 hk7 ho7
          go_wp2_with fail
          go_roundw
          case rel => exact ⟨k + 1, n, LL, by omega, by go_num, by rfl, by omega, hN0, hN1, Z2.out, H4.out.kept SS.out K7.out⟩
          case measure => simp [intOf]; omega
        · have gz : (n == 0) = false := by rw [beq_eq_false_iff_ne]; exact hnz
          have NZ := Lib.hid hnz
          clear hnz
          go_wp2_with fail
          refine T1.out.mono ?_
          rintro e w6 ⟨rfl, rfl⟩
          go_wp2_with fail
          go_roundw
          case rel => exact ⟨k + 1, n, LL, by omega, by go_num, by rfl, by omega, hN0, hN1, Z2.out, H4.out⟩
          case measure => simp [intOf]; omega
      | false =>
        rw [hxs] at c2
        have hlen2 := gL_len n x.n L
        have HW := Lib.hid (x_add (d := x.n) H.out none_stable hn0 hn1 x.hn.1 x.hn.2)
        have Z2 := Lib.hid (zero_keeps (d := x.n) Z.out)
        obtain ⟨hN0, hN1⟩ := gN_in (d := x.n) hn0 hn1
        have hLL : (gL n x.n L).length ≤ k + 1 := by omega
        have hEN := Lib.hid (show gE n x.n = 0 → gN n x.n = n + x.n from fun h => by unfold gN; rw [if_pos h])
        have hEM := Lib.hid (show gE n x.n ≠ 0 → gN n x.n = n from fun h => by unfold gN; rw [if_neg h])
        generalize gL n x.n L = LL at *
        generalize gR n x.n L = RR at *
        generalize gE n x.n = ee at *
        generalize gN n x.n = n' at *
        go_wp2_with fail
        refine HW.out.mono ?_
        rintro e w2 ⟨a2, rfl, h2⟩
        have H4 := Lib.hid (Holds.assoc h2).drop
        clear h2 c0 c1 c2 HW
        obtain ⟨c0, c1, c2⟩ := CC.out _ H4.out.below
        by_cases hee : ee = 0
        · have hnn := hEN.out hee
          have w9 : IntKind.i64.wrap (n + x.n) = n' := by rw [hnn, IntKind.wrap_i64]; omega
          have w8 : wrap64 (n + x.n) = n' := by rw [hnn]; unfold wrap64; omega
          have EN := Lib.hid hnn
          clear hnn
          subst hee
          have SS := Lib.hid ((SG.out 135 b1 n' LL).star none_stable)
          have T1 := Lib.hid (x_count H4.out)
          have T2 := Lib.hid (x_queue H4.out (by omega))
          by_cases hnz : n' = 0
          · have hl0 := Z2.out hnz
            have gz : (n' == 0) = true := by rw [beq_iff_eq]; exact hnz
            have NZ := Lib.hid hnz
            have LZ := Lib.hid hl0
            have hlz : LL.length = 0 := by rw [hl0]; rfl
            rw [hlz] at T2
            clear hnz hl0
            go_wp2_with fail
            refine T1.out.mono ?_
            rintro e w6 ⟨rfl, rfl⟩
            go_wp2_with fail
            refine T2.out.mono ?_
            rintro e w7 ⟨A7, c7, rfl, hr7, hk7, ho7⟩
            have K7 := Lib.hid hk7
            clear hr7 hk7 ho7
            go_wp2_with fail
            go_roundw
            case rel => exact ⟨k + 1, n', LL, by omega, by go_num, by rfl, by omega, hN0, hN1, Z2.out, H4.out.kept SS.out K7.out⟩
            case measure => simp [intOf]; omega
          · have gz : (n' == 0) = false := by rw [beq_eq_false_iff_ne]; exact hnz
            have NZ := Lib.hid hnz
            clear hnz
            go_wp2_with fail
            refine T1.out.mono ?_
            rintro e w6 ⟨rfl, rfl⟩
            go_wp2_with fail
            go_roundw
            case rel => exact ⟨k + 1, n', LL, by omega, by go_num, by rfl, by omega, hN0, hN1, Z2.out, H4.out⟩
            case measure => simp [intOf]; omega
        · have hnn := hEM.out hee
          have ge : (ee == 0) = false := by rw [beq_eq_false_iff_ne]; exact hee
          subst hnn
          have SS := Lib.hid ((SG.out 135 b1 n' LL).star none_stable)
          have T1 := Lib.hid (x_count H4.out)
          have T2 := Lib.hid (x_queue H4.out (by omega))
          by_cases hnz : n' = 0
          · have hl0 := Z2.out hnz
            have gz : (n' == 0) = true := by rw [beq_iff_eq]; exact hnz
            have NZ := Lib.hid hnz
            have LZ := Lib.hid hl0
            have hlz : LL.length = 0 := by rw [hl0]; rfl
            rw [hlz] at T2
            clear hnz hl0
            go_wp2_with fail
            refine T1.out.mono ?_
            rintro e w6 ⟨rfl, rfl⟩
            go_wp2_with fail
            refine T2.out.mono ?_
            rintro e w7 ⟨A7, c7, rfl, hr7, hk7, ho7⟩
            have K7 := Lib.hid hk7
            clear hr7 hk7 ho7
            go_wp2_with fail
            go_roundw
            case rel => exact ⟨k + 1, n', LL, by omega, by go_num, by rfl, by omega, hN0, hN1, Z2.out, H4.out.kept SS.out K7.out⟩
            case measure => simp [intOf]; omega
          · have gz : (n' == 0) = false := by rw [beq_eq_false_iff_ne]; exact hnz
            have NZ := Lib.hid hnz
            clear hnz
            go_wp2_with fail
            refine T1.out.mono ?_
            rintro e w6 ⟨rfl, rfl⟩
            go_wp2_with fail
            go_roundw
            case rel => exact ⟨k + 1, n', LL, by omega, by go_num, by rfl, by omega, hN0, hN1, Z2.out, H4.out⟩
            case measure => simp [intOf]; omega
    · rcases (show ¬ k < len ∨ (k < len ∧ ¬ k < 300) by omega) with hex | ⟨hex1, hex2⟩
      all_goals go_wp2_with fail
      all_goals refine (awake_calls _).mono ?_
      all_goals rintro e w9 ⟨rfl, hk9⟩
      all_goals have K9 := Lib.hid hk9
      all_goals clear hk9
      all_goals go_wp2_with fail
      all_goals go_ret
      all_goals exact ⟨rfl, (hb _ H.out.below).then K9.out⟩
open Go.ChangeShapes Go.WideShapes Go.ChangeAt in
theorem onces_law : R.Law 8 Try.f8 R.any := by
  intro H enc W base args ds p hval hA hsz _ hlt
  rw [Try.params8] at hA hval
  obtain ⟨v0, vs0, d0, ds0, p0, q0, hargs, rfl, rfl, h0, r0⟩ := trodAll_cons hA
  obtain ⟨rfl, rfl, rfl⟩ := trodAll_nil r0
  obtain rfl : args = #[v0] := by cases args; simp_all
  obtain ⟨A, len, cap, l, rfl, h1, h2, hl⟩ := open_deeds (hval 0 65 v0 rfl rfl) h0 (fun x hx => hlt x (List.mem_append_left _ hx))
  exact (onces_calls W A len cap l hl h1 h2).mono fun e w' h => ⟨h.1, h.2.below (Nat.le_refl _) (fun _ h => h.elim)⟩
open Go.ChangeShapes Go.WideShapes Go.ChangeAt in
theorem zero_law : R.Law 11 Try.f11 R.any := by
  intro H enc W base args ds p hval hA hsz _ hlt
  rw [Try.params11] at hA hval
  obtain ⟨v0, vs0, d0, ds0, p0, q0, hargs, rfl, rfl, h0, r0⟩ := trodAll_cons hA
  obtain ⟨rfl, rfl, rfl⟩ := trodAll_nil r0
  obtain rfl : args = #[v0] := by cases args; simp_all
  obtain ⟨A, len, cap, l, rfl, h1, h2, hl⟩ := open_deeds (hval 0 65 v0 rfl rfl) h0 (fun x hx => hlt x (List.mem_append_left _ hx))
  exact (zero_calls W A len cap l hl h1 h2).mono fun e w' h => ⟨h.1, h.2.below (Nat.le_refl _) (fun _ h => h.elim)⟩
end Go.Proofs.Ytmohpjkbhpgidaa.A
