/-
  LmutexPlays.
-/
import Derived.Test.YtmohpjkbhpgidaaRI
import Derived.Deep.RegionHeld3
namespace Go.Proofs.Ytmohpjkbhpgidaa.A
open Go.RowKit Go.Proofs.Ytmohpjkbhpgidaa.U
set_option linter.unusedVariables false
set_option linter.unusedSimpArgs false
set_option maxRecDepth 100000

theorem x_who {B : Nat} {w0 w : World} {Q : SP} {b : Nat} {h : Bool} {who : Int} {L : List Wt} (hh : Holds B w0 w (star (mP b h who L) Q)) : Calls Try.prog 33 #[.pointer (some ⟨b, 0, none⟩)] w (Pure w (.int .i64 (whoOf h who))) :=
  (x_holder hh).mono fun e w' h => ⟨h.1, by rw [h.2]; exact Drew.same _⟩
theorem mLock_len (h : Bool) (who : Int) (L : List Wt) (x : Int) : (mLock h who L x).2.2.2.2.length ≤ L.length + 1 := by
  unfold mLock; repeat' split
  all_goals simp
theorem mUnlock_len (h : Bool) (who : Int) (L : List Wt) (x : Int) : (mUnlock h who L x).2.2.2.2.length ≤ L.length := by
  unfold mUnlock; repeat' split
  all_goals simp
theorem smP_stable (b : Nat) (W : Int) (L : List Int) : Stable (smP b W L) := qP_stable _ _ _ _
theorem mgood_new : MGood false 0 [] := ⟨fun h => (by cases h), fun _ => rfl, fun t ht => by simp [tasks] at ht⟩
set_option maxHeartbeats 6400000 in
theorem mplays_calls (w : World) (A : Option Addr) (len cap : Nat) (l : List LDeed) (hA : R.Args w w.heap.size A len 3 LDeed.cells l) (hlen : len ≤ cap) (hcap : cap ≤ maxLen) :
    Calls Try.prog 6 #[.slice A len cap] w (fun e w' => e = .returned (.bool true) ∧ Keep Nothing w w') := by
  have HA := Lib.hid hA
  have hu31 := Try.underlying31
  have hu62 := Try.underlying62
  have hb : ∀ w', Below w.heap.size w w' → Keep Nothing w w' := fun w' h => Keep.of_below h _
  have H0 := Lib.hid (Holds.start w)
  have SM := Lib.hid mP_stable
  have SQ := Lib.hid smP_stable
  have hmax : maxLen = 9223372036854775807 := by rfl
  clear hA
  go_enter Try.func6, Try.ntmps6
  go_wp2_with fail
  refine (mnew_calls _).mono ?_
  rintro e w1 ⟨rfl, hw1⟩
  have H1 := Lib.hid (show Holds w.heap.size w w1 (star (mP w.heap.size false 0 []) none_) by rw [hw1]; exact Holds.newM H0.out none_stable)
  clear hw1
  go_wp2_with fail
  refine (smnew_calls _).mono ?_
  rintro e w2 ⟨rfl, hw2⟩
  have H2 := Lib.hid (show Holds w.heap.size w w2 (star (smP w1.heap.size (-1) []) (star (mP w.heap.size false 0 []) none_)) by rw [hw2]; exact Holds.newQ H1.out ((SM.out _ _ _ _).star none_stable) 62 [.int .i64 (-1)])
  clear hw2
  have H3 := Lib.hid H2.out.turn.turn.drop.swap
  go_wp2_with fail
  generalize hg2 : w1.heap.size = b2 at *
  generalize hg1 : w.heap.size = b1 at *
  clear hg1 hg2
  go_loopw [5] (fun v wr => ∃ (k : Nat) (h : Bool) (who : Int) (L : List Wt), k ≤ 300 ∧ v = .int .i64 k ∧ L.length ≤ k ∧ MGood h who L ∧ Holds b1 w wr (star (mP b1 h who L) (smP b2 (whoOf h who) (tasks L)))) (fun v _ => 300 - (intOf v).toNat)
  case atStart => exact ⟨0, false, 0, [], by omega, by simp, by simp, mgood_new, H3.out⟩
  case round =>
    obtain ⟨k, h, who, L, hk, rfl, hL, hgd, hh⟩ := hrel
    have H := Lib.hid hh
    have GD := Lib.hid hgd
    clear hh hgd
    by_cases hin : k < len ∧ k < 300
    · obtain ⟨hkl, hk3⟩ := hin
      obtain ⟨ad, x, rfl, hat⟩ := ldeed_all HA.out hkl
      obtain ⟨c0, c1, c2⟩ := hat _ H.out.below
      clear hat
      have HN := Lib.hid (Holds.newBlk H.out (by repeat (first | exact none_stable | exact SM.out _ _ _ _ | exact SQ.out _ _ _ | exact blkP_stable _ _ _ | apply Stable.star)) 31 #[.int .i64 x.t, .bool x.u, .bool x.r]).turn
      have PB0 := HN.out.turn.turn.left
      obtain ⟨_, pb0, _⟩ := PB0
      have p00 := pb0.cell 0
      have p01 := pb0.cell 1
      clear pb0
      cases hxu : x.u with
      | true =>
        rw [hxu] at c1 HN p01 p00
        obtain ⟨r1, r2, h', who', L', hE⟩ : ∃ r1 r2 h' who' L', mUnlock h who L x.t = (r1, r2, h', who', L') := ⟨_, _, _, _, _, rfl⟩
        have hlen2 := mUnlock_len h who L x.t
        have hx := x_munlock HN.out (by repeat (first | exact none_stable | exact SM.out _ _ _ _ | exact SQ.out _ _ _ | exact blkP_stable _ _ _ | apply Stable.star)) (by omega) x.t
        have hy := unlock_both GD.out x.t
        rw [hE] at hx hlen2 hy
        dsimp only at hx hlen2 hy
        obtain ⟨hy1, hy2⟩ := hy
        have HX := Lib.hid hx
        have HY := Lib.hid hy1
        have GD' := Lib.hid hy2
        clear hx hE hy1 hy2
        go_wp2_with fail
        refine HX.out.mono ?_
        rintro e w3 ⟨rfl, h3⟩
        have H4 := Lib.hid h3.turn
        obtain ⟨_, pb1, _⟩ := H4.out.turn.left
        have p10 := pb1.cell 0
        clear h3 pb1 p00 p01 HX
        have hx := x_smunlock H4.out (by repeat (first | exact none_stable | exact SM.out _ _ _ _ | exact SQ.out _ _ _ | exact blkP_stable _ _ _ | apply Stable.star)) (by simp [tasks]; omega) x.t
        rw [HY.out] at hx
        dsimp only at hx
        have HX := Lib.hid hx
        clear hx
        go_wp2_with fail
        refine HX.out.mono ?_
        rintro e w4 ⟨rfl, h4⟩
        have H5 := Lib.hid h4.turn.drop
        clear h4 p10 HX
        have ht : (tasks L').length = L'.length := by simp [tasks]
        obtain ⟨F8, v8, hb8, hr8, hF8⟩ := H5.out.right
        obtain ⟨A8, c8, rfl, _, _⟩ := hr8.form
        have SS := Lib.hid ((SM.out b1 h' who' L').star (SQ.out b2 (whoOf h' who') (tasks L')))
        have T1 := Lib.hid (fun n => x_who (H5.out.drewN SS.out n))
        have T2 := Lib.hid (fun n => x_mqueue (H5.out.drewN SS.out n) (by omega))
        have OUT := Lib.hid (fun (wr : World) (hh : Holds b1 w wr (star (mP b1 h' who' L') (smP b2 (whoOf h' who') (tasks L')))) => (show ∃ (k' : Nat) (h : Bool) (who : Int) (L : List Wt), k' ≤ 300 ∧ Value.int .i64 ((k : Int) + 1) = .int .i64 k' ∧ L.length ≤ k' ∧ MGood h who L ∧ Holds b1 w wr (star (mP b1 h who L) (smP b2 (whoOf h who) (tasks L))) from ⟨k + 1, h', who', L', by omega, by simp, by omega, GD'.out, hh⟩))
        have hTT : (tasks L').length ≤ 1000000 := by omega
        clear ht
        generalize whoOf h' who' = WW at *
        generalize tasks L' = TT at *
        have y0 := hb8.cell 0
        have y1 := hb8.cell 1
        have R8 := Lib.hid hr8
        clear hb8 hr8 hF8
        go_wp2_with fail
        go_region_held3 (fun w' => w'.cell? ⟨b2, 0, none⟩ = some (.int .i64 WW) ∧ w'.cell? ⟨b2, 1, none⟩ = some (.slice A8 TT.length c8)) (first | exact ⟨y0, y1⟩ | exact y9 | go_keep) ((first | (go_at_call 33; refine (T1.out _).mono ?_; rintro e w6 ⟨rfl, ⟨n6, rfl⟩⟩) | (go_at_call 37; refine (T2.out _).mono ?_; rintro e w7 ⟨A7, c7, rfl, hr7, hk7, ho7⟩; have y9 : w7.cell? ⟨b2, 0, none⟩ = some (.int .i64 WW) ∧ w7.cell? ⟨b2, 1, none⟩ = some (.slice A8 TT.length c8) := ⟨hk7.cell y0 (fun h => h), hk7.cell y1 (fun h => h)⟩; have P7 := Lib.hid hr7; have K7 := Lib.hid hk7; clear hr7 hk7 ho7) | (go_at_call 22; refine (ints_calls _ _ _ _ _ _ _ TT P7.out.src ((R8.out.drewN _).keep K7.out (fun _ _ h => h)).src (by omega)).mono ?_; rintro e w8 ⟨rfl, ⟨n8, rfl⟩⟩)))
        go_wp2_with fail
        go_roundw
        case rel => exact OUT.out _ (((H5.out.drewN SS.out _).kept SS.out K7.out).drewN SS.out _)
        case measure => simp [intOf]; omega
      | false =>
        rw [hxu] at c1 HN p01 p00
        obtain ⟨r1, r2, h', who', L', hE⟩ : ∃ r1 r2 h' who' L', mLock h who L x.t = (r1, r2, h', who', L') := ⟨_, _, _, _, _, rfl⟩
        have hlen2 := mLock_len h who L x.t
        have hx := x_mlock HN.out (by repeat (first | exact none_stable | exact SM.out _ _ _ _ | exact SQ.out _ _ _ | exact blkP_stable _ _ _ | apply Stable.star)) (by omega) x.t
        have hy := lock_both GD.out x.t
        rw [hE] at hx hlen2 hy
        dsimp only at hx hlen2 hy
        obtain ⟨hy1, hy2⟩ := hy
        have HX := Lib.hid hx
        have HY := Lib.hid hy1
        have GD' := Lib.hid hy2
        clear hx hE hy1 hy2
        go_wp2_with fail
        refine HX.out.mono ?_
        rintro e w3 ⟨rfl, h3⟩
        have H4 := Lib.hid h3.turn
        obtain ⟨_, pb1, _⟩ := H4.out.turn.left
        have p10 := pb1.cell 0
        clear h3 pb1 p00 p01 HX
        have hx := x_smlock H4.out (by repeat (first | exact none_stable | exact SM.out _ _ _ _ | exact SQ.out _ _ _ | exact blkP_stable _ _ _ | apply Stable.star)) (by simp [tasks]; omega) x.t
        rw [HY.out] at hx
        dsimp only at hx
        have HX := Lib.hid hx
        clear hx
        go_wp2_with fail
        refine HX.out.mono ?_
        rintro e w4 ⟨rfl, h4⟩
        have H5 := Lib.hid h4.turn.drop
        clear h4 p10 HX
        have ht : (tasks L').length = L'.length := by simp [tasks]
        obtain ⟨F8, v8, hb8, hr8, hF8⟩ := H5.out.right
        obtain ⟨A8, c8, rfl, _, _⟩ := hr8.form
        have SS := Lib.hid ((SM.out b1 h' who' L').star (SQ.out b2 (whoOf h' who') (tasks L')))
        have T1 := Lib.hid (fun n => x_who (H5.out.drewN SS.out n))
        have T2 := Lib.hid (fun n => x_mqueue (H5.out.drewN SS.out n) (by omega))
        have OUT := Lib.hid (fun (wr : World) (hh : Holds b1 w wr (star (mP b1 h' who' L') (smP b2 (whoOf h' who') (tasks L')))) => (show ∃ (k' : Nat) (h : Bool) (who : Int) (L : List Wt), k' ≤ 300 ∧ Value.int .i64 ((k : Int) + 1) = .int .i64 k' ∧ L.length ≤ k' ∧ MGood h who L ∧ Holds b1 w wr (star (mP b1 h who L) (smP b2 (whoOf h who) (tasks L))) from ⟨k + 1, h', who', L', by omega, by simp, by omega, GD'.out, hh⟩))
        have hTT : (tasks L').length ≤ 1000000 := by omega
        clear ht
        generalize whoOf h' who' = WW at *
        generalize tasks L' = TT at *
        have y0 := hb8.cell 0
        have y1 := hb8.cell 1
        have R8 := Lib.hid hr8
        clear hb8 hr8 hF8
        go_wp2_with fail
        go_region_held3 (fun w' => w'.cell? ⟨b2, 0, none⟩ = some (.int .i64 WW) ∧ w'.cell? ⟨b2, 1, none⟩ = some (.slice A8 TT.length c8)) (first | exact ⟨y0, y1⟩ | exact y9 | go_keep) ((first | (go_at_call 33; refine (T1.out _).mono ?_; rintro e w6 ⟨rfl, ⟨n6, rfl⟩⟩) | (go_at_call 37; refine (T2.out _).mono ?_; rintro e w7 ⟨A7, c7, rfl, hr7, hk7, ho7⟩; have y9 : w7.cell? ⟨b2, 0, none⟩ = some (.int .i64 WW) ∧ w7.cell? ⟨b2, 1, none⟩ = some (.slice A8 TT.length c8) := ⟨hk7.cell y0 (fun h => h), hk7.cell y1 (fun h => h)⟩; have P7 := Lib.hid hr7; have K7 := Lib.hid hk7; clear hr7 hk7 ho7) | (go_at_call 22; refine (ints_calls _ _ _ _ _ _ _ TT P7.out.src ((R8.out.drewN _).keep K7.out (fun _ _ h => h)).src (by omega)).mono ?_; rintro e w8 ⟨rfl, ⟨n8, rfl⟩⟩)))
        go_wp2_with fail
        go_roundw
        case rel => exact OUT.out _ (((H5.out.drewN SS.out _).kept SS.out K7.out).drewN SS.out _)
        case measure => simp [intOf]; omega
    · rcases (show ¬ k < len ∨ (k < len ∧ ¬ k < 300) by omega) with hex | ⟨hex1, hex2⟩
      all_goals go_wp2_with fail
      all_goals refine (awake8 _).mono ?_
      all_goals rintro e w9 ⟨rfl, hk9⟩
      all_goals have K9 := Lib.hid hk9
      all_goals clear hk9
      all_goals go_wp2_with fail
      all_goals go_ret
      all_goals exact ⟨rfl, (hb _ H.out.below).then K9.out⟩
open Go.ChangeShapes Go.WideShapes Go.ChangeAt in
theorem mplays_law : R.Law 6 Try.f6 R.any := by
  intro H enc W base args ds p hval hA hsz _ hlt
  rw [Try.params6] at hA hval
  obtain ⟨v0, vs0, d0, ds0, p0, q0, hargs, rfl, rfl, h0, r0⟩ := trodAll_cons hA
  obtain ⟨rfl, rfl, rfl⟩ := trodAll_nil r0
  obtain rfl : args = #[v0] := by cases args; simp_all
  obtain ⟨A, len, cap, l, rfl, h1, h2, hl⟩ := open_ldeeds (hval 0 22 v0 rfl rfl) h0 (fun x hx => hlt x (List.mem_append_left _ hx))
  exact (mplays_calls W A len cap l hl h1 h2).mono fun e w' h => ⟨h.1, h.2.below (Nat.le_refl _) (fun _ h => h.elim)⟩
end Go.Proofs.Ytmohpjkbhpgidaa.A
