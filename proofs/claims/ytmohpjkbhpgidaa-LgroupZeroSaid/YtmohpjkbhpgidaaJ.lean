/-
  LgroupPlays.
-/
import Derived.Test.YtmohpjkbhpgidaaI
import Derived.Deep.RegionHeld3
namespace Go.Proofs.Ytmohpjkbhpgidaa.A
open Go.RowKit Go.Proofs.Ytmohpjkbhpgidaa.U
set_option linter.unusedVariables false
set_option linter.unusedSimpArgs false
set_option maxRecDepth 100000

theorem x_count_ {B : Nat} {w0 w : World} {Q : SP} {b : Nat} {n : Int} {L : List Int} (h : Holds B w0 w (star (gP 135 b n L) Q)) : Calls Try.prog 51 #[.pointer (some ⟨b, 0, none⟩)] w (Pure w (.int .i64 n)) :=
  (x_count h).mono fun e w' h => ⟨h.1, by rw [h.2]; exact Drew.same _⟩
theorem gN_in {n d : Int} (hn : 0 ≤ n) (hm : n ≤ 1073741824) : 0 ≤ gN n d ∧ gN n d ≤ 1073741824 := by
  unfold gN
  split
  · rename_i h
    unfold gE at h
    split at h
    · omega
    · split at h
      · omega
      · omega
  · exact ⟨hn, hm⟩
theorem gL_len (n d : Int) (L : List Int) : (gL n d L).length ≤ L.length := by
  unfold gL; split <;> simp
theorem gR_len (n d : Int) (L : List Int) : (gR n d L).length ≤ L.length := by
  unfold gR; split <;> simp
theorem wL_len (n : Int) (L : List Int) (x : Int) : (wL n L x).length ≤ L.length + 1 := by
  unfold wL; split <;> simp
set_option maxHeartbeats 3200000 in
theorem plays_calls (w : World) (A : Option Addr) (len cap : Nat) (l : List Deed) (hA : R.Args w w.heap.size A len 3 Deed.cells l) (hlen : len ≤ cap) (hcap : cap ≤ maxLen) :
    Calls Try.prog 10 #[.slice A len cap] w (fun e w' => e = .returned (.bool true) ∧ Keep Nothing w w') := by
  have HA := Lib.hid hA
  have hu71 := Try.underlying71
  have hu87 := Try.underlying87
  have hb : ∀ w', Below w.heap.size w w' → Keep Nothing w w' := fun w' h => Keep.of_below h _
  have H0 := Lib.hid (Holds.start w)
  have SG := Lib.hid gP_stable
  have SA := Lib.hid anP_stable
  have hmax : maxLen = 9223372036854775807 := by rfl
  clear hA
  go_enter Try.func10, Try.ntmps10
  go_wp2_with fail
  refine (gnew_calls _).mono ?_
  rintro e w1 ⟨rfl, hw1⟩
  have H1 := Lib.hid (show Holds w.heap.size w w1 (star (gP 135 w.heap.size 0 []) none_) by rw [hw1]; exact Holds.newQ H0.out none_stable 135 [.int .i64 0])
  clear hw1
  have H2 := Lib.hid (show Holds w.heap.size w _ (star (gP 87 w1.heap.size 0 []) (star (gP 135 w.heap.size 0 []) none_)) from Holds.newQ H1.out ((SG.out _ _ _ _).star none_stable) 87 [.int .i64 0])
  have H3 := Lib.hid H2.out.turn.turn.drop.swap
  go_wp2_with fail
  generalize hg2 : w1.heap.size = b2 at *
  generalize hg1 : w.heap.size = b1 at *
  clear hg1 hg2
  go_loopw [5] (fun v wr => ∃ (k : Nat) (n : Int) (L : List Int), k ≤ 300 ∧ v = .int .i64 k ∧ L.length ≤ k ∧ 0 ≤ n ∧ n ≤ 1073741824 ∧ Holds b1 w wr (star (gP 135 b1 n L) (gP 87 b2 n L))) (fun v _ => 300 - (intOf v).toNat)
  case atStart => exact ⟨0, 0, [], by omega, by simp, by simp, by omega, by omega, H3.out⟩
  case round =>
    obtain ⟨k, n, L, hk, rfl, hL, hn0, hn1, hh⟩ := hrel
    have H := Lib.hid hh
    clear hh
    by_cases hin : k < len ∧ k < 300
    · obtain ⟨hkl, hk3⟩ := hin
      obtain ⟨ad, x, rfl, hat⟩ := deed_all HA.out hkl
      have CC := Lib.hid hat
      obtain ⟨c0, c1, c2⟩ := CC.out _ H.out.below
      clear hat
      cases hxs : x.s with
      | true =>
        rw [hxs] at c2
        have hw := x_wait (x := x.t) H.out (SG.out _ _ _ _) (by omega)
        have hlen2 := wL_len n L x.t
        have HW := Lib.hid hw
        clear hw
        go_wp2_with fail
        refine HW.out.mono ?_
        rintro e w2 ⟨rfl, h2⟩
        have H2' := Lib.hid h2.swap
        clear h2 c0 c1 c2 HW
        obtain ⟨c0, c1, c2⟩ := CC.out _ H2'.out.below
        rw [hxs] at c2
        have hw := y_wait (x := x.t) H2'.out (SG.out _ _ _ _) (by omega)
        have HW := Lib.hid hw
        clear hw
        go_wp2_with fail
        refine HW.out.mono ?_
        rintro e w3 ⟨rfl, h3⟩
        have H4 := Lib.hid h3.swap
        clear h3 c0 c1 c2 HW
        have hLL : (wL n L x.t).length ≤ k + 1 := by omega
        generalize wL n L x.t = LL at *
        generalize wB n L x.t = bb at *
        generalize wE L x.t = ee at *
        have hN0 := hn0
        have hN1 := hn1
        obtain ⟨F8, v8, hb8, hr8, hF8⟩ := H4.out.right
        obtain ⟨A8, c8, rfl, _, _⟩ := hr8.form
        have y0 := hb8.cell 0
        have y1 := hb8.cell 1
        have R8 := Lib.hid hr8
        clear hb8 hr8 hF8
        have SS := Lib.hid ((SG.out 135 b1 n LL).star (SG.out 87 b2 n LL))
        have T1 := Lib.hid (fun n => x_count_ (H4.out.drewN SS.out n))
        have T2 := Lib.hid (fun n => x_queue (H4.out.drewN SS.out n) (by omega))
        go_wp2_with fail
        go_region_held3 (fun w' => w'.cell? ⟨b2, 0, none⟩ = some (.int .i64 n) ∧ w'.cell? ⟨b2, 1, none⟩ = some (.slice A8 LL.length c8)) (first | exact ⟨y0, y1⟩ | exact y9 | go_keep) ((first | (go_at_call 51; refine (T1.out _).mono ?_; rintro e w6 ⟨rfl, ⟨n6, rfl⟩⟩) | (go_at_call 52; refine (T2.out _).mono ?_; rintro e w7 ⟨A7, c7, rfl, hr7, hk7, ho7⟩; have y9 : w7.cell? ⟨b2, 0, none⟩ = some (.int .i64 n) ∧ w7.cell? ⟨b2, 1, none⟩ = some (.slice A8 LL.length c8) := ⟨hk7.cell y0 (fun h => h), hk7.cell y1 (fun h => h)⟩; have P7 := Lib.hid hr7; have K7 := Lib.hid hk7; clear hr7 hk7 ho7) | (go_at_call 22; refine (ints_calls _ _ _ _ _ _ _ LL P7.out.src ((R8.out.drewN _).keep K7.out (fun _ _ h => h)).src (by omega)).mono ?_; rintro e w8 ⟨rfl, ⟨n8, rfl⟩⟩)))
        go_wp2_with fail
        go_roundw
        case rel => exact ⟨k + 1, n, LL, by omega, by go_num, by omega, hN0, hN1, (((H4.out.drewN SS.out _).kept SS.out K7.out).drewN SS.out _)⟩
        case measure => simp [intOf]; omega
      | false =>
        rw [hxs] at c2
        have hw := x_add (d := x.n) H.out (SG.out _ _ _ _) hn0 hn1 x.hn.1 x.hn.2
        have hlen2 := gL_len n x.n L
        have hlen3 := gR_len n x.n L
        have HW := Lib.hid hw
        clear hw
        go_wp2_with fail
        refine HW.out.mono ?_
        rintro e w2 ⟨a2, rfl, h2⟩
        have H2' := Lib.hid (Holds.assoc h2).turn.turn
        clear h2 c0 c1 c2 HW
        obtain ⟨c0, c1, c2⟩ := CC.out _ H2'.out.below
        rw [hxs] at c2
        have hw := y_add (d := x.n) H2'.out ((SA.out _ _).star (SG.out _ _ _ _)) hn0 hn1 x.hn.1 x.hn.2
        have HW := Lib.hid hw
        clear hw
        go_wp2_with fail
        refine HW.out.mono ?_
        rintro e w3 ⟨a3, rfl, h3⟩
        have H3' := Lib.hid (Holds.assoc h3)
        clear h3 c0 c1 c2 HW
        have hLL : (gL n x.n L).length ≤ k + 1 := by omega
        obtain ⟨hN0, hN1⟩ := gN_in (d := x.n) hn0 hn1
        generalize gL n x.n L = LL at *
        generalize gR n x.n L = RR at *
        generalize gE n x.n = ee at *
        generalize gN n x.n = n' at *
        have HI := Lib.hid (show Calls Try.prog 22 #[.slice a2.1 RR.length a2.2, .slice a3.1 RR.length a3.2] w3 (Pure w3 (.bool true)) by
          obtain ⟨F1, r1, _⟩ := H3'.out.left
          obtain ⟨F2, r2, _⟩ := H3'.out.drop.drop.left
          exact ints_calls _ _ _ _ _ _ _ RR r2.src r1.src (by omega))
        go_wp2_with fail
        refine HI.out.mono ?_
        rintro e w4 ⟨rfl, ⟨n4, rfl⟩⟩
        have H4 := Lib.hid H3'.out.drop.turn.drop
        obtain ⟨F8, v8, hb8, hr8, hF8⟩ := H4.out.right
        obtain ⟨A8, c8, rfl, _, _⟩ := hr8.form
        have y0 := hb8.cell 0
        have y1 := hb8.cell 1
        have R8 := Lib.hid hr8
        clear hb8 hr8 hF8
        have SS := Lib.hid ((SG.out 135 b1 n' LL).star (SG.out 87 b2 n' LL))
        have T1 := Lib.hid (fun n => x_count_ (H4.out.drewN SS.out n))
        have T2 := Lib.hid (fun n => x_queue (H4.out.drewN SS.out n) (by omega))
        go_wp2_with fail
        go_region_held3 (fun w' => w'.cell? ⟨b2, 0, none⟩ = some (.int .i64 n') ∧ w'.cell? ⟨b2, 1, none⟩ = some (.slice A8 LL.length c8)) (first | exact ⟨y0, y1⟩ | exact y9 | go_keep) ((first | (go_at_call 51; refine (T1.out _).mono ?_; rintro e w6 ⟨rfl, ⟨n6, rfl⟩⟩) | (go_at_call 52; refine (T2.out _).mono ?_; rintro e w7 ⟨A7, c7, rfl, hr7, hk7, ho7⟩; have y9 : w7.cell? ⟨b2, 0, none⟩ = some (.int .i64 n') ∧ w7.cell? ⟨b2, 1, none⟩ = some (.slice A8 LL.length c8) := ⟨hk7.cell y0 (fun h => h), hk7.cell y1 (fun h => h)⟩; have P7 := Lib.hid hr7; have K7 := Lib.hid hk7; clear hr7 hk7 ho7) | (go_at_call 22; refine (ints_calls _ _ _ _ _ _ _ LL P7.out.src ((R8.out.drewN _).keep K7.out (fun _ _ h => h)).src (by omega)).mono ?_; rintro e w8 ⟨rfl, ⟨n8, rfl⟩⟩)))
        go_wp2_with fail
        go_roundw
        case rel => exact ⟨k + 1, n', LL, by omega, by go_num, by omega, hN0, hN1, (((H4.out.drewN SS.out _).kept SS.out K7.out).drewN SS.out _)⟩
        case measure => simp [intOf]; omega
    · rcases (show ¬ k < len ∨ (k < len ∧ ¬ k < 300) by omega) with hex | ⟨hex1, hex2⟩
      all_goals go_wp2_with fail
      all_goals refine (awake_calls _).mono ?_
      all_goals rintro e w9 ⟨rfl, hk9⟩
      all_goals have K9 := Lib.hid hk9
      all_goals clear hk9
      all_goals go_wp2_with fail
      all_goals go_ret
      all_goals exact ⟨rfl, (hb _ H.out.below).then K9.out⟩
open Go.ChangeShapes Go.WideShapes Go.ChangeAt in
theorem plays_law : R.Law 10 Try.f10 R.any := by
  intro H enc W base args ds p hval hA hsz _ hlt
  rw [Try.params10] at hA hval
  obtain ⟨v0, vs0, d0, ds0, p0, q0, hargs, rfl, rfl, h0, r0⟩ := trodAll_cons hA
  obtain ⟨rfl, rfl, rfl⟩ := trodAll_nil r0
  obtain rfl : args = #[v0] := by cases args; simp_all
  obtain ⟨A, len, cap, l, rfl, h1, h2, hl⟩ := open_deeds (hval 0 65 v0 rfl rfl) h0 (fun x hx => hlt x (List.mem_append_left _ hx))
  exact (plays_calls W A len cap l hl h1 h2).mono fun e w' h => ⟨h.1, h.2.below (Nat.le_refl _) (fun _ h => h.elim)⟩
end Go.Proofs.Ytmohpjkbhpgidaa.A
