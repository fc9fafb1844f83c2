/-
  LearnerPlays: any deeds on a learner: each answer, what is applied, what is known.
-/
import Derived.Test.YtcbjmmjjohigmaaO
namespace Go.Proofs.Ytcbjmmjjohigmaa.A
open Go.RowKit Go.Proofs.Ytcbjmmjjohigmaa.U
set_option linter.unusedVariables false
set_option linter.unusedSimpArgs false
set_option maxRecDepth 100000

theorem deed_all {w : World} {B : Nat} {A : Option Addr} {len : Nat} {l : List Deed} (h : R.Args w B A len 10 Deed.cells l) {k : Nat} (hk : k < len) :
    ∃ (ad : Addr) (x : Deed), A = some ad ∧ l[k]? = some x ∧ ∀ w', Below B w w' → w'.cell? (ad.add (k * 10)) = some (.int .i64 x.k) ∧ w'.cell? ⟨(ad.add (k * 10)).block, (ad.add (k * 10)).off + 1, none⟩ = some (.int .i64 x.n) ∧ w'.cell? ⟨(ad.add (k * 10)).block, (ad.add (k * 10)).off + 2, none⟩ = some (.int .i64 x.m) ∧ w'.cell? ⟨(ad.add (k * 10)).block, (ad.add (k * 10)).off + 3, none⟩ = some (.int .i64 x.e.a) ∧ w'.cell? ⟨(ad.add (k * 10)).block, (ad.add (k * 10)).off + 4, none⟩ = some (.int .i64 x.e.b) ∧ w'.cell? ⟨(ad.add (k * 10)).block, (ad.add (k * 10)).off + 5, none⟩ = some (.int .i64 x.e.c.k) ∧ w'.cell? ⟨(ad.add (k * 10)).block, (ad.add (k * 10)).off + 6, none⟩ = some (.int .i64 x.e.c.s) ∧ w'.cell? ⟨(ad.add (k * 10)).block, (ad.add (k * 10)).off + 7, none⟩ = some (.int .i64 x.e.c.q) ∧ w'.cell? ⟨(ad.add (k * 10)).block, (ad.add (k * 10)).off + 8, none⟩ = some (.string x.e.c.nm) ∧ w'.cell? ⟨(ad.add (k * 10)).block, (ad.add (k * 10)).off + 9, none⟩ = some (.int .i64 x.e.c.n) := by
  have hl := h.1
  obtain ⟨ad, e, hB, hc⟩ := h.2 k (l[k]'(by omega)) (List.getElem?_eq_getElem (by omega))
  refine ⟨ad, _, e, List.getElem?_eq_getElem (by omega), fun w' hw => ?_⟩
  have hb : (ad.add (k * 10)).block < B := by rw [addBlock]; exact hB
  have g : ∀ j, 0 < j → w'.cell? ⟨(ad.add (k * 10)).block, (ad.add (k * 10)).off + j, none⟩ = w.cell? (ad.add (k * 10 + j)) := fun j hj => by
    rw [addLater ad (k * 10) j hj]
    exact hw.cell (p := ⟨(ad.add (k * 10)).block, (ad.add (k * 10)).off + j, none⟩) hb
  exact ⟨(hw.cell (p := ad.add (k * 10)) hb).trans (hc 0 _ rfl), (g 1 (by omega)).trans (hc 1 _ rfl), (g 2 (by omega)).trans (hc 2 _ rfl), (g 3 (by omega)).trans (hc 3 _ rfl), (g 4 (by omega)).trans (hc 4 _ rfl), (g 5 (by omega)).trans (hc 5 _ rfl), (g 6 (by omega)).trans (hc 6 _ rfl), (g 7 (by omega)).trans (hc 7 _ rfl), (g 8 (by omega)).trans (hc 8 _ rfl), (g 9 (by omega)).trans (hc 9 _ rfl)⟩
theorem star_third {P Q R S : SP} {w : World} {F : Nat → Prop} (h : star P (star Q (star R S)) w F) : star Q (star R (star P S)) w F := by
  obtain ⟨F1, F2, a, b, c, d⟩ := star_second h
  exact ⟨F1, F2, a, star_second b, c, d⟩
theorem lnL_len (L : List Ent) (a : Int) (x : Ent) : (lnL L a x).length ≤ L.length + 1 := by
  unfold lnL; split <;> simp
theorem lnR_in {L : List Ent} {a : Int} {x : Ent} (h0 : 0 ≤ a) (h1 : a ≤ 9223372036854775807) : 0 ≤ (lnR L a x).1 ∧ (lnR L a x).1 ≤ 9223372036854775807 := by
  unfold lnR
  split
  · exact ⟨h0, h1⟩
  · have := fol_ge (L ++ [x]) a
    omega
theorem jmL_len (L : List Ent) (a s : Int) : (jmL L a s).length ≤ L.length := by
  unfold jmL; split
  · exact Nat.le_refl _
  · exact keepO_le L s
theorem jmR_in {L : List Ent} {a s : Int} (h0 : 0 ≤ a) (h1 : a ≤ 9223372036854775807) (hs : s ≤ 9223372036854775807) : 0 ≤ (jmR L a s).1 ∧ (jmR L a s).1 ≤ 9223372036854775807 := by
  unfold jmR
  split
  · exact ⟨h0, h1⟩
  · have := fol_ge (keepO L s) s
    omega
theorem entries_ {B : Nat} {w0 w : World} {Q : SP} {A A' : Option Addr} {c c' : Nat} {M : List Ent} (h : Holds B w0 w (star (rowP 30 7 (.slice A M.length c) M.length (ents M)) (star (rowP 30 7 (.slice A' M.length c') M.length (ents M)) Q))) :
    Calls Try.prog 21 #[.slice A M.length c, .slice A' M.length c'] w (Pure w (.bool true)) := by
  have h1 := h.row
  have h2 := (Holds.second h).row
  have hl := h1.len
  unfold maxLen at hl
  exact entries_calls w A A' M.length c c' M h1.src h2.src hl
theorem entries_nil (w : World) : Calls Try.prog 21 #[.slice none 0 0, .slice none 0 0] w (Pure w (.bool true)) :=
  entries_calls w none none 0 0 0 [] (Src.none_ w 7) (Src.none_ w 7) (by omega)
theorem ln_at0 {B : Nat} {w0 w : World} {Q : SP} {t b : Nat} {a : Int} {L : List Ent} (h : Holds B w0 w (star (lnP t b a L) Q)) : w.cell? ⟨b, 0, none⟩ = some (.int .i64 a) := by
  obtain ⟨F, v, hb, _⟩ := h.left
  exact hb.cell 0
theorem base0_in {n : Int} (h : n ≤ 9223372036854775807) : 0 ≤ base0 n ∧ base0 n ≤ 9223372036854775807 := by unfold base0; split <;> omega
set_option maxHeartbeats 25600000 in
theorem plays_calls (w : World) (n : Int) (hn : n ≤ 9223372036854775807) (A : Option Addr) (len cap : Nat) (l : List Deed) (hA : R.Args w w.heap.size A len 10 Deed.cells l) (hD : ∀ (i : Nat) (x : Deed), l[i]? = some x → Deed64 x) (hlen : len ≤ cap) (hcap : cap ≤ maxLen) :
    Calls Try.prog 5 #[.int .i64 n, .slice A len cap] w (fun e w' => e = .returned (.bool true) ∧ Keep Nothing w w') := by
  have HA := Lib.hid hA
  have HD := Lib.hid hD
  have hu41 := Try.underlying41
  have hu47 := Try.underlying47
  have hu30 := Try.underlying30
  have hu28 := Try.underlying28
  have hb : ∀ w', Below w.heap.size w w' → Keep Nothing w w' := fun w' h => Keep.of_below h _
  have H0 := Lib.hid (Holds.start w)
  have LS := Lib.hid lnP_stable
  have SB := Lib.hid blkP_stable
  have SR := Lib.hid rowP_stable
  have SN := Lib.hid none_stable
  have hbn := base0_in hn
  have hmax : maxLen = 9223372036854775807 := by rfl
  clear hA hD
  go_enter Try.func5, Try.ntmps5
  go_wp2_with fail
  refine (new_calls _ n).mono ?_
  rintro e w1 ⟨rfl, hw1⟩
  have H1 := Lib.hid (show Holds w.heap.size w w1 (star (lnP 51 w.heap.size (base0 n) []) none_) by rw [hw1]; exact Holds.newLn H0.out SN.out 51 _)
  clear hw1
  go_wp2_with fail
  refine (rnew_calls _ n).mono ?_
  rintro e w2 ⟨rfl, hw2⟩
  have H2 := Lib.hid (Holds.second (show Holds w.heap.size w w2 (star (lnP 47 w1.heap.size (base0 n) []) (star (lnP 51 w.heap.size (base0 n) []) none_)) by rw [hw2]; exact Holds.newLn H1.out ((LS.out _ _ _ _).star SN.out) 47 _))
  clear hw2 H1 H0
  go_wp2_with fail
  generalize hg2 : w1.heap.size = bx at *
  generalize hg1 : w.heap.size = b1 at *
  clear hg1 hg2
  generalize base0 n = a0 at *
  go_loopw [7] (fun v wr => ∃ (k : Nat) (a : Int) (L : List Ent), k ≤ 200 ∧ v = .int .i64 k ∧ L.length ≤ k ∧ 0 ≤ a ∧ a ≤ 9223372036854775807 ∧ Holds b1 w wr (star (lnP 51 b1 a L) (star (lnP 47 bx a L) none_))) (fun v _ => 200 - (intOf v).toNat)
  case atStart => exact ⟨0, a0, [], by omega, by simp, by simp, hbn.1, hbn.2, H2.out⟩
  case round =>
    obtain ⟨k, a, L, hk, rfl, hL, ha0, ha1, hh⟩ := hrel
    have H := Lib.hid hh
    clear hh
    by_cases hin : k < len ∧ k < 200
    · obtain ⟨hkl, hk3⟩ := hin
      obtain ⟨ad, x, rfl, hx, hat⟩ := deed_all HA.out hkl
      have D64 := Lib.hid (HD.out k x hx)
      obtain ⟨c0, c1, c2, c3, c4, c5, c6, c7, c8, c9⟩ := hat _ H.out.below
      clear hat hx
      have T := Lib.hid (Holds.third (Holds.newBlk H.out ((LS.out _ _ _ _).star ((LS.out _ _ _ _).star SN.out)) 41 #[.int .i64 x.k, .int .i64 x.n, .int .i64 x.m, .int .i64 x.e.a, .int .i64 x.e.b, .int .i64 x.e.c.k, .int .i64 x.e.c.s, .int .i64 x.e.c.q, .string x.e.c.nm, .int .i64 x.e.c.n]))
      have ST := Lib.hid (fun a L a' L' b t cs => (LS.out 51 b1 a L).star ((LS.out 47 bx a' L').star ((SB.out b t cs).star SN.out)))
      have DD := Lib.hid (show ∀ (P1 P2 : SP) (w' : World), Holds b1 w w' (star P1 (star P2 (star (blkP wr.heap.size 41 #[.int .i64 x.k, .int .i64 x.n, .int .i64 x.m, .int .i64 x.e.a, .int .i64 x.e.b, .int .i64 x.e.c.k, .int .i64 x.e.c.s, .int .i64 x.e.c.q, .string x.e.c.nm, .int .i64 x.e.c.n]) none_))) → Blk w' wr.heap.size 41 #[.int .i64 x.k, .int .i64 x.n, .int .i64 x.m, .int .i64 x.e.a, .int .i64 x.e.b, .int .i64 x.e.c.k, .int .i64 x.e.c.s, .int .i64 x.e.c.q, .string x.e.c.nm, .int .i64 x.e.c.n] from fun P1 P2 w' h => blk_at (Holds.third_back h))
      have dd := (DD.out _ _ _ T.out).cell 0
      rcases (show x.k = 0 ∨ x.k = 1 ∨ x.k = 2 ∨ (¬ x.k = 0 ∧ ¬ x.k = 1 ∧ ¬ x.k = 2) by omega) with hxk | hxk | hxk | hxk
      · have lb6 : (lnL L a x.e).length ≤ k + 1 := by have := lnL_len L a x.e; omega
        have a60 : 0 ≤ (lnR L a x.e).1 := (lnR_in ha0 ha1).1
        have a61 : (lnR L a x.e).1 ≤ 9223372036854775807 := (lnR_in ha0 ha1).2
        rw [hxk] at c0 dd
        simp only [hxk] at T DD
        have X8 := Lib.hid (fun q => x_learn (T.out.drewN (ST.out _ _ _ _ _ _ _) q) ((LS.out _ _ _ _).star ((SB.out _ _ _).star SN.out)) x.e (by omega) ha1 (by omega))
        have dT := DD.out _ _ _ T.out
        have dc : (wr.alloc (.cells #[.int .i64 0, .int .i64 x.n, .int .i64 x.m, .int .i64 x.e.a, .int .i64 x.e.b, .int .i64 x.e.c.k, .int .i64 x.e.c.s, .int .i64 x.e.c.q, .string x.e.c.nm, .int .i64 x.e.c.n] 41)).cell? ⟨wr.heap.size, 3, none⟩ = some (.int .i64 x.e.a) ∧ (wr.alloc (.cells #[.int .i64 0, .int .i64 x.n, .int .i64 x.m, .int .i64 x.e.a, .int .i64 x.e.b, .int .i64 x.e.c.k, .int .i64 x.e.c.s, .int .i64 x.e.c.q, .string x.e.c.nm, .int .i64 x.e.c.n] 41)).cell? ⟨wr.heap.size, 4, none⟩ = some (.int .i64 x.e.b) ∧ (wr.alloc (.cells #[.int .i64 0, .int .i64 x.n, .int .i64 x.m, .int .i64 x.e.a, .int .i64 x.e.b, .int .i64 x.e.c.k, .int .i64 x.e.c.s, .int .i64 x.e.c.q, .string x.e.c.nm, .int .i64 x.e.c.n] 41)).cell? ⟨wr.heap.size, 5, none⟩ = some (.int .i64 x.e.c.k) ∧ (wr.alloc (.cells #[.int .i64 0, .int .i64 x.n, .int .i64 x.m, .int .i64 x.e.a, .int .i64 x.e.b, .int .i64 x.e.c.k, .int .i64 x.e.c.s, .int .i64 x.e.c.q, .string x.e.c.nm, .int .i64 x.e.c.n] 41)).cell? ⟨wr.heap.size, 6, none⟩ = some (.int .i64 x.e.c.s) ∧ (wr.alloc (.cells #[.int .i64 0, .int .i64 x.n, .int .i64 x.m, .int .i64 x.e.a, .int .i64 x.e.b, .int .i64 x.e.c.k, .int .i64 x.e.c.s, .int .i64 x.e.c.q, .string x.e.c.nm, .int .i64 x.e.c.n] 41)).cell? ⟨wr.heap.size, 7, none⟩ = some (.int .i64 x.e.c.q) ∧ (wr.alloc (.cells #[.int .i64 0, .int .i64 x.n, .int .i64 x.m, .int .i64 x.e.a, .int .i64 x.e.b, .int .i64 x.e.c.k, .int .i64 x.e.c.s, .int .i64 x.e.c.q, .string x.e.c.nm, .int .i64 x.e.c.n] 41)).cell? ⟨wr.heap.size, 8, none⟩ = some (.string x.e.c.nm) ∧ (wr.alloc (.cells #[.int .i64 0, .int .i64 x.n, .int .i64 x.m, .int .i64 x.e.a, .int .i64 x.e.b, .int .i64 x.e.c.k, .int .i64 x.e.c.s, .int .i64 x.e.c.q, .string x.e.c.nm, .int .i64 x.e.c.n] 41)).cell? ⟨wr.heap.size, 9, none⟩ = some (.int .i64 x.e.c.n) := ⟨(dT).cell 3, (dT).cell 4, (dT).cell 5, (dT).cell 6, (dT).cell 7, (dT).cell 8, (dT).cell 9⟩
        clear dT
        go_wp2_with fail
        go_region_held3 (fun w' => w'.cell? ⟨wr.heap.size, 3, none⟩ = some (.int .i64 x.e.a) ∧ w'.cell? ⟨wr.heap.size, 4, none⟩ = some (.int .i64 x.e.b) ∧ w'.cell? ⟨wr.heap.size, 5, none⟩ = some (.int .i64 x.e.c.k) ∧ w'.cell? ⟨wr.heap.size, 6, none⟩ = some (.int .i64 x.e.c.s) ∧ w'.cell? ⟨wr.heap.size, 7, none⟩ = some (.int .i64 x.e.c.q) ∧ w'.cell? ⟨wr.heap.size, 8, none⟩ = some (.string x.e.c.nm) ∧ w'.cell? ⟨wr.heap.size, 9, none⟩ = some (.int .i64 x.e.c.n)) (first | exact dc | exact dc5 | exact dc6 | go_keep) ((first | (go_at_call 8; refine (X8.out _).mono ?_; rintro e w5 ⟨A5, k5, rfl, h5⟩; have T5 := Lib.hid h5; have dT5 := DD.out _ _ _ h5.drop; have dc5 : w5.cell? ⟨wr.heap.size, 3, none⟩ = some (.int .i64 x.e.a) ∧ w5.cell? ⟨wr.heap.size, 4, none⟩ = some (.int .i64 x.e.b) ∧ w5.cell? ⟨wr.heap.size, 5, none⟩ = some (.int .i64 x.e.c.k) ∧ w5.cell? ⟨wr.heap.size, 6, none⟩ = some (.int .i64 x.e.c.s) ∧ w5.cell? ⟨wr.heap.size, 7, none⟩ = some (.int .i64 x.e.c.q) ∧ w5.cell? ⟨wr.heap.size, 8, none⟩ = some (.string x.e.c.nm) ∧ w5.cell? ⟨wr.heap.size, 9, none⟩ = some (.int .i64 x.e.c.n) := ⟨(dT5).cell 3, (dT5).cell 4, (dT5).cell 5, (dT5).cell 6, (dT5).cell 7, (dT5).cell 8, (dT5).cell 9⟩; clear h5 dT5) | (go_at_call 13; refine (y_learn (Holds.third (Holds.third T5.out)) ((SR.out _ _ _ _ _).star ((LS.out _ _ _ _).star ((SB.out _ _ _).star SN.out))) x.e (by omega) ha1 (by omega)).mono ?_; rintro e w6 ⟨A6, k6, rfl, h6⟩; have T6 := Lib.hid (Holds.second (Holds.inner h6 fun F => star_third)); have dT6 := DD.out _ _ _ T6.out.drop.drop; have dc6 : w6.cell? ⟨wr.heap.size, 3, none⟩ = some (.int .i64 x.e.a) ∧ w6.cell? ⟨wr.heap.size, 4, none⟩ = some (.int .i64 x.e.b) ∧ w6.cell? ⟨wr.heap.size, 5, none⟩ = some (.int .i64 x.e.c.k) ∧ w6.cell? ⟨wr.heap.size, 6, none⟩ = some (.int .i64 x.e.c.s) ∧ w6.cell? ⟨wr.heap.size, 7, none⟩ = some (.int .i64 x.e.c.q) ∧ w6.cell? ⟨wr.heap.size, 8, none⟩ = some (.string x.e.c.nm) ∧ w6.cell? ⟨wr.heap.size, 9, none⟩ = some (.int .i64 x.e.c.n) := ⟨(dT6).cell 3, (dT6).cell 4, (dT6).cell 5, (dT6).cell 6, (dT6).cell 7, (dT6).cell 8, (dT6).cell 9⟩; clear h6 dT6)))
        clear dc dc5 dc6 dd c0 c1 c2 c3 c4 c5 c6 c7 c8 c9
        generalize lnL L a x.e = L6 at *
        generalize (lnR L a x.e).1 = a6 at *
        generalize (lnR L a x.e).2 = M6 at *
        have TS := Lib.hid (show Stable (star (rowP 30 7 (.slice A5 M6.length k5) M6.length (ents M6)) (star (rowP 30 7 (.slice A6 M6.length k6) M6.length (ents M6)) (star (lnP 51 b1 a6 L6) (star (lnP 47 bx a6 L6) (star (blkP wr.heap.size 41 #[.int .i64 0, .int .i64 x.n, .int .i64 x.m, .int .i64 x.e.a, .int .i64 x.e.b, .int .i64 x.e.c.k, .int .i64 x.e.c.s, .int .i64 x.e.c.q, .string x.e.c.nm, .int .i64 x.e.c.n]) none_))))) from ((SR.out _ _ _ _ _).star ((SR.out _ _ _ _ _).star ((LS.out _ _ _ _).star ((LS.out _ _ _ _).star ((SB.out _ _ _).star SN.out))))))
        have X1 := Lib.hid (x_known T6.out.drop.drop x.e.a)
        have cc := blk_at T6.out.drop.drop.drop.drop
        have d3 := cc.cell 3
        clear cc
        unfold knV at X1
        generalize hf : findV L6 x.e.a = f at *
        obtain ⟨y, hy⟩ : ∃ y, (entOr f).c = y := ⟨_, rfl⟩
        rw [hy] at X1
        go_wp2_with fail
        clear d3
        refine X1.out.mono ?_
        rintro e w7 ⟨rfl, hk⟩
        have T7 := Lib.hid (Holds.newBlk (T6.out.kept TS.out hk) TS.out 28 y.cs)
        clear hk
        have X2 := y_known (Holds.second T7.out.drop.drop.drop) x.e.a
        unfold knV at X2
        rw [hf, hy] at X2
        have X2' := Lib.hid X2
        have cc := blk_at T7.out.drop.drop.drop.drop.drop
        have d3 := cc.cell 3
        clear cc X2 hf hy
        go_wp2_with fail
        clear d3
        refine X2'.out.mono ?_
        rintro e w8 ⟨rfl, hk⟩
        have T8 := Lib.hid (Holds.newBlk (T7.out.kept ((SB.out _ _ _).star TS.out) hk) ((SB.out _ _ _).star TS.out) 28 y.cs)
        clear hk
        have TS8 := Lib.hid ((SB.out w8.heap.size 28 y.cs).star ((SB.out w7.heap.size 28 y.cs).star TS.out))
        have QQ := Lib.hid (fun w => neqC w y y)
        rw [eqC_same] at QQ
        have q := QQ.out
        have CC := Lib.hid (show ∀ w', Holds b1 w w' (star (blkP w8.heap.size 28 y.cs) (star (blkP w7.heap.size 28 y.cs) (star (rowP 30 7 (.slice A5 M6.length k5) M6.length (ents M6)) (star (rowP 30 7 (.slice A6 M6.length k6) M6.length (ents M6)) (star (lnP 51 b1 a6 L6) (star (lnP 47 bx a6 L6) (star (blkP wr.heap.size 41 #[.int .i64 0, .int .i64 x.n, .int .i64 x.m, .int .i64 x.e.a, .int .i64 x.e.b, .int .i64 x.e.c.k, .int .i64 x.e.c.s, .int .i64 x.e.c.q, .string x.e.c.nm, .int .i64 x.e.c.n]) none_))))))) → (w'.cell? ⟨bx, 0, none⟩ = some (.int .i64 a6) ∧ (w'.cell? ⟨w7.heap.size, 0, none⟩ = some (.int .i64 y.k) ∧ w'.cell? ⟨w7.heap.size, 1, none⟩ = some (.int .i64 y.s) ∧ w'.cell? ⟨w7.heap.size, 2, none⟩ = some (.int .i64 y.q) ∧ w'.cell? ⟨w7.heap.size, 3, none⟩ = some (.string y.nm) ∧ w'.cell? ⟨w7.heap.size, 4, none⟩ = some (.int .i64 y.n)) ∧ w'.cell? ⟨w8.heap.size, 0, none⟩ = some (.int .i64 y.k) ∧ w'.cell? ⟨w8.heap.size, 1, none⟩ = some (.int .i64 y.s) ∧ w'.cell? ⟨w8.heap.size, 2, none⟩ = some (.int .i64 y.q) ∧ w'.cell? ⟨w8.heap.size, 3, none⟩ = some (.string y.nm) ∧ w'.cell? ⟨w8.heap.size, 4, none⟩ = some (.int .i64 y.n)) from
          fun w' h => ⟨ln_at0 (Holds.second h.drop.drop.drop.drop), ⟨(blk_at h.drop).cell 0, (blk_at h.drop).cell 1, (blk_at h.drop).cell 2, (blk_at h.drop).cell 3, (blk_at h.drop).cell 4⟩, (blk_at h).cell 0, (blk_at h).cell 1, (blk_at h).cell 2, (blk_at h).cell 3, (blk_at h).cell 4⟩)
        have cc := CC.out _ T8.out
        have XE := Lib.hid (fun q => entries_ (T8.out.drewN TS8.out q).drop.drop)
        have XA := Lib.hid (fun q => x_applied (T8.out.drewN TS8.out q).drop.drop.drop.drop)
        go_wp2_with fail
        go_region_held3 (fun w' => w'.cell? ⟨bx, 0, none⟩ = some (.int .i64 a6) ∧ (w'.cell? ⟨w7.heap.size, 0, none⟩ = some (.int .i64 y.k) ∧ w'.cell? ⟨w7.heap.size, 1, none⟩ = some (.int .i64 y.s) ∧ w'.cell? ⟨w7.heap.size, 2, none⟩ = some (.int .i64 y.q) ∧ w'.cell? ⟨w7.heap.size, 3, none⟩ = some (.string y.nm) ∧ w'.cell? ⟨w7.heap.size, 4, none⟩ = some (.int .i64 y.n)) ∧ w'.cell? ⟨w8.heap.size, 0, none⟩ = some (.int .i64 y.k) ∧ w'.cell? ⟨w8.heap.size, 1, none⟩ = some (.int .i64 y.s) ∧ w'.cell? ⟨w8.heap.size, 2, none⟩ = some (.int .i64 y.q) ∧ w'.cell? ⟨w8.heap.size, 3, none⟩ = some (.string y.nm) ∧ w'.cell? ⟨w8.heap.size, 4, none⟩ = some (.int .i64 y.n)) (first | exact cc | go_keep) ((first | (go_at_call 21; refine (XE.out _).mono ?_; rintro e w9 ⟨rfl, ⟨n9, rfl⟩⟩) | (go_at_call 9; refine (XA.out _).mono ?_; rintro e w9 ⟨rfl, rfl⟩)))
        go_wp2_with fail
        go_roundw
        case rel => exact ⟨k + 1, a6, L6, by omega, by go_num, lb6, a60, a61, by first | exact (Holds.third_back (T8.out.drewN TS8.out _).drop.drop.drop.drop).drop | exact (Holds.third_back ((T8.out.drewN TS8.out _).drewN TS8.out _).drop.drop.drop.drop).drop⟩
        case measure => simp [intOf]; omega
      · have lb6 : (jmL L a x.n).length ≤ k + 1 := by have := jmL_len L a x.n; omega
        have a60 : 0 ≤ (jmR L a x.n).1 := (jmR_in ha0 ha1 D64.out.n.2).1
        have a61 : (jmR L a x.n).1 ≤ 9223372036854775807 := (jmR_in ha0 ha1 D64.out.n.2).2
        rw [hxk] at c0 dd
        simp only [hxk] at T DD
        have X8 := Lib.hid (fun q => x_jump (T.out.drewN (ST.out _ _ _ _ _ _ _) q) ((LS.out _ _ _ _).star ((SB.out _ _ _).star SN.out)) x.n D64.out.n.1 D64.out.n.2 (by omega))
        have dT := DD.out _ _ _ T.out
        have dc : (wr.alloc (.cells #[.int .i64 1, .int .i64 x.n, .int .i64 x.m, .int .i64 x.e.a, .int .i64 x.e.b, .int .i64 x.e.c.k, .int .i64 x.e.c.s, .int .i64 x.e.c.q, .string x.e.c.nm, .int .i64 x.e.c.n] 41)).cell? ⟨wr.heap.size, 1, none⟩ = some (.int .i64 x.n) := (dT).cell 1
        clear dT
        go_wp2_with fail
        go_region_held3 (fun w' => w'.cell? ⟨wr.heap.size, 1, none⟩ = some (.int .i64 x.n)) (first | exact dc | exact dc5 | exact dc6 | go_keep) ((first | (go_at_call 14; refine (X8.out _).mono ?_; rintro e w5 ⟨A5, k5, rfl, h5⟩; have T5 := Lib.hid h5; have dT5 := DD.out _ _ _ h5.drop; have dc5 : w5.cell? ⟨wr.heap.size, 1, none⟩ = some (.int .i64 x.n) := (dT5).cell 1; clear h5 dT5) | (go_at_call 15; refine (y_jump (Holds.third (Holds.third T5.out)) ((SR.out _ _ _ _ _).star ((LS.out _ _ _ _).star ((SB.out _ _ _).star SN.out))) x.n D64.out.n.1 D64.out.n.2 (by omega)).mono ?_; rintro e w6 ⟨A6, k6, rfl, h6⟩; have T6 := Lib.hid (Holds.second (Holds.inner h6 fun F => star_third)); have dT6 := DD.out _ _ _ T6.out.drop.drop; have dc6 : w6.cell? ⟨wr.heap.size, 1, none⟩ = some (.int .i64 x.n) := (dT6).cell 1; clear h6 dT6)))
        clear dc dc5 dc6 dd c0 c1 c2 c3 c4 c5 c6 c7 c8 c9
        generalize jmL L a x.n = L6 at *
        generalize (jmR L a x.n).1 = a6 at *
        generalize (jmR L a x.n).2 = M6 at *
        have TS := Lib.hid (show Stable (star (rowP 30 7 (.slice A5 M6.length k5) M6.length (ents M6)) (star (rowP 30 7 (.slice A6 M6.length k6) M6.length (ents M6)) (star (lnP 51 b1 a6 L6) (star (lnP 47 bx a6 L6) (star (blkP wr.heap.size 41 #[.int .i64 1, .int .i64 x.n, .int .i64 x.m, .int .i64 x.e.a, .int .i64 x.e.b, .int .i64 x.e.c.k, .int .i64 x.e.c.s, .int .i64 x.e.c.q, .string x.e.c.nm, .int .i64 x.e.c.n]) none_))))) from ((SR.out _ _ _ _ _).star ((SR.out _ _ _ _ _).star ((LS.out _ _ _ _).star ((LS.out _ _ _ _).star ((SB.out _ _ _).star SN.out))))))
        have X1 := Lib.hid (x_known T6.out.drop.drop x.e.a)
        have cc := blk_at T6.out.drop.drop.drop.drop
        have d3 := cc.cell 3
        clear cc
        unfold knV at X1
        generalize hf : findV L6 x.e.a = f at *
        obtain ⟨y, hy⟩ : ∃ y, (entOr f).c = y := ⟨_, rfl⟩
        rw [hy] at X1
        go_wp2_with fail
        clear d3
        refine X1.out.mono ?_
        rintro e w7 ⟨rfl, hk⟩
        have T7 := Lib.hid (Holds.newBlk (T6.out.kept TS.out hk) TS.out 28 y.cs)
        clear hk
        have X2 := y_known (Holds.second T7.out.drop.drop.drop) x.e.a
        unfold knV at X2
        rw [hf, hy] at X2
        have X2' := Lib.hid X2
        have cc := blk_at T7.out.drop.drop.drop.drop.drop
        have d3 := cc.cell 3
        clear cc X2 hf hy
        go_wp2_with fail
        clear d3
        refine X2'.out.mono ?_
        rintro e w8 ⟨rfl, hk⟩
        have T8 := Lib.hid (Holds.newBlk (T7.out.kept ((SB.out _ _ _).star TS.out) hk) ((SB.out _ _ _).star TS.out) 28 y.cs)
        clear hk
        have TS8 := Lib.hid ((SB.out w8.heap.size 28 y.cs).star ((SB.out w7.heap.size 28 y.cs).star TS.out))
        have QQ := Lib.hid (fun w => neqC w y y)
        rw [eqC_same] at QQ
        have q := QQ.out
        have CC := Lib.hid (show ∀ w', Holds b1 w w' (star (blkP w8.heap.size 28 y.cs) (star (blkP w7.heap.size 28 y.cs) (star (rowP 30 7 (.slice A5 M6.length k5) M6.length (ents M6)) (star (rowP 30 7 (.slice A6 M6.length k6) M6.length (ents M6)) (star (lnP 51 b1 a6 L6) (star (lnP 47 bx a6 L6) (star (blkP wr.heap.size 41 #[.int .i64 1, .int .i64 x.n, .int .i64 x.m, .int .i64 x.e.a, .int .i64 x.e.b, .int .i64 x.e.c.k, .int .i64 x.e.c.s, .int .i64 x.e.c.q, .string x.e.c.nm, .int .i64 x.e.c.n]) none_))))))) → (w'.cell? ⟨bx, 0, none⟩ = some (.int .i64 a6) ∧ (w'.cell? ⟨w7.heap.size, 0, none⟩ = some (.int .i64 y.k) ∧ w'.cell? ⟨w7.heap.size, 1, none⟩ = some (.int .i64 y.s) ∧ w'.cell? ⟨w7.heap.size, 2, none⟩ = some (.int .i64 y.q) ∧ w'.cell? ⟨w7.heap.size, 3, none⟩ = some (.string y.nm) ∧ w'.cell? ⟨w7.heap.size, 4, none⟩ = some (.int .i64 y.n)) ∧ w'.cell? ⟨w8.heap.size, 0, none⟩ = some (.int .i64 y.k) ∧ w'.cell? ⟨w8.heap.size, 1, none⟩ = some (.int .i64 y.s) ∧ w'.cell? ⟨w8.heap.size, 2, none⟩ = some (.int .i64 y.q) ∧ w'.cell? ⟨w8.heap.size, 3, none⟩ = some (.string y.nm) ∧ w'.cell? ⟨w8.heap.size, 4, none⟩ = some (.int .i64 y.n)) from
          fun w' h => ⟨ln_at0 (Holds.second h.drop.drop.drop.drop), ⟨(blk_at h.drop).cell 0, (blk_at h.drop).cell 1, (blk_at h.drop).cell 2, (blk_at h.drop).cell 3, (blk_at h.drop).cell 4⟩, (blk_at h).cell 0, (blk_at h).cell 1, (blk_at h).cell 2, (blk_at h).cell 3, (blk_at h).cell 4⟩)
        have cc := CC.out _ T8.out
        have XE := Lib.hid (fun q => entries_ (T8.out.drewN TS8.out q).drop.drop)
        have XA := Lib.hid (fun q => x_applied (T8.out.drewN TS8.out q).drop.drop.drop.drop)
        go_wp2_with fail
        go_region_held3 (fun w' => w'.cell? ⟨bx, 0, none⟩ = some (.int .i64 a6) ∧ (w'.cell? ⟨w7.heap.size, 0, none⟩ = some (.int .i64 y.k) ∧ w'.cell? ⟨w7.heap.size, 1, none⟩ = some (.int .i64 y.s) ∧ w'.cell? ⟨w7.heap.size, 2, none⟩ = some (.int .i64 y.q) ∧ w'.cell? ⟨w7.heap.size, 3, none⟩ = some (.string y.nm) ∧ w'.cell? ⟨w7.heap.size, 4, none⟩ = some (.int .i64 y.n)) ∧ w'.cell? ⟨w8.heap.size, 0, none⟩ = some (.int .i64 y.k) ∧ w'.cell? ⟨w8.heap.size, 1, none⟩ = some (.int .i64 y.s) ∧ w'.cell? ⟨w8.heap.size, 2, none⟩ = some (.int .i64 y.q) ∧ w'.cell? ⟨w8.heap.size, 3, none⟩ = some (.string y.nm) ∧ w'.cell? ⟨w8.heap.size, 4, none⟩ = some (.int .i64 y.n)) (first | exact cc | go_keep) ((first | (go_at_call 21; refine (XE.out _).mono ?_; rintro e w9 ⟨rfl, ⟨n9, rfl⟩⟩) | (go_at_call 9; refine (XA.out _).mono ?_; rintro e w9 ⟨rfl, rfl⟩)))
        go_wp2_with fail
        go_roundw
        case rel => exact ⟨k + 1, a6, L6, by omega, by go_num, lb6, a60, a61, by first | exact (Holds.third_back (T8.out.drewN TS8.out _).drop.drop.drop.drop).drop | exact (Holds.third_back ((T8.out.drewN TS8.out _).drewN TS8.out _).drop.drop.drop.drop).drop⟩
        case measure => simp [intOf]; omega
      · have lb6 : L.length ≤ k + 1 := by omega
        have a60 := ha0
        have a61 := ha1
        rw [hxk] at c0 dd
        simp only [hxk] at T DD
        have X8 := Lib.hid (fun q => x_since (T.out.drewN (ST.out _ _ _ _ _ _ _) q) ((LS.out _ _ _ _).star ((SB.out _ _ _).star SN.out)) x.n x.m D64.out.n.1 ha1 (by omega))
        have dT := DD.out _ _ _ T.out
        have dc : (wr.alloc (.cells #[.int .i64 2, .int .i64 x.n, .int .i64 x.m, .int .i64 x.e.a, .int .i64 x.e.b, .int .i64 x.e.c.k, .int .i64 x.e.c.s, .int .i64 x.e.c.q, .string x.e.c.nm, .int .i64 x.e.c.n] 41)).cell? ⟨wr.heap.size, 1, none⟩ = some (.int .i64 x.n) ∧ (wr.alloc (.cells #[.int .i64 2, .int .i64 x.n, .int .i64 x.m, .int .i64 x.e.a, .int .i64 x.e.b, .int .i64 x.e.c.k, .int .i64 x.e.c.s, .int .i64 x.e.c.q, .string x.e.c.nm, .int .i64 x.e.c.n] 41)).cell? ⟨wr.heap.size, 2, none⟩ = some (.int .i64 x.m) := ⟨(dT).cell 1, (dT).cell 2⟩
        clear dT
        go_wp2_with fail
        go_region_held3 (fun w' => w'.cell? ⟨wr.heap.size, 1, none⟩ = some (.int .i64 x.n) ∧ w'.cell? ⟨wr.heap.size, 2, none⟩ = some (.int .i64 x.m)) (first | exact dc | exact dc5 | exact dc6 | go_keep) ((first | (go_at_call 16; refine (X8.out _).mono ?_; rintro e w5 ⟨A5, k5, rfl, h5⟩; have T5 := Lib.hid h5; have dT5 := DD.out _ _ _ h5.drop; have dc5 : w5.cell? ⟨wr.heap.size, 1, none⟩ = some (.int .i64 x.n) ∧ w5.cell? ⟨wr.heap.size, 2, none⟩ = some (.int .i64 x.m) := ⟨(dT5).cell 1, (dT5).cell 2⟩; clear h5 dT5) | (go_at_call 17; refine (y_since (Holds.third (Holds.third T5.out)) ((SR.out _ _ _ _ _).star ((LS.out _ _ _ _).star ((SB.out _ _ _).star SN.out))) x.n x.m D64.out.n.1 ha1 (by omega)).mono ?_; rintro e w6 ⟨A6, k6, rfl, h6⟩; have T6 := Lib.hid (Holds.second (Holds.inner h6 fun F => star_third)); have dT6 := DD.out _ _ _ T6.out.drop.drop; have dc6 : w6.cell? ⟨wr.heap.size, 1, none⟩ = some (.int .i64 x.n) ∧ w6.cell? ⟨wr.heap.size, 2, none⟩ = some (.int .i64 x.m) := ⟨(dT6).cell 1, (dT6).cell 2⟩; clear h6 dT6)))
        clear dc dc5 dc6 dd c0 c1 c2 c3 c4 c5 c6 c7 c8 c9
        generalize sinceV L a x.n x.m = M6 at *
        have TS := Lib.hid (show Stable (star (rowP 30 7 (.slice A5 M6.length k5) M6.length (ents M6)) (star (rowP 30 7 (.slice A6 M6.length k6) M6.length (ents M6)) (star (lnP 51 b1 a L) (star (lnP 47 bx a L) (star (blkP wr.heap.size 41 #[.int .i64 2, .int .i64 x.n, .int .i64 x.m, .int .i64 x.e.a, .int .i64 x.e.b, .int .i64 x.e.c.k, .int .i64 x.e.c.s, .int .i64 x.e.c.q, .string x.e.c.nm, .int .i64 x.e.c.n]) none_))))) from ((SR.out _ _ _ _ _).star ((SR.out _ _ _ _ _).star ((LS.out _ _ _ _).star ((LS.out _ _ _ _).star ((SB.out _ _ _).star SN.out))))))
        have X1 := Lib.hid (x_known T6.out.drop.drop x.e.a)
        have cc := blk_at T6.out.drop.drop.drop.drop
        have d3 := cc.cell 3
        clear cc
        unfold knV at X1
        generalize hf : findV L x.e.a = f at *
        obtain ⟨y, hy⟩ : ∃ y, (entOr f).c = y := ⟨_, rfl⟩
        rw [hy] at X1
        go_wp2_with fail
        clear d3
        refine X1.out.mono ?_
        rintro e w7 ⟨rfl, hk⟩
        have T7 := Lib.hid (Holds.newBlk (T6.out.kept TS.out hk) TS.out 28 y.cs)
        clear hk
        have X2 := y_known (Holds.second T7.out.drop.drop.drop) x.e.a
        unfold knV at X2
        rw [hf, hy] at X2
        have X2' := Lib.hid X2
        have cc := blk_at T7.out.drop.drop.drop.drop.drop
        have d3 := cc.cell 3
        clear cc X2 hf hy
        go_wp2_with fail
        clear d3
        refine X2'.out.mono ?_
        rintro e w8 ⟨rfl, hk⟩
        have T8 := Lib.hid (Holds.newBlk (T7.out.kept ((SB.out _ _ _).star TS.out) hk) ((SB.out _ _ _).star TS.out) 28 y.cs)
        clear hk
        have TS8 := Lib.hid ((SB.out w8.heap.size 28 y.cs).star ((SB.out w7.heap.size 28 y.cs).star TS.out))
        have QQ := Lib.hid (fun w => neqC w y y)
        rw [eqC_same] at QQ
        have q := QQ.out
        have CC := Lib.hid (show ∀ w', Holds b1 w w' (star (blkP w8.heap.size 28 y.cs) (star (blkP w7.heap.size 28 y.cs) (star (rowP 30 7 (.slice A5 M6.length k5) M6.length (ents M6)) (star (rowP 30 7 (.slice A6 M6.length k6) M6.length (ents M6)) (star (lnP 51 b1 a L) (star (lnP 47 bx a L) (star (blkP wr.heap.size 41 #[.int .i64 2, .int .i64 x.n, .int .i64 x.m, .int .i64 x.e.a, .int .i64 x.e.b, .int .i64 x.e.c.k, .int .i64 x.e.c.s, .int .i64 x.e.c.q, .string x.e.c.nm, .int .i64 x.e.c.n]) none_))))))) → (w'.cell? ⟨bx, 0, none⟩ = some (.int .i64 a) ∧ (w'.cell? ⟨w7.heap.size, 0, none⟩ = some (.int .i64 y.k) ∧ w'.cell? ⟨w7.heap.size, 1, none⟩ = some (.int .i64 y.s) ∧ w'.cell? ⟨w7.heap.size, 2, none⟩ = some (.int .i64 y.q) ∧ w'.cell? ⟨w7.heap.size, 3, none⟩ = some (.string y.nm) ∧ w'.cell? ⟨w7.heap.size, 4, none⟩ = some (.int .i64 y.n)) ∧ w'.cell? ⟨w8.heap.size, 0, none⟩ = some (.int .i64 y.k) ∧ w'.cell? ⟨w8.heap.size, 1, none⟩ = some (.int .i64 y.s) ∧ w'.cell? ⟨w8.heap.size, 2, none⟩ = some (.int .i64 y.q) ∧ w'.cell? ⟨w8.heap.size, 3, none⟩ = some (.string y.nm) ∧ w'.cell? ⟨w8.heap.size, 4, none⟩ = some (.int .i64 y.n)) from
          fun w' h => ⟨ln_at0 (Holds.second h.drop.drop.drop.drop), ⟨(blk_at h.drop).cell 0, (blk_at h.drop).cell 1, (blk_at h.drop).cell 2, (blk_at h.drop).cell 3, (blk_at h.drop).cell 4⟩, (blk_at h).cell 0, (blk_at h).cell 1, (blk_at h).cell 2, (blk_at h).cell 3, (blk_at h).cell 4⟩)
        have cc := CC.out _ T8.out
        have XE := Lib.hid (fun q => entries_ (T8.out.drewN TS8.out q).drop.drop)
        have XA := Lib.hid (fun q => x_applied (T8.out.drewN TS8.out q).drop.drop.drop.drop)
        go_wp2_with fail
        go_region_held3 (fun w' => w'.cell? ⟨bx, 0, none⟩ = some (.int .i64 a) ∧ (w'.cell? ⟨w7.heap.size, 0, none⟩ = some (.int .i64 y.k) ∧ w'.cell? ⟨w7.heap.size, 1, none⟩ = some (.int .i64 y.s) ∧ w'.cell? ⟨w7.heap.size, 2, none⟩ = some (.int .i64 y.q) ∧ w'.cell? ⟨w7.heap.size, 3, none⟩ = some (.string y.nm) ∧ w'.cell? ⟨w7.heap.size, 4, none⟩ = some (.int .i64 y.n)) ∧ w'.cell? ⟨w8.heap.size, 0, none⟩ = some (.int .i64 y.k) ∧ w'.cell? ⟨w8.heap.size, 1, none⟩ = some (.int .i64 y.s) ∧ w'.cell? ⟨w8.heap.size, 2, none⟩ = some (.int .i64 y.q) ∧ w'.cell? ⟨w8.heap.size, 3, none⟩ = some (.string y.nm) ∧ w'.cell? ⟨w8.heap.size, 4, none⟩ = some (.int .i64 y.n)) (first | exact cc | go_keep) ((first | (go_at_call 21; refine (XE.out _).mono ?_; rintro e w9 ⟨rfl, ⟨n9, rfl⟩⟩) | (go_at_call 9; refine (XA.out _).mono ?_; rintro e w9 ⟨rfl, rfl⟩)))
        go_wp2_with fail
        go_roundw
        case rel => exact ⟨k + 1, a, L, by omega, by go_num, lb6, a60, a61, by first | exact (Holds.third_back (T8.out.drewN TS8.out _).drop.drop.drop.drop).drop | exact (Holds.third_back ((T8.out.drewN TS8.out _).drewN TS8.out _).drop.drop.drop.drop).drop⟩
        case measure => simp [intOf]; omega
      · have lb6 : (keepO L (min x.n a)).length ≤ k + 1 := by have := keepO_le L (min x.n a); omega
        have a60 := ha0
        have a61 := ha1
        have k0 : (x.k == 0) = false := by rw [beq_eq_false_iff_ne]; exact hxk.1
        have k1 : (x.k == 1) = false := by rw [beq_eq_false_iff_ne]; exact hxk.2.1
        have k2 : (x.k == 2) = false := by rw [beq_eq_false_iff_ne]; exact hxk.2.2
        clear hxk
        have d1 := (DD.out _ _ _ T.out).cell 1
        have X8 := Lib.hid (x_forget T.out ((LS.out _ _ _ _).star ((SB.out _ _ _).star SN.out)) x.n)
        go_wp2_with fail
        refine X8.out.mono ?_
        rintro e w5 ⟨rfl, h5⟩
        have T5 := Lib.hid h5
        clear h5 d1 dd c0 c1 c2 c3 c4 c5 c6 c7 c8 c9
        have d1 := (DD.out _ _ _ T5.out).cell 1
        have X9 := Lib.hid (y_forget (Holds.second T5.out) ((LS.out _ _ _ _).star ((SB.out _ _ _).star SN.out)) x.n (by omega))
        go_wp2_with fail
        refine X9.out.mono ?_
        rintro e w6 ⟨rfl, h6⟩
        have T6 := Lib.hid (Holds.second h6)
        clear h6 d1
        generalize keepO L (min x.n a) = L6 at *
        have TS := Lib.hid (show Stable (star (lnP 51 b1 a L6) (star (lnP 47 bx a L6) (star (blkP wr.heap.size 41 #[.int .i64 x.k, .int .i64 x.n, .int .i64 x.m, .int .i64 x.e.a, .int .i64 x.e.b, .int .i64 x.e.c.k, .int .i64 x.e.c.s, .int .i64 x.e.c.q, .string x.e.c.nm, .int .i64 x.e.c.n]) none_))) from ((LS.out _ _ _ _).star ((LS.out _ _ _ _).star ((SB.out _ _ _).star SN.out))))
        have X1 := Lib.hid (x_known T6.out x.e.a)
        have cc := blk_at T6.out.drop.drop
        have d3 := cc.cell 3
        clear cc
        unfold knV at X1
        generalize hf : findV L6 x.e.a = f at *
        obtain ⟨y, hy⟩ : ∃ y, (entOr f).c = y := ⟨_, rfl⟩
        rw [hy] at X1
        go_wp2_with fail
        clear d3
        refine X1.out.mono ?_
        rintro e w7 ⟨rfl, hk⟩
        have T7 := Lib.hid (Holds.newBlk (T6.out.kept TS.out hk) TS.out 28 y.cs)
        clear hk
        have X2 := y_known (Holds.second T7.out.drop) x.e.a
        unfold knV at X2
        rw [hf, hy] at X2
        have X2' := Lib.hid X2
        have cc := blk_at T7.out.drop.drop.drop
        have d3 := cc.cell 3
        clear cc X2 hf hy
        go_wp2_with fail
        clear d3
        refine X2'.out.mono ?_
        rintro e w8 ⟨rfl, hk⟩
        have T8 := Lib.hid (Holds.newBlk (T7.out.kept ((SB.out _ _ _).star TS.out) hk) ((SB.out _ _ _).star TS.out) 28 y.cs)
        clear hk
        have TS8 := Lib.hid ((SB.out w8.heap.size 28 y.cs).star ((SB.out w7.heap.size 28 y.cs).star TS.out))
        have QQ := Lib.hid (fun w => neqC w y y)
        rw [eqC_same] at QQ
        have q := QQ.out
        have CC := Lib.hid (show ∀ w', Holds b1 w w' (star (blkP w8.heap.size 28 y.cs) (star (blkP w7.heap.size 28 y.cs) (star (lnP 51 b1 a L6) (star (lnP 47 bx a L6) (star (blkP wr.heap.size 41 #[.int .i64 x.k, .int .i64 x.n, .int .i64 x.m, .int .i64 x.e.a, .int .i64 x.e.b, .int .i64 x.e.c.k, .int .i64 x.e.c.s, .int .i64 x.e.c.q, .string x.e.c.nm, .int .i64 x.e.c.n]) none_))))) → (w'.cell? ⟨bx, 0, none⟩ = some (.int .i64 a) ∧ (w'.cell? ⟨w7.heap.size, 0, none⟩ = some (.int .i64 y.k) ∧ w'.cell? ⟨w7.heap.size, 1, none⟩ = some (.int .i64 y.s) ∧ w'.cell? ⟨w7.heap.size, 2, none⟩ = some (.int .i64 y.q) ∧ w'.cell? ⟨w7.heap.size, 3, none⟩ = some (.string y.nm) ∧ w'.cell? ⟨w7.heap.size, 4, none⟩ = some (.int .i64 y.n)) ∧ w'.cell? ⟨w8.heap.size, 0, none⟩ = some (.int .i64 y.k) ∧ w'.cell? ⟨w8.heap.size, 1, none⟩ = some (.int .i64 y.s) ∧ w'.cell? ⟨w8.heap.size, 2, none⟩ = some (.int .i64 y.q) ∧ w'.cell? ⟨w8.heap.size, 3, none⟩ = some (.string y.nm) ∧ w'.cell? ⟨w8.heap.size, 4, none⟩ = some (.int .i64 y.n)) from
          fun w' h => ⟨ln_at0 (Holds.second h.drop.drop), ⟨(blk_at h.drop).cell 0, (blk_at h.drop).cell 1, (blk_at h.drop).cell 2, (blk_at h.drop).cell 3, (blk_at h.drop).cell 4⟩, (blk_at h).cell 0, (blk_at h).cell 1, (blk_at h).cell 2, (blk_at h).cell 3, (blk_at h).cell 4⟩)
        have cc := CC.out _ T8.out
        have XE := Lib.hid entries_nil
        have XA := Lib.hid (fun q => x_applied (T8.out.drewN TS8.out q).drop.drop)
        go_wp2_with fail
        go_region_held3 (fun w' => w'.cell? ⟨bx, 0, none⟩ = some (.int .i64 a) ∧ (w'.cell? ⟨w7.heap.size, 0, none⟩ = some (.int .i64 y.k) ∧ w'.cell? ⟨w7.heap.size, 1, none⟩ = some (.int .i64 y.s) ∧ w'.cell? ⟨w7.heap.size, 2, none⟩ = some (.int .i64 y.q) ∧ w'.cell? ⟨w7.heap.size, 3, none⟩ = some (.string y.nm) ∧ w'.cell? ⟨w7.heap.size, 4, none⟩ = some (.int .i64 y.n)) ∧ w'.cell? ⟨w8.heap.size, 0, none⟩ = some (.int .i64 y.k) ∧ w'.cell? ⟨w8.heap.size, 1, none⟩ = some (.int .i64 y.s) ∧ w'.cell? ⟨w8.heap.size, 2, none⟩ = some (.int .i64 y.q) ∧ w'.cell? ⟨w8.heap.size, 3, none⟩ = some (.string y.nm) ∧ w'.cell? ⟨w8.heap.size, 4, none⟩ = some (.int .i64 y.n)) (first | exact cc | go_keep) ((first | (go_at_call 21; refine (XE.out _).mono ?_; rintro e w9 ⟨rfl, ⟨n9, rfl⟩⟩) | (go_at_call 9; refine (XA.out _).mono ?_; rintro e w9 ⟨rfl, rfl⟩)))
        go_wp2_with fail
        go_roundw
        case rel => exact ⟨k + 1, a, L6, by omega, by go_num, lb6, a60, a61, by first | exact (Holds.third_back (T8.out.drewN TS8.out _).drop.drop).drop | exact (Holds.third_back ((T8.out.drewN TS8.out _).drewN TS8.out _).drop.drop).drop⟩
        case measure => simp [intOf]; omega
    · by_cases h1 : k < len
      · have g1 : decide (k < len) = true := decide_eq_true h1
        have g2 : decide (k < 200) = false := decide_eq_false (by omega)
        have g3 : decide ((k : Int) < 200) = false := decide_eq_false (by omega)
        go_wp2_with fail
        refine (awake_calls _).mono ?_
        rintro e w2 ⟨rfl, hk⟩
        have K := Lib.hid hk
        clear hk
        go_wp2_with fail
        go_ret
        exact ⟨rfl, (hb _ H.out.below).then K.out⟩
      · have g1 : decide (k < len) = false := decide_eq_false h1
        go_wp2_with fail
        refine (awake_calls _).mono ?_
        rintro e w2 ⟨rfl, hk⟩
        have K := Lib.hid hk
        clear hk
        go_wp2_with fail
        go_ret
        exact ⟨rfl, (hb _ H.out.below).then K.out⟩
open Go.ChangeShapes Go.WideShapes Go.ChangeAt in
theorem plays_law : R.Law 5 Try.f5 R.any := by
  intro H enc W base args ds p hval hA hsz _ hlt
  rw [Try.params5] at hA hval hsz
  obtain ⟨v0, vs0, d0, ds0, p0, q0, hargs, rfl, rfl, h0, r0⟩ := trodAll_cons hA
  obtain ⟨v1, vs1, d1, ds1, p1, q1, rfl, rfl, rfl, h1, r1⟩ := trodAll_cons r0
  obtain ⟨rfl, rfl, rfl⟩ := trodAll_nil r1
  obtain rfl : args = #[v0, v1] := by cases args; simp_all
  obtain ⟨n, rfl, hn0, hn1⟩ : ∃ n : Int, v0 = .int .i64 n ∧ I64 n := by
    obtain ⟨n, rfl⟩ := okWide_int Try.underlying3 (hval 0 3 v0 rfl rfl)
    obtain ⟨fuel, hf⟩ := h0
    obtain ⟨m, e, h⟩ := R.cell_int Try.underlying3 hf
    injection e with _ e
    subst e
    exact ⟨_, rfl, h⟩
  obtain ⟨A, len, cap, rfl, hc1, hc2, _, hel⟩ := R.open_arg Try.underlying37 cells41 (hval 1 37 v1 rfl rfl) h1 (fun x hx => hlt x (List.mem_append_right _ (List.mem_append_left _ hx))) (R.light_of hsz (j := 1) rfl rfl) (by omega)
  obtain ⟨l, hl, hp⟩ := R.exists_list (p := fun i (x : Deed) => (∃ ad, A = some ad ∧ ad.block < W.heap.size ∧ ∀ j u, x.cells[j]? = some u → W.cell? (ad.add (i * 10 + j)) = some u) ∧ Deed64 x) len (fun i hi => by
    obtain ⟨ad, cs, n, y, rfl, hB, hcl, hat, ht, hlt, hw⟩ := hel i hi
    obtain ⟨x, rfl, hx⟩ := deed_cells ht hlt hw
    exact ⟨x, ⟨ad, rfl, hB, fun j u hu => (hat j (by have := (List.getElem?_eq_some_iff.1 hu).1; simpa [Deed.cells] using this)).trans hu⟩, hx⟩)
  exact (plays_calls W n hn1 A len cap l ⟨hl, fun i x hx => (hp i x hx).1⟩ (fun i x hx => (hp i x hx).2) hc1 hc2).mono fun e w' h => ⟨h.1, h.2.below (Nat.le_refl _) (fun _ h => h.elim)⟩
end Go.Proofs.Ytcbjmmjjohigmaa.A
