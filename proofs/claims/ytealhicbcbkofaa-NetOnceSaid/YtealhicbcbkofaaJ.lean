/-
  NetPlays.
-/
import Derived.Test.YtealhicbcbkofaaI
import Derived.Deep.RegionHeld3
namespace Go.Proofs.Ytealhicbcbkofaa.A
open Go.RowKit Go.Proofs.Ytealhicbcbkofaa.U
set_option linter.unusedVariables false
set_option linter.unusedSimpArgs false

structure Deed where
  kind : Int
  n : Int
  s : ByteArray
def Deed.cells (d : Deed) : List Value := [.int .i64 d.kind, .int .i64 d.n, .string d.s]
theorem deed_at {w : World} {B : Nat} {A : Option Addr} {len : Nat} {l : List Deed} (h : R.Args w B A len 3 Deed.cells l) {k : Nat} (hk : k < len) :
    ∃ (ad : Addr) (d : Deed), A = some ad ∧ ad.block < B ∧ w.cell? (ad.add (k * 3)) = some (.int .i64 d.kind) ∧ w.cell? ⟨(ad.add (k * 3)).block, (ad.add (k * 3)).off + 1, none⟩ = some (.int .i64 d.n) ∧ w.cell? ⟨(ad.add (k * 3)).block, (ad.add (k * 3)).off + 2, none⟩ = some (.string d.s) := by
  have hl := h.1
  obtain ⟨ad, e, hB, hc⟩ := h.2 k (l[k]'(by omega)) (List.getElem?_eq_getElem (by omega))
  exact ⟨ad, _, e, hB, hc 0 _ rfl, by rw [← addLater ad (k * 3) 1 (by omega)]; exact hc 1 _ rfl, by rw [← addLater ad (k * 3) 2 (by omega)]; exact hc 2 _ rfl⟩

theorem netP_iff (t b : Nat) (L : List ByteArray) : ∀ w F F', netP t b L w F → (∀ k, F' k ↔ F k) → netP t b L w F' := fun _ _ _ ⟨v, h, hF⟩ e => ⟨v, h, fun k => (e k).trans (hF k)⟩
abbrev cs3 (kd n : Int) (s : ByteArray) : Array Value := #[.int .i64 kd, .int .i64 n, .string s]
theorem blk3 {B : Nat} {w0 w : World} {bd : Nat} {cs : Array Value} {Q : SP} (h : Holds B w0 w (star (blkP bd 30 cs) Q)) : Blk w bd 30 cs := by
  obtain ⟨F, hb, _⟩ := h.left
  exact hb

theorem texts_same (w : World) (A A' : Option Addr) (c c' : Nat) (L : List ByteArray) (h : Src w A 1 L.length (strs L)) (h' : Src w A' 1 L.length (strs L)) (hb : L.length ≤ 4096) : Calls Try.prog 17 #[.slice A L.length c, .slice A' L.length c'] w (Pure w (.bool true)) := by
  have := texts_calls w A A' c c' L L L.length L.length rfl rfl h h' hb hb
  rwa [show decide (L = L) = true from decide_eq_true rfl] at this

set_option maxRecDepth 100000 in
set_option maxHeartbeats 1600000 in
theorem plays_calls (w : World) (A : Option Addr) (len cap : Nat) (l : List Deed) (hl : R.Args w w.heap.size A len 3 Deed.cells l) :
    Calls Try.prog 3 #[.slice A len cap] w (fun e w' => e = .returned (.bool true) ∧ Below w.heap.size w w') := by
  have H0 := Holds.start w
  have HL := Lib.hid hl
  clear hl
  go_enter Try.func3, Try.ntmps3
  go_wp2_with fail
  refine (x_new H0 none_stable).mono ?_
  rintro e w1 ⟨b, rfl, H1⟩
  go_wp2_with fail
  have H2 := (H1.lone (netP_iff _ _ _)).more (netP_stable 50 b []) (P := netP 28 w1.heap.size []) (w' := w1.alloc (.cells #[.slice none 0 0] 28)) (F := fun k => k = w1.heap.size) ⟨.slice none 0 0, ⟨Blk.fresh w1 28 _, Row.nil _ 9 1, by simp⟩, fun k => by simp [Foot, Value.ownBlock]⟩ ((Keep.same _ _).alloc _) (fun k hk => by omega)
  generalize w1.heap.size = y at *
  generalize w1.alloc (.cells #[.slice none 0 0] 28) = w2 at *
  have hS : ∀ L L', Stable (star (netP 28 y L) (netP 50 b L')) := fun L L' => (netP_stable _ _ _).star (netP_stable _ _ _)
  go_loopw [5] (fun i wr => ∃ (k : Nat) (L : List ByteArray), k ≤ len ∧ i = .int .i64 k ∧ Holds w.heap.size w wr (star (netP 28 y L) (netP 50 b L))) (fun i _ => len - (intOf i).toNat)
  case atStart => exact ⟨0, [], Nat.zero_le _, by simp, H2⟩
  case round =>
    obtain ⟨k, L, hk, rfl, H3⟩ := hrel
    by_cases hlt : k < len ∧ k < 200
    · obtain ⟨hlt, h200⟩ := hlt
      obtain ⟨ad, ⟨kd, n, s⟩, rfl, hB, c0, c1, c2⟩ := deed_at (HL.out.below H3.below) hlt
      simp only [] at c0 c1 c2
      have H4 := H3.newBlk (hS L L) 30 (cs3 kd n s)
      go_upto_block 2 with (fail)
      generalize wr.heap.size = bd at *
      generalize wr.alloc (.cells (cs3 kd n s) 30) = w4 at *
      have hQ5 : ∀ L', Stable (star (blkP bd 30 (cs3 kd n s)) (netP 28 y L')) := fun L' => (blkP_stable _ _ _).star (netP_stable _ _ _)
      have hQ6 : ∀ L', Stable (star (netP 50 b L') (blkP bd 30 (cs3 kd n s))) := fun L' => (netP_stable _ _ _).star (blkP_stable _ _ _)
      have hB : ∀ L', Stable (star (blkP bd 30 (cs3 kd n s)) (star (netP 28 y L') (netP 50 b L'))) := fun L' => (blkP_stable _ _ _).star (hS L' L')
      go_cut [7] (fun v7 wc => v7 = .bool true ∧ ∃ L', Holds w.heap.size w wc (star (blkP bd 30 (cs3 kd n s)) (star (netP 28 y L') (netP 50 b L'))))
      case first =>
        have T4 : ∀ m, Holds w.heap.size w (w4.drewN m) (star (netP 50 b L) (star (blkP bd 30 (cs3 kd n s)) (netP 28 y L))) := fun m => (H4.drewN (hB L) m).turn.turn
        have b41 := (blk3 H4).cell 1
        have b42 := (blk3 H4).cell 2
        rcases (show kd = 0 ∨ kd = 1 ∨ kd = 2 ∨ (kd ≠ 0 ∧ kd ≠ 1 ∧ kd ≠ 2) by omega) with hkd | hkd | hkd | ⟨hk0, hk1, hk2⟩
        · subst hkd
          go_wp2_with fail
          go_region_held3 (fun w' => w'.cell? ⟨bd, 2, none⟩ = some (.string s)) (first | exact b42 | exact b5 | exact b6 | go_keep) ((first | (go_at_call 8; refine (x_send (T4 _) (hQ5 _) s).mono ?_; rintro e w5 ⟨rfl, T5⟩; have b5 := (blk3 T5.turn).cell 2) | (go_at_call 9; refine (y_send T5.turn.turn (hQ6 _) s).mono ?_; rintro e w6 ⟨rfl, T6⟩; have U6 := T6.turn.turn; have b6 := (blk3 U6).cell 2)))
          all_goals go_wp2_with fail
          all_goals go_meet
          all_goals (case rel => exact ⟨by simp, _, U6⟩)
        · subst hkd
          go_wp2_with fail
          refine (x_take (T4 0) (hQ5 _) n).mono ?_
          rintro e w5 ⟨rfl, T5⟩
          have b5 := (blk3 T5.turn).cell 1
          go_wp2_with fail
          refine (y_take T5.turn.turn (hQ6 _) n).mono ?_
          rintro e w6 ⟨rfl, T6⟩
          have U6 := T6.turn.turn
          go_wp2_with fail
          go_meet
          case rel => exact ⟨by simp, _, U6⟩
        · subst hkd
          go_wp2_with fail
          refine (x_peek (T4 0) n).mono ?_
          rintro e w5 ⟨rfl, ⟨n5, rfl⟩⟩
          go_wp2_with fail
          refine (y_peek (T4 n5).turn.turn n).mono ?_
          rintro e w6 ⟨rfl, ⟨n6, rfl⟩⟩
          go_wp2_with fail
          go_meet
          case rel => exact ⟨by simp, L, H4.drawn (hB L) (by repeat (first | exact Drew.same _ | apply Drew.more | apply Drew.one))⟩
        · have g0 : (kd == 0) = false := beq_eq_false_iff_ne.2 hk0
          have g1 : (kd == 1) = false := beq_eq_false_iff_ne.2 hk1
          have g2 : (kd == 2) = false := beq_eq_false_iff_ne.2 hk2
          go_wp2_with fail
          go_region_held3 (fun w' => w'.cell? ⟨bd, 1, none⟩ = some (.int .i64 n)) (first | exact b41 | exact b5 | exact b6 | go_keep) ((first | (go_at_call 14; refine (x_double (T4 _) (hQ5 _) n).mono ?_; rintro e w5 ⟨rfl, T5⟩; have b5 := (blk3 T5.turn).cell 1) | (go_at_call 15; refine (y_double T5.turn.turn (hQ6 _) n).mono ?_; rintro e w6 ⟨rfl, T6⟩; have U6 := T6.turn.turn; have b6 := (blk3 U6).cell 1)))
          all_goals go_wp2_with fail
          all_goals go_meet
          all_goals (case rel => exact ⟨by simp, _, U6⟩)
      case rest =>
        clear c0 c1 c2 hB
        obtain ⟨rfl, L1, U6⟩ := hcut
        have hB6 : Stable (star (blkP bd 30 (cs3 kd n s)) (star (netP 28 y L1) (netP 50 b L1))) := (blkP_stable _ _ _).star (hS L1 L1)
        have T7 : ∀ m, Holds w.heap.size w (wc.drewN m) (star (netP 50 b L1) (star (blkP bd 30 (cs3 kd n s)) (netP 28 y L1))) := fun m => (U6.drewN hB6 m).turn.turn
        obtain ⟨F6, v6, hn6, hF6⟩ := U6.turn.left
        obtain ⟨A6, c6, rfl, _, _⟩ := hn6.row.form
        have y6 := hn6.blk.cell 0
        have R6 := Lib.hid hn6
        have hl6 := hn6.few
        clear hn6 hF6 H4
        go_wp2_with fail
        go_region_held3 (fun w' => w'.cell? ⟨y, 0, none⟩ = some (.slice A6 L1.length c6)) (first | exact y6 | exact y8 | go_keep) ((first | (go_at_call 16; refine (x_len (T7 _)).mono ?_; rintro e w7 ⟨rfl, ⟨n7, rfl⟩⟩) | (go_at_call 18; refine (x_all (T7 _) (hQ5 _)).mono ?_; rintro e w8 ⟨A8, c8, rfl, hr8, hk8, T8⟩; have y8 : w8.cell? ⟨y, 0, none⟩ = some (.slice A6 L1.length c6) := hk8.cell y6 (fun h => h); have P8 := Lib.hid hr8; have K8 := Lib.hid hk8; clear hr8 hk8) | (go_at_call 17; refine (texts_same _ _ _ _ _ L1 P8.out.src ((R6.out.row.drewN _).keep K8.out (fun _ _ h => h)).src hl6).mono ?_; rintro e w9 ⟨rfl, ⟨n9, rfl⟩⟩)))
        go_wp2_with fail
        go_roundw
        case rel => exact ⟨k + 1, L1, by omega, by go_num, T8.turn.drop.drewN (hS L1 L1) _⟩
        case measure => simp [intOf]; omega
    · by_cases hlt' : k < len
      · have h200 : ¬ k < 200 := fun h => hlt ⟨hlt', h⟩
        clear hlt
        go_wp2_with fail
        refine (awake_calls _).mono ?_
        rintro e w5 ⟨rfl, hb⟩
        go_wp2_with fail
        go_ret
        exact ⟨rfl, bThen H3.below hb⟩
      · clear hlt
        go_wp2_with fail
        refine (awake_calls _).mono ?_
        rintro e w5 ⟨rfl, hb⟩
        go_wp2_with fail
        go_ret
        exact ⟨rfl, bThen H3.below hb⟩

end Go.Proofs.Ytealhicbcbkofaa.A
