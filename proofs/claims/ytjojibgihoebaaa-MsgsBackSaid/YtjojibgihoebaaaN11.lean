/-
  msgs.Decode.
-/
import Derived.Test.YtjojibgihoebaaaN10
namespace Go.Proofs.Ytjojibgihoebaaa.A
open Go.RowKit Go.Proofs.Ytjojibgihoebaaa.U
set_option linter.unusedVariables false
set_option linter.unusedSimpArgs false
set_option maxRecDepth 100000

theorem held_row {B : Nat} {w0 w : World} {Q : SP} {b t : Nat} {cs : Array Value} (h : Holds B w0 w (star (blkP b t cs) Q)) (hQ : Stable Q) (cs' : Array Value) : Holds B w0 (w.setRow b cs') (star (blkP b t cs') Q) :=
  h.did_left hQ fun F ⟨hb, hf⟩ => ⟨F, ⟨hb.setRow cs', hf⟩, (Keep.same F w).setRow (.inl ((hf b).2 rfl)) cs', fun k hk => .inl hk⟩
theorem wpList_load_guarded {P : Program} {ops : Array Oper} {rest : List Oper} {o : Oper} {a : Act} {w : World} {Q : Exit → Act → World → Prop} (ty : TypeId) (hw : Region.wanted o (yielded ops a.tmps) = true) (x : Operand) (ho : o.op = .load ty x)
    (g : Nat) (hx : a.eval x = .pointer (some ⟨g, 0, none⟩)) (t : TypeId) (cs : Array Value) (fr : Nat × Nat) (d : TypeDesc) (hg : w.heap[g]? = some (.cells cs t fr))
    (hu : P.underlying ty = some d) (hd : (match d with | .struct _ | .array _ _ => true | _ => false) = true) (hi : (P.info? ty).map (·.size) = some cs.size)
    (h : wpList P ops Q rest (a.put o.dst (.agg cs)) w) : wpList P ops Q (o :: rest) a w :=
  wpList_step fun K hK => by
    rw [if_pos hw]
    exact wp_load_row ty x ho g hx t cs fr d hg hu hd hi (hK _ _ h)
/-- The cells of a message behind the first k + 1 numbers. -/
def mk (s : ByteArray) : Nat → Array Value
  | 0 => #[.int .i64 (iV (mx s 0)), .int .i64 (0), .int .i64 (0), .int .i64 (0), .int .i64 (0), .int .i64 (0), .int .i64 (0), .int .i64 (0), .slice none 0 0, .int .i64 (0), .int .i64 (0), .int .i64 (0), .string (⟨#[]⟩), .int .i64 (0), .int .i64 (0), .int .i64 (0), .int .i64 (0), .int .u64 (0), .int .i64 (0), .string (⟨#[]⟩)]
  | k + 1 => (mk s k).setIfInBounds (k + 1) (.int .i64 (iV (mx s (k + 1))))
theorem mk_size (s : ByteArray) : ∀ k, (mk s k).size = 20
  | 0 => rfl
  | k + 1 => by unfold mk; rw [Array.size_setIfInBounds]; exact mk_size s k
theorem mk6 (s : ByteArray) : mk s 6 = #[.int .i64 (iV (mx s 0)), .int .i64 (iV (mx s 1)), .int .i64 (iV (mx s 2)), .int .i64 (iV (mx s 3)), .int .i64 (iV (mx s 4)), .int .i64 (iV (mx s 5)), .int .i64 (iV (mx s 6)), .int .i64 (0), .slice none 0 0, .int .i64 (0), .int .i64 (0), .int .i64 (0), .string (⟨#[]⟩), .int .i64 (0), .int .i64 (0), .int .i64 (0), .int .i64 (0), .int .u64 (0), .int .i64 (0), .string (⟨#[]⟩)] := rfl
def ptrs (g : Nat) : Array Value := #[.pointer (some ⟨g, 1, none⟩), .pointer (some ⟨g, 2, none⟩), .pointer (some ⟨g, 3, none⟩), .pointer (some ⟨g, 4, none⟩), .pointer (some ⟨g, 5, none⟩), .pointer (some ⟨g, 6, none⟩)]
theorem ptrs_at (g : Nat) : ∀ k, k < 6 → (ptrs g)[k]? = some (.pointer (some ⟨g, k + 1, none⟩))
  | 0, _ => rfl
  | 1, _ => rfl
  | 2, _ => rfl
  | 3, _ => rfl
  | 4, _ => rfl
  | 5, _ => rfl
  | n + 6, h => absurd h (by omega)
theorem store9 {w : World} {g : Nat} {c0 c1 c2 c3 c4 c5 c6 c7 c8 c9 c10 c11 c12 c13 c14 c15 c16 c17 c18 c19 : Value} (B : Blk w g 79 #[c0, c1, c2, c3, c4, c5, c6, c7, c8, c9, c10, c11, c12, c13, c14, c15, c16, c17, c18, c19]) (v9 v10 v11 v12 v13 : Value) :
    w.cell? ⟨g, 9, none⟩ = some c9 ∧
    w.frozen? ⟨g, 9, none⟩ = false ∧
    (w.setCell ⟨g, 9, none⟩ v9).cell? ⟨g, 10, none⟩ = some c10 ∧
    (w.setCell ⟨g, 9, none⟩ v9).frozen? ⟨g, 10, none⟩ = false ∧
    ((w.setCell ⟨g, 9, none⟩ v9).setCell ⟨g, 10, none⟩ v10).cell? ⟨g, 11, none⟩ = some c11 ∧
    ((w.setCell ⟨g, 9, none⟩ v9).setCell ⟨g, 10, none⟩ v10).frozen? ⟨g, 11, none⟩ = false ∧
    (((w.setCell ⟨g, 9, none⟩ v9).setCell ⟨g, 10, none⟩ v10).setCell ⟨g, 11, none⟩ v11).cell? ⟨g, 12, none⟩ = some c12 ∧
    (((w.setCell ⟨g, 9, none⟩ v9).setCell ⟨g, 10, none⟩ v10).setCell ⟨g, 11, none⟩ v11).frozen? ⟨g, 12, none⟩ = false ∧
    ((((w.setCell ⟨g, 9, none⟩ v9).setCell ⟨g, 10, none⟩ v10).setCell ⟨g, 11, none⟩ v11).setCell ⟨g, 12, none⟩ v12).cell? ⟨g, 13, none⟩ = some c13 ∧
    ((((w.setCell ⟨g, 9, none⟩ v9).setCell ⟨g, 10, none⟩ v10).setCell ⟨g, 11, none⟩ v11).setCell ⟨g, 12, none⟩ v12).frozen? ⟨g, 13, none⟩ = false := by
  have B9 := B
  have B10 : Blk (w.setCell ⟨g, 9, none⟩ v9) g 79 #[c0, c1, c2, c3, c4, c5, c6, c7, c8, v9, c10, c11, c12, c13, c14, c15, c16, c17, c18, c19] := B9.put 9 v9
  have B11 : Blk ((w.setCell ⟨g, 9, none⟩ v9).setCell ⟨g, 10, none⟩ v10) g 79 #[c0, c1, c2, c3, c4, c5, c6, c7, c8, v9, v10, c11, c12, c13, c14, c15, c16, c17, c18, c19] := B10.put 10 v10
  have B12 : Blk (((w.setCell ⟨g, 9, none⟩ v9).setCell ⟨g, 10, none⟩ v10).setCell ⟨g, 11, none⟩ v11) g 79 #[c0, c1, c2, c3, c4, c5, c6, c7, c8, v9, v10, v11, c12, c13, c14, c15, c16, c17, c18, c19] := B11.put 11 v11
  have B13 : Blk ((((w.setCell ⟨g, 9, none⟩ v9).setCell ⟨g, 10, none⟩ v10).setCell ⟨g, 11, none⟩ v11).setCell ⟨g, 12, none⟩ v12) g 79 #[c0, c1, c2, c3, c4, c5, c6, c7, c8, v9, v10, v11, v12, c13, c14, c15, c16, c17, c18, c19] := B12.put 12 v12
  exact ⟨B9.cell 9, B9.free 9, B10.cell 10, B10.free 10, B11.cell 11, B11.free 11, B12.cell 12, B12.free 12, B13.cell 13, B13.free 13⟩
/-- What Decode gives. -/
def DecPost (s : ByteArray) (w : World) (e : Ending) (w' : World) : Prop := ∃ A c, e = .returned (.tuple #[mval (mR s) A c, .int .i64 (okF (mOk s))]) ∧ U.Src w' A 7 (mR s).es.length (ents (mR s).es) ∧ (mR s).es.length ≤ 4096 ∧ Keep Nothing w w'
theorem dec_no {s : ByteArray} {w w' : World} (h : mOk s = false) (hk : Keep Nothing w w') : DecPost s w (.returned (.tuple #[.agg zm, .int .i64 2])) w' := by
  unfold DecPost
  rw [mR_no h, h]
  exact ⟨none, 0, rfl, ⟨by simp [zeroM, ents], fun h0 => absurd h0 (by simp [zeroM])⟩, by simp [zeroM], hk⟩
set_option maxHeartbeats 25600000 in
theorem mdec_calls (w : World) (s : ByteArray) (hs : s.size ≤ 9223372036854775807) : Calls Try.prog 47 #[.string s] w (DecPost s w) := by
  have hu := Try.underlying79
  have hu77 := Try.underlying77
  have hu52 := Try.underlying52
  have hu54 := Try.underlying54
  have hi79 : (Try.prog.info? 79).map (·.size) = some 20 := by kernel_rfl
  have hb : ∀ w', Below w.heap.size w w' → Keep Nothing w w' := fun w' h => Keep.of_below h _
  have H0 := Lib.hid (Holds.newBlk (Holds.start w) none_stable 79 zm)
  have HNO := Lib.hid no64
  have HOF := Lib.hid of_calls
  by_cases hsz : s.size ≤ 524288
  · have hsz2 : decide (524288 < (s.size : Int)) = false := decide_eq_false (by omega)
    go_enter Try.func47, Try.ntmps47
    go_wp2_with fail
    refine (HOF.out _ _).mono ?_
    rintro e w1 ⟨rfl, hw1⟩
    have h1 := Holds.newBlk H0.out (by repeat (first | exact none_stable | exact wrP_stable _ _ | exact blkP_stable _ _ _ | exact rowP_stable _ _ _ _ _ | apply Stable.star)) 97 #[.string s, .bool false]
    rw [show (w.alloc (.cells zm 79)).heap.size = w.heap.size + 1 by simp] at h1
    have H1 := Lib.hid (show Holds w.heap.size w w1 (star (blkP (w.heap.size + 1) 97 (mx s 0).cs) (star (blkP w.heap.size 79 zm) none_)) by rw [hw1]; exact h1)
    rw [show (w.alloc (.cells zm 79)).heap.size = w.heap.size + 1 by simp]
    have HR := Lib.hid (x_rdi H1.out (by repeat (first | exact none_stable | exact wrP_stable _ _ | exact blkP_stable _ _ _ | exact rowP_stable _ _ _ _ _ | apply Stable.star)))
    clear hw1 h1
    go_wp2_with fail
    refine HR.out.mono ?_
    rintro e w2 ⟨rfl, h2⟩
    have H2 := Lib.hid (show Holds w.heap.size w w2 (star (blkP (w.heap.size + 1) 97 (mx s 1).cs) (star (blkP w.heap.size 79 zm) none_)) from h2)
    have Z2 := Lib.hid (Blk.fresh w2 79 zm)
    have H3 := Lib.hid (held_row (Holds.newBlk H2.out (by repeat (first | exact none_stable | exact wrP_stable _ _ | exact blkP_stable _ _ _ | exact rowP_stable _ _ _ _ _ | apply Stable.star)) 79 zm) (by repeat (first | exact none_stable | exact wrP_stable _ _ | exact blkP_stable _ _ _ | exact rowP_stable _ _ _ _ _ | apply Stable.star)) (mk s 0))
    clear h2
    go_wp2_with (refine wpList_store_row (by rfl) 79 (.tmp 6) (.tmp 25) (by rfl) w2.heap.size (mk s 0) (by rfl) (by rfl) 79 zm Z2.out hi79 rfl (by simp [mk, Value.oneCell']) ?_)
    have H4 := Lib.hid (show Holds w.heap.size w (((w2.alloc (.cells zm 79)).setRow w2.heap.size (mk s 0)).alloc (.cells (ptrs w2.heap.size) 108)) (star (blkP w2.heap.size 79 (mk s 0)) (star (blkP (w.heap.size + 1) 97 (mx s 1).cs) (star (blkP (w2.heap.size + 1) 108 (ptrs w2.heap.size)) (star (blkP w.heap.size 79 zm) none_)))) from by
      have h := Holds.newBlk H3.out (by repeat (first | exact none_stable | exact wrP_stable _ _ | exact blkP_stable _ _ _ | exact rowP_stable _ _ _ _ _ | apply Stable.star)) 108 (ptrs w2.heap.size)
      rw [show ((w2.alloc (.cells zm 79)).setRow w2.heap.size (mk s 0)).heap.size = w2.heap.size + 1 by simp] at h
      exact h.perm (by ac_rfl))
    obtain ⟨g, hg⟩ : ∃ g, w2.heap.size = g := ⟨_, rfl⟩
    rw [hg] at H4
    rw [hg]
    clear hg
    go_loopw [34] (fun v wr => ∃ k : Nat, k ≤ 6 ∧ v = .int .i64 k ∧ Holds w.heap.size w wr (star (blkP g 79 (mk s k)) (star (blkP (w.heap.size + 1) 97 (mx s (k + 1)).cs) (star (blkP (g + 1) 108 (ptrs g)) (star (blkP w.heap.size 79 zm) none_))))) (fun v _ => 6 - (intOf v).toNat)
    case atStart => exact ⟨0, by omega, by simp, H4.out⟩
    case round =>
      obtain ⟨k, hk, rfl, hh⟩ := hrel
      have H := Lib.hid hh
      clear hh
      by_cases hlt : k < 6
      · have c0 := ((blk_atM (H.out.perm (show _ = star (blkP (g + 1) 108 (ptrs g)) (star (blkP g 79 (mk s k)) (star (blkP (w.heap.size + 1) 97 (mx s (k + 1)).cs) (star (blkP w.heap.size 79 zm) none_))) by ac_rfl))).cell k).trans (ptrs_at g k hlt)
        have HR := Lib.hid (x_rdi (H.out.perm (show _ = star (blkP (w.heap.size + 1) 97 (mx s (k + 1)).cs) (star (blkP g 79 (mk s k)) (star (blkP (g + 1) 108 (ptrs g)) (star (blkP w.heap.size 79 zm) none_))) by ac_rfl)) (by repeat (first | exact none_stable | exact wrP_stable _ _ | exact blkP_stable _ _ _ | exact rowP_stable _ _ _ _ _ | apply Stable.star)))
        go_wp2_with fail
        refine HR.out.mono ?_
        rintro e w5 ⟨rfl, h5⟩
        have H5 := Lib.hid (show Holds w.heap.size w w5 (star (blkP g 79 (mk s k)) (star (blkP (w.heap.size + 1) 97 (mx s (k + 2)).cs) (star (blkP (g + 1) 108 (ptrs g)) (star (blkP w.heap.size 79 zm) none_)))) from h5.perm (by show star (blkP (w.heap.size + 1) 97 (mx s (k + 2)).cs) _ = _; ac_rfl))
        have B5 := blk_atM H5.out
        obtain ⟨u, hu5⟩ : ∃ u, w5.cell? ⟨g, k + 1, none⟩ = some u := ⟨_, (B5.cell (k + 1)).trans (Array.getElem?_eq_getElem (by rw [mk_size]; omega))⟩
        have f5 := B5.free (k + 1)
        have H6 := Lib.hid (H5.out.setBlk (by repeat (first | exact none_stable | exact wrP_stable _ _ | exact blkP_stable _ _ _ | exact rowP_stable _ _ _ _ _ | apply Stable.star)) (k + 1) (.int .i64 (iV (mx s (k + 1)))))
        clear h5 B5 c0
        go_wp2_with fail
        go_roundw
        case rel => exact ⟨k + 1, by omega, by go_num, H6.out⟩
        case measure => simp [intOf]; omega
      · obtain rfl : k = 6 := by omega
        have H6 := Lib.hid (show Holds w.heap.size w wr (star (blkP (w.heap.size + 1) 97 (mx s 7).cs) (star (blkP g 79 #[.int .i64 (iV (mx s 0)), .int .i64 (iV (mx s 1)), .int .i64 (iV (mx s 2)), .int .i64 (iV (mx s 3)), .int .i64 (iV (mx s 4)), .int .i64 (iV (mx s 5)), .int .i64 (iV (mx s 6)), .int .i64 (0), .slice none 0 0, .int .i64 (0), .int .i64 (0), .int .i64 (0), .string (⟨#[]⟩), .int .i64 (0), .int .i64 (0), .int .i64 (0), .int .i64 (0), .int .u64 (0), .int .i64 (0), .string (⟨#[]⟩)]) (star (blkP w.heap.size 79 zm) none_))) from
          (H.out.perm (show _ = star (blkP (g + 1) 108 (ptrs g)) (star (blkP (w.heap.size + 1) 97 (mx s 7).cs) (star (blkP g 79 #[.int .i64 (iV (mx s 0)), .int .i64 (iV (mx s 1)), .int .i64 (iV (mx s 2)), .int .i64 (iV (mx s 3)), .int .i64 (iV (mx s 4)), .int .i64 (iV (mx s 5)), .int .i64 (iV (mx s 6)), .int .i64 (0), .slice none 0 0, .int .i64 (0), .int .i64 (0), .int .i64 (0), .string (⟨#[]⟩), .int .i64 (0), .int .i64 (0), .int .i64 (0), .int .i64 (0), .int .u64 (0), .int .i64 (0), .string (⟨#[]⟩)]) (star (blkP w.heap.size 79 zm) none_))) by rw [mk6]; ac_rfl)).drop)
        have HR := Lib.hid (x_rdi H6.out (by repeat (first | exact none_stable | exact wrP_stable _ _ | exact blkP_stable _ _ _ | exact rowP_stable _ _ _ _ _ | apply Stable.star)))
        clear H
        go_wp2_with fail
        refine HR.out.mono ?_
        rintro e w5 ⟨rfl, h5⟩
        have H7 := Lib.hid (show Holds w.heap.size w w5 (star (blkP g 79 #[.int .i64 (iV (mx s 0)), .int .i64 (iV (mx s 1)), .int .i64 (iV (mx s 2)), .int .i64 (iV (mx s 3)), .int .i64 (iV (mx s 4)), .int .i64 (iV (mx s 5)), .int .i64 (iV (mx s 6)), .int .i64 (0), .slice none 0 0, .int .i64 (0), .int .i64 (0), .int .i64 (0), .string (⟨#[]⟩), .int .i64 (0), .int .i64 (0), .int .i64 (0), .int .i64 (0), .int .u64 (0), .int .i64 (0), .string (⟨#[]⟩)]) (star (blkP (w.heap.size + 1) 97 (mx s 8).cs) (star (blkP w.heap.size 79 zm) none_))) from h5.perm (by show star (blkP (w.heap.size + 1) 97 (mx s 8).cs) _ = _; ac_rfl))
        have B7 := blk_atM H7.out
        have c7 := B7.cell 7
        have f7 := B7.free 7
        have H8 := Lib.hid (show Holds w.heap.size w (w5.setCell ⟨g, 7, none⟩ (.int .i64 (iV (mx s 7)))) (star (blkP (w.heap.size + 1) 97 (mx s 8).cs) (star (blkP g 79 #[.int .i64 (iV (mx s 0)), .int .i64 (iV (mx s 1)), .int .i64 (iV (mx s 2)), .int .i64 (iV (mx s 3)), .int .i64 (iV (mx s 4)), .int .i64 (iV (mx s 5)), .int .i64 (iV (mx s 6)), .int .i64 (iV (mx s 7)), .slice none 0 0, .int .i64 (0), .int .i64 (0), .int .i64 (0), .string (⟨#[]⟩), .int .i64 (0), .int .i64 (0), .int .i64 (0), .int .i64 (0), .int .u64 (0), .int .i64 (0), .string (⟨#[]⟩)]) (star (blkP w.heap.size 79 zm) none_))) from (H7.out.setBlk (by repeat (first | exact none_stable | exact wrP_stable _ _ | exact blkP_stable _ _ _ | exact rowP_stable _ _ _ _ _ | apply Stable.star)) 7 (.int .i64 (iV (mx s 7)))).perm (by show star (blkP g 79 #[.int .i64 (iV (mx s 0)), .int .i64 (iV (mx s 1)), .int .i64 (iV (mx s 2)), .int .i64 (iV (mx s 3)), .int .i64 (iV (mx s 4)), .int .i64 (iV (mx s 5)), .int .i64 (iV (mx s 6)), .int .i64 (iV (mx s 7)), .slice none 0 0, .int .i64 (0), .int .i64 (0), .int .i64 (0), .string (⟨#[]⟩), .int .i64 (0), .int .i64 (0), .int .i64 (0), .int .i64 (0), .int .u64 (0), .int .i64 (0), .string (⟨#[]⟩)]) _ = _; ac_rfl))
        have HR8 := Lib.hid (x_rdi H8.out (by repeat (first | exact none_stable | exact wrP_stable _ _ | exact blkP_stable _ _ _ | exact rowP_stable _ _ _ _ _ | apply Stable.star)))
        clear h5 B7
        go_wp2_with fail
        refine HR8.out.mono ?_
        rintro e w8 ⟨rfl, h8⟩
        have H9 := Lib.hid (show Holds w.heap.size w w8 (star (blkP (w.heap.size + 1) 97 (mx s 9).cs) (star (blkP g 79 #[.int .i64 (iV (mx s 0)), .int .i64 (iV (mx s 1)), .int .i64 (iV (mx s 2)), .int .i64 (iV (mx s 3)), .int .i64 (iV (mx s 4)), .int .i64 (iV (mx s 5)), .int .i64 (iV (mx s 6)), .int .i64 (iV (mx s 7)), .slice none 0 0, .int .i64 (0), .int .i64 (0), .int .i64 (0), .string (⟨#[]⟩), .int .i64 (0), .int .i64 (0), .int .i64 (0), .int .i64 (0), .int .u64 (0), .int .i64 (0), .string (⟨#[]⟩)]) (star (blkP w.heap.size 79 zm) none_))) from h8)
        clear h8 c7 f7
        rw [show iV (mx s 8) = mn s from rfl]
        by_cases hn : 0 ≤ mn s ∧ mn s ≤ 4096
        · have g1 : decide (mn s < 0) = false := decide_eq_false (by omega)
          have g2 : decide (4096 < mn s) = false := decide_eq_false (by omega)
          obtain ⟨n, hnn⟩ : ∃ n, (mn s).toNat = n := ⟨_, rfl⟩
          have hni : mn s = (n : Int) := by omega
          have NOK := Lib.hid (show nOk s = true by unfold nOk; rw [decide_eq_true hn.1, decide_eq_true hn.2]; rfl)
          have HNN := Lib.hid hnn
          have hn4 : n ≤ 4096 := by omega
          have g3 : decide ((n : Int) < 0) = false := decide_eq_false (by omega)
          have g4 : decide (4096 < (n : Int)) = false := decide_eq_false (by omega)
          rw [hni]
          clear hn g1 g2 hni hnn
          go_wp2_with fail
          have L9 := Lib.hid (show Holds w.heap.size w w8 (star (blkP (w.heap.size + 1) 97 (ex (mx s 9) 0).cs) (star (blkP g 79 #[.int .i64 (iV (mx s 0)), .int .i64 (iV (mx s 1)), .int .i64 (iV (mx s 2)), .int .i64 (iV (mx s 3)), .int .i64 (iV (mx s 4)), .int .i64 (iV (mx s 5)), .int .i64 (iV (mx s 6)), .int .i64 (iV (mx s 7)), .slice none 0 0, .int .i64 (0), .int .i64 (0), .int .i64 (0), .string (⟨#[]⟩), .int .i64 (0), .int .i64 (0), .int .i64 (0), .int .i64 (0), .int .u64 (0), .int .i64 (0), .string (⟨#[]⟩)]) (star (rowP 54 7 (.slice none 0 0) 0 (ents (esOf (mx s 9) 0))) (star (blkP w.heap.size 79 zm) none_)))) from
            (Holds.newRow (e := 54) (size := 7) (v := .slice none 0 0) (n := 0) (xs := []) H9.out (by repeat (first | exact none_stable | exact wrP_stable _ _ | exact blkP_stable _ _ _ | exact rowP_stable _ _ _ _ _ | apply Stable.star)) (Row.nil _ 54 7) (Keep.same _ _) (fun k hk => by simp [Value.ownBlock] at hk)).perm (by show star (rowP 54 7 (.slice none 0 0) 0 (ents (esOf (mx s 9) 0))) (star (blkP (w.heap.size + 1) 97 (ex (mx s 9) 0).cs) (star (blkP g 79 #[.int .i64 (iV (mx s 0)), .int .i64 (iV (mx s 1)), .int .i64 (iV (mx s 2)), .int .i64 (iV (mx s 3)), .int .i64 (iV (mx s 4)), .int .i64 (iV (mx s 5)), .int .i64 (iV (mx s 6)), .int .i64 (iV (mx s 7)), .slice none 0 0, .int .i64 (0), .int .i64 (0), .int .i64 (0), .string (⟨#[]⟩), .int .i64 (0), .int .i64 (0), .int .i64 (0), .int .i64 (0), .int .u64 (0), .int .i64 (0), .string (⟨#[]⟩)]) (star (blkP w.heap.size 79 zm) none_))) = _; ac_rfl))
          go_loopw [59] (fun v wr => ∃ (k : Nat) (A : Option Addr) (c : Nat), k ≤ n ∧ v = .int .i64 k ∧ Hid (esOk (mx s 9) k = true) ∧ Holds w.heap.size w wr (star (blkP (w.heap.size + 1) 97 (ex (mx s 9) k).cs) (star (blkP g 79 #[.int .i64 (iV (mx s 0)), .int .i64 (iV (mx s 1)), .int .i64 (iV (mx s 2)), .int .i64 (iV (mx s 3)), .int .i64 (iV (mx s 4)), .int .i64 (iV (mx s 5)), .int .i64 (iV (mx s 6)), .int .i64 (iV (mx s 7)), .slice A k c, .int .i64 (0), .int .i64 (0), .int .i64 (0), .string (⟨#[]⟩), .int .i64 (0), .int .i64 (0), .int .i64 (0), .int .i64 (0), .int .u64 (0), .int .i64 (0), .string (⟨#[]⟩)]) (star (rowP 54 7 (.slice A k c) k (ents (esOf (mx s 9) k))) (star (blkP w.heap.size 79 zm) none_))))) (fun v _ => n - (intOf v).toNat)
          case atStart => exact ⟨0, none, 0, by omega, by simp, Lib.hid rfl, L9.out⟩
          case round =>
            obtain ⟨k, A, c, hk, rfl, hok, hh⟩ := hrel
            have H := Lib.hid hh
            clear hh
            by_cases hlt : k < n
            · have HR := Lib.hid (x_rdt H.out (by repeat (first | exact none_stable | exact wrP_stable _ _ | exact blkP_stable _ _ _ | exact rowP_stable _ _ _ _ _ | apply Stable.star)) (Nat.le_trans (Nat.le_trans (ex_size _ k) (mx_size s 9)) hs))
              have HE := Lib.hid (show ∀ w, Calls Try.prog 42 #[.string (tV (ex (mx s 9) k))] w (fun e w' => e = .returned (.tuple #[.agg (ecs (eR (tV (ex (mx s 9) k)))), .int .i64 (okF (eOk (tV (ex (mx s 9) k))))]) ∧ Keep Nothing w w') from fun w => edec_calls w _ (tV_size _))
              have hlt2 : decide ((k : Int) < (n : Int)) = true := decide_eq_true (by omega)
              go_wp2_with fail
              refine HR.out.mono ?_
              rintro e w5 ⟨rfl, h5⟩
              have H5 := Lib.hid (show Holds w.heap.size w w5 (star (blkP (w.heap.size + 1) 97 (ex (mx s 9) (k + 1)).cs) (star (blkP g 79 #[.int .i64 (iV (mx s 0)), .int .i64 (iV (mx s 1)), .int .i64 (iV (mx s 2)), .int .i64 (iV (mx s 3)), .int .i64 (iV (mx s 4)), .int .i64 (iV (mx s 5)), .int .i64 (iV (mx s 6)), .int .i64 (iV (mx s 7)), .slice A k c, .int .i64 (0), .int .i64 (0), .int .i64 (0), .string (⟨#[]⟩), .int .i64 (0), .int .i64 (0), .int .i64 (0), .int .i64 (0), .int .u64 (0), .int .i64 (0), .string (⟨#[]⟩)]) (star (rowP 54 7 (.slice A k c) k (ents (esOf (mx s 9) k))) (star (blkP w.heap.size 79 zm) none_)))) from h5)
              clear h5
              go_wp2_with fail
              refine (HE.out _).mono ?_
              rintro e w6 ⟨rfl, hk6⟩
              have NX := Lib.hid (esOf_next (mx s 9) k)
              have OX := Lib.hid (esOk_next (mx s 9) k)
              have OB := Lib.hid (fun h => esOk_before (x := mx s 9) (k := k) h n hlt)
              obtain ⟨y, hy⟩ : ∃ y, eR (tV (ex (mx s 9) k)) = y := ⟨_, rfl⟩
              rw [hy] at NX
              rw [hy]
              have H6 := Lib.hid ((H5.out.kept (by repeat (first | exact none_stable | exact wrP_stable _ _ | exact blkP_stable _ _ _ | exact rowP_stable _ _ _ _ _ | apply Stable.star)) hk6).alloc (by repeat (first | exact none_stable | exact wrP_stable _ _ | exact blkP_stable _ _ _ | exact rowP_stable _ _ _ _ _ | apply Stable.star)) (.cells (ecs y) 54))
              clear hk6 hy
              cases he : eOk (tV (ex (mx s 9) k)) with
              | false =>
                rw [show okF false = 2 from rfl]
                have E := Lib.hid (show mOk s = false by
                  unfold mOk
                  rw [HNN.out, OB.out he]
                  simp)
                clear he
                have BZ := Lib.hid (fun w9 hk => blk_atM ((kept_all H6.out (by repeat (first | exact none_stable | exact wrP_stable _ _ | exact blkP_stable _ _ _ | exact rowP_stable _ _ _ _ _ | apply Stable.star)) w9 hk).perm (show _ = star (blkP w.heap.size 79 zm) (star (blkP (w.heap.size + 1) 97 (ex (mx s 9) (k + 1)).cs) (star (blkP g 79 #[.int .i64 (iV (mx s 0)), .int .i64 (iV (mx s 1)), .int .i64 (iV (mx s 2)), .int .i64 (iV (mx s 3)), .int .i64 (iV (mx s 4)), .int .i64 (iV (mx s 5)), .int .i64 (iV (mx s 6)), .int .i64 (iV (mx s 7)), .slice A k c, .int .i64 (0), .int .i64 (0), .int .i64 (0), .string (⟨#[]⟩), .int .i64 (0), .int .i64 (0), .int .i64 (0), .int .i64 (0), .int .u64 (0), .int .i64 (0), .string (⟨#[]⟩)]) (star (rowP 54 7 (.slice A k c) k (ents (esOf (mx s 9) k))) none_))) by ac_rfl)))
                have HB9 := Lib.hid (H6.out).below
                go_wp2_with fail
                refine (HNO.out _).mono ?_
                rintro e w9 ⟨rfl, hk9⟩
                have BB := Lib.hid (BZ.out _ hk9)
                have K9 := Lib.hid ((hb _ HB9.out).then hk9)
                clear hk9
                go_wp2_with (refine wpList_store_row (by rfl) 79 (.tmp 2) (.tmp 71) (by rfl) w.heap.size zm (by rfl) (by rfl) 79 zm BB.out hi79 rfl zm_one ?_)
                refine bodyPost_ret (v := .tuple #[.agg zm, .int .i64 2]) (two_results (p := 2) (q := 3) (by rfl) (by rfl) (by rfl) (BB.out.setRow zm) hi79) rfl ?_
                exact dec_no E.out (K9.out.setRow (.inr (Nat.le_refl _)) zm)
              | true =>
                rw [show okF true = 0 from rfl]
                have HOK := Lib.hid (show esOk (mx s 9) (k + 1) = true by rw [OX.out, hok.out, he]; rfl)
                have hln := esOf_len (mx s 9) k
                have H7 := Lib.hid (show Holds w.heap.size w (w6.alloc (.cells (ecs y) 54)) (star (rowP 54 7 (.slice A k c) k (ents (esOf (mx s 9) k))) (star (blkP g 79 #[.int .i64 (iV (mx s 0)), .int .i64 (iV (mx s 1)), .int .i64 (iV (mx s 2)), .int .i64 (iV (mx s 3)), .int .i64 (iV (mx s 4)), .int .i64 (iV (mx s 5)), .int .i64 (iV (mx s 6)), .int .i64 (iV (mx s 7)), .slice A k c, .int .i64 (0), .int .i64 (0), .int .i64 (0), .string (⟨#[]⟩), .int .i64 (0), .int .i64 (0), .int .i64 (0), .int .i64 (0), .int .u64 (0), .int .i64 (0), .string (⟨#[]⟩)]) (star (blkP (w.heap.size + 1) 97 (ex (mx s 9) (k + 1)).cs) (star (blkP w.heap.size 79 zm) none_)))) from H6.out.perm (by ac_rfl))
                have y8 := (blk_atM (Holds.second H7.out)).cell 8
                have R4 := Lib.hid (H7.out.row.alloc (.cells (ecs y) 54))
                have Z := Blk.fresh w6 54 (ecs y)
                have z0 := Z.cell 0
                have z1 := Z.cell 1
                have z2 := Z.cell 2
                have z3 := Z.cell 3
                have z4 := Z.cell 4
                have z5 := Z.cell 5
                have z6 := Z.cell 6
                have hb1 : k + 1 ≤ maxLen := by unfold maxLen; omega
                have hb2 : (k + 1) * 64 ≤ 140737488355328 := by omega
                have EL := Lib.hid (show ents (esOf (mx s 9) k) ++ (ecs y).toList = ents (esOf (mx s 9) (k + 1)) by rw [NX.out, ents_app, ents_one1])
                clear he Z hln
                go_wp2_with (at_builtin; refine wpList_app _ rfl EE (.tmp 74) (.tmp 76) rfl R4.out (Src.fresh _ (ecs y) 54 7 1 rfl) 1 rfl (by simp [Act.eval, Act.put]) (by simp [Value.oneCell']) hb1 hb2 ?_)
                intro v7 w7 hr hg2 hloc
                have h8 := (H7.out.alloc (by repeat (first | exact none_stable | exact wrP_stable _ _ | exact blkP_stable _ _ _ | exact rowP_stable _ _ _ _ _ | apply Stable.star)) (.cells (ecs y) 54)).grew (by repeat (first | exact none_stable | exact wrP_stable _ _ | exact blkP_stable _ _ _ | exact rowP_stable _ _ _ _ _ | apply Stable.star)) hr hg2 (by simpa using hloc)
                rw [EL.out] at h8
                have hr2 := h8.row
                obtain ⟨A7, c7, rfl, _, _⟩ := hr2.form
                have H8 := Lib.hid (Holds.second h8)
                have B8 := blk_atM H8.out
                have m8 := B8.cell 8
                have f8 := B8.free 8
                have HN := Lib.hid (show Holds w.heap.size w (w7.setCell ⟨g, 8, none⟩ (.slice A7 (k + 1) c7)) (star (blkP (w.heap.size + 1) 97 (ex (mx s 9) (k + 1)).cs) (star (blkP g 79 #[.int .i64 (iV (mx s 0)), .int .i64 (iV (mx s 1)), .int .i64 (iV (mx s 2)), .int .i64 (iV (mx s 3)), .int .i64 (iV (mx s 4)), .int .i64 (iV (mx s 5)), .int .i64 (iV (mx s 6)), .int .i64 (iV (mx s 7)), .slice A7 (k + 1) c7, .int .i64 (0), .int .i64 (0), .int .i64 (0), .string (⟨#[]⟩), .int .i64 (0), .int .i64 (0), .int .i64 (0), .int .i64 (0), .int .u64 (0), .int .i64 (0), .string (⟨#[]⟩)]) (star (rowP 54 7 (.slice A7 (k + 1) c7) (k + 1) (ents (esOf (mx s 9) (k + 1)))) (star (blkP w.heap.size 79 zm) none_)))) from (H8.out.setBlk (by repeat (first | exact none_stable | exact wrP_stable _ _ | exact blkP_stable _ _ _ | exact rowP_stable _ _ _ _ _ | apply Stable.star)) 8 (.slice A7 (k + 1) c7)).perm (by show star (blkP g 79 #[.int .i64 (iV (mx s 0)), .int .i64 (iV (mx s 1)), .int .i64 (iV (mx s 2)), .int .i64 (iV (mx s 3)), .int .i64 (iV (mx s 4)), .int .i64 (iV (mx s 5)), .int .i64 (iV (mx s 6)), .int .i64 (iV (mx s 7)), .slice A7 (k + 1) c7, .int .i64 (0), .int .i64 (0), .int .i64 (0), .string (⟨#[]⟩), .int .i64 (0), .int .i64 (0), .int .i64 (0), .int .i64 (0), .int .u64 (0), .int .i64 (0), .string (⟨#[]⟩)]) _ = _; ac_rfl))
                clear hr hg2 hloc h8 hr2 B8 y8 z0 z1 z2 z3 z4 z5 z6
                go_wp2_with fail
                go_roundw
                case rel => exact ⟨k + 1, A7, c7, by omega, by go_num, HOK, HN.out⟩
                case measure => simp [intOf]; omega
            · obtain rfl : k = n := by omega
              have hz := HNN.out
              subst hz
              have hlt2 : decide (((mn s).toNat : Int) < ((mn s).toNat : Int)) = false := decide_eq_false (by omega)
              have HR := Lib.hid (x_rdt (x := my0 s) H.out (by repeat (first | exact none_stable | exact wrP_stable _ _ | exact blkP_stable _ _ _ | exact rowP_stable _ _ _ _ _ | apply Stable.star)) (Nat.le_trans (my0_size s) hs))
              have HD := Lib.hid (show ∀ w, Calls Try.prog 40 #[.string (tV (my0 s))] w (fun e w' => e = .returned (.tuple #[.agg #[.int .i64 (decR (tV (my0 s))).k, .int .i64 (decR (tV (my0 s))).s, .int .i64 (decR (tV (my0 s))).q, .string (decR (tV (my0 s))).nm, .int .i64 (decR (tV (my0 s))).n], .int .i64 (okF (decOk (tV (my0 s))))]) ∧ Keep Nothing w w') from fun w => dec_calls w _ (tV_size _))
              have HZZ := Lib.hid hok.out
              clear hok
              go_wp2_with fail
              refine HR.out.mono ?_
              rintro e w5 ⟨rfl, h5⟩
              have H5 := Lib.hid (show Holds w.heap.size w w5 (star (blkP (w.heap.size + 1) 97 (my1 s).cs) (star (blkP g 79 #[.int .i64 (iV (mx s 0)), .int .i64 (iV (mx s 1)), .int .i64 (iV (mx s 2)), .int .i64 (iV (mx s 3)), .int .i64 (iV (mx s 4)), .int .i64 (iV (mx s 5)), .int .i64 (iV (mx s 6)), .int .i64 (iV (mx s 7)), .slice A (mn s).toNat c, .int .i64 (0), .int .i64 (0), .int .i64 (0), .string (⟨#[]⟩), .int .i64 (0), .int .i64 (0), .int .i64 (0), .int .i64 (0), .int .u64 (0), .int .i64 (0), .string (⟨#[]⟩)]) (star (rowP 54 7 (.slice A (mn s).toNat c) (mn s).toNat (ents (esOf (mx s 9) (mn s).toNat))) (star (blkP w.heap.size 79 zm) none_)))) from h5)
              clear h5
              go_wp2_with fail
              refine (HD.out _).mono ?_
              rintro e w6 ⟨rfl, hk6⟩
              obtain ⟨d, hd⟩ : ∃ d, decR (tV (my0 s)) = d := ⟨_, rfl⟩
              rw [hd]
              have HDD := Lib.hid hd
              have H6 := Lib.hid (show Holds w.heap.size w (w6.alloc (.cells #[.int .i64 d.k, .int .i64 d.s, .int .i64 d.q, .string d.nm, .int .i64 d.n] 52)) (star (blkP g 79 #[.int .i64 (iV (mx s 0)), .int .i64 (iV (mx s 1)), .int .i64 (iV (mx s 2)), .int .i64 (iV (mx s 3)), .int .i64 (iV (mx s 4)), .int .i64 (iV (mx s 5)), .int .i64 (iV (mx s 6)), .int .i64 (iV (mx s 7)), .slice A (mn s).toNat c, .int .i64 (0), .int .i64 (0), .int .i64 (0), .string (⟨#[]⟩), .int .i64 (0), .int .i64 (0), .int .i64 (0), .int .i64 (0), .int .u64 (0), .int .i64 (0), .string (⟨#[]⟩)]) (star (blkP (w.heap.size + 1) 97 (my1 s).cs) (star (rowP 54 7 (.slice A (mn s).toNat c) (mn s).toNat (ents (esOf (mx s 9) (mn s).toNat))) (star (blkP w.heap.size 79 zm) none_)))) from ((H5.out.kept (by repeat (first | exact none_stable | exact wrP_stable _ _ | exact blkP_stable _ _ _ | exact rowP_stable _ _ _ _ _ | apply Stable.star)) hk6).alloc (by repeat (first | exact none_stable | exact wrP_stable _ _ | exact blkP_stable _ _ _ | exact rowP_stable _ _ _ _ _ | apply Stable.star)) (.cells #[.int .i64 d.k, .int .i64 d.s, .int .i64 d.q, .string d.nm, .int .i64 d.n] 52)).perm (by ac_rfl))
              have Z := Blk.fresh w6 52 #[.int .i64 d.k, .int .i64 d.s, .int .i64 d.q, .string d.nm, .int .i64 d.n]
              have z0 := Z.cell 0
              have z1 := Z.cell 1
              have z2 := Z.cell 2
              have z3 := Z.cell 3
              have z4 := Z.cell 4
              obtain ⟨s9, t9, s10, t10, s11, t11, s12, t12, s13, t13⟩ := store9 (blk_atM H6.out) (.int .i64 d.k) (.int .i64 d.s) (.int .i64 d.q) (.string d.nm) (.int .i64 d.n)
              have H7 := Lib.hid (show Holds w.heap.size w _ (star (blkP g 79 #[.int .i64 (iV (mx s 0)), .int .i64 (iV (mx s 1)), .int .i64 (iV (mx s 2)), .int .i64 (iV (mx s 3)), .int .i64 (iV (mx s 4)), .int .i64 (iV (mx s 5)), .int .i64 (iV (mx s 6)), .int .i64 (iV (mx s 7)), .slice A (mn s).toNat c, .int .i64 (d.k), .int .i64 (d.s), .int .i64 (d.q), .string (d.nm), .int .i64 (d.n), .int .i64 (0), .int .i64 (0), .int .i64 (0), .int .u64 (0), .int .i64 (0), .string (⟨#[]⟩)]) (star (blkP (w.heap.size + 1) 97 (my1 s).cs) (star (rowP 54 7 (.slice A (mn s).toNat c) (mn s).toNat (ents (esOf (mx s 9) (mn s).toNat))) (star (blkP w.heap.size 79 zm) none_)))) from (((((H6.out.setBlk (by repeat (first | exact none_stable | exact wrP_stable _ _ | exact blkP_stable _ _ _ | exact rowP_stable _ _ _ _ _ | apply Stable.star)) 9 (.int .i64 d.k)).setBlk (by repeat (first | exact none_stable | exact wrP_stable _ _ | exact blkP_stable _ _ _ | exact rowP_stable _ _ _ _ _ | apply Stable.star)) 10 (.int .i64 d.s)).setBlk (by repeat (first | exact none_stable | exact wrP_stable _ _ | exact blkP_stable _ _ _ | exact rowP_stable _ _ _ _ _ | apply Stable.star)) 11 (.int .i64 d.q)).setBlk (by repeat (first | exact none_stable | exact wrP_stable _ _ | exact blkP_stable _ _ _ | exact rowP_stable _ _ _ _ _ | apply Stable.star)) 12 (.string d.nm)).setBlk (by repeat (first | exact none_stable | exact wrP_stable _ _ | exact blkP_stable _ _ _ | exact rowP_stable _ _ _ _ _ | apply Stable.star)) 13 (.int .i64 d.n)))
              have HR1 := Lib.hid (x_rdi (Holds.second H7.out) (by repeat (first | exact none_stable | exact wrP_stable _ _ | exact blkP_stable _ _ _ | exact rowP_stable _ _ _ _ _ | apply Stable.star)))
              clear hk6 hd Z
              go_wp2_with fail
              refine HR1.out.mono ?_
              rintro e v0 ⟨rfl, h5⟩
              have K0 := Lib.hid (show Holds w.heap.size w v0 (star (blkP g 79 #[.int .i64 (iV (mx s 0)), .int .i64 (iV (mx s 1)), .int .i64 (iV (mx s 2)), .int .i64 (iV (mx s 3)), .int .i64 (iV (mx s 4)), .int .i64 (iV (mx s 5)), .int .i64 (iV (mx s 6)), .int .i64 (iV (mx s 7)), .slice A (mn s).toNat c, .int .i64 (d.k), .int .i64 (d.s), .int .i64 (d.q), .string (d.nm), .int .i64 (d.n), .int .i64 (0), .int .i64 (0), .int .i64 (0), .int .u64 (0), .int .i64 (0), .string (⟨#[]⟩)]) (star (blkP (w.heap.size + 1) 97 (my2 s).cs) (star (rowP 54 7 (.slice A (mn s).toNat c) (mn s).toNat (ents (esOf (mx s 9) (mn s).toNat))) (star (blkP w.heap.size 79 zm) none_)))) from h5.perm (by show star (blkP (w.heap.size + 1) 97 (my2 s).cs) _ = _; ac_rfl))
              have BB := blk_atM K0.out
              have k0 := BB.cell 14
              have f0 := BB.free 14
              have J0 := Lib.hid (show Holds w.heap.size w _ (star (blkP g 79 #[.int .i64 (iV (mx s 0)), .int .i64 (iV (mx s 1)), .int .i64 (iV (mx s 2)), .int .i64 (iV (mx s 3)), .int .i64 (iV (mx s 4)), .int .i64 (iV (mx s 5)), .int .i64 (iV (mx s 6)), .int .i64 (iV (mx s 7)), .slice A (mn s).toNat c, .int .i64 (d.k), .int .i64 (d.s), .int .i64 (d.q), .string (d.nm), .int .i64 (d.n), .int .i64 (iV (my1 s)), .int .i64 (0), .int .i64 (0), .int .u64 (0), .int .i64 (0), .string (⟨#[]⟩)]) (star (blkP (w.heap.size + 1) 97 (my2 s).cs) (star (rowP 54 7 (.slice A (mn s).toNat c) (mn s).toNat (ents (esOf (mx s 9) (mn s).toNat))) (star (blkP w.heap.size 79 zm) none_)))) from K0.out.setBlk (by repeat (first | exact none_stable | exact wrP_stable _ _ | exact blkP_stable _ _ _ | exact rowP_stable _ _ _ _ _ | apply Stable.star)) 14 (.int .i64 (iV (my1 s))))
              have HR2 := Lib.hid (x_rdi (Holds.second J0.out) (by repeat (first | exact none_stable | exact wrP_stable _ _ | exact blkP_stable _ _ _ | exact rowP_stable _ _ _ _ _ | apply Stable.star)))
              clear h5 BB s9 t9 s10 t10 s11 t11 s12 t12 s13 t13 z0 z1 z2 z3 z4
              go_wp2_with fail
              refine HR2.out.mono ?_
              rintro e v1 ⟨rfl, h5⟩
              have K1 := Lib.hid (show Holds w.heap.size w v1 (star (blkP g 79 #[.int .i64 (iV (mx s 0)), .int .i64 (iV (mx s 1)), .int .i64 (iV (mx s 2)), .int .i64 (iV (mx s 3)), .int .i64 (iV (mx s 4)), .int .i64 (iV (mx s 5)), .int .i64 (iV (mx s 6)), .int .i64 (iV (mx s 7)), .slice A (mn s).toNat c, .int .i64 (d.k), .int .i64 (d.s), .int .i64 (d.q), .string (d.nm), .int .i64 (d.n), .int .i64 (iV (my1 s)), .int .i64 (0), .int .i64 (0), .int .u64 (0), .int .i64 (0), .string (⟨#[]⟩)]) (star (blkP (w.heap.size + 1) 97 (my3 s).cs) (star (rowP 54 7 (.slice A (mn s).toNat c) (mn s).toNat (ents (esOf (mx s 9) (mn s).toNat))) (star (blkP w.heap.size 79 zm) none_)))) from h5.perm (by show star (blkP (w.heap.size + 1) 97 (my3 s).cs) _ = _; ac_rfl))
              have BB := blk_atM K1.out
              have k1 := BB.cell 15
              have f1 := BB.free 15
              have J1 := Lib.hid (show Holds w.heap.size w _ (star (blkP g 79 #[.int .i64 (iV (mx s 0)), .int .i64 (iV (mx s 1)), .int .i64 (iV (mx s 2)), .int .i64 (iV (mx s 3)), .int .i64 (iV (mx s 4)), .int .i64 (iV (mx s 5)), .int .i64 (iV (mx s 6)), .int .i64 (iV (mx s 7)), .slice A (mn s).toNat c, .int .i64 (d.k), .int .i64 (d.s), .int .i64 (d.q), .string (d.nm), .int .i64 (d.n), .int .i64 (iV (my1 s)), .int .i64 (iV (my2 s)), .int .i64 (0), .int .u64 (0), .int .i64 (0), .string (⟨#[]⟩)]) (star (blkP (w.heap.size + 1) 97 (my3 s).cs) (star (rowP 54 7 (.slice A (mn s).toNat c) (mn s).toNat (ents (esOf (mx s 9) (mn s).toNat))) (star (blkP w.heap.size 79 zm) none_)))) from K1.out.setBlk (by repeat (first | exact none_stable | exact wrP_stable _ _ | exact blkP_stable _ _ _ | exact rowP_stable _ _ _ _ _ | apply Stable.star)) 15 (.int .i64 (iV (my2 s))))
              have HR3 := Lib.hid (x_rdi (Holds.second J1.out) (by repeat (first | exact none_stable | exact wrP_stable _ _ | exact blkP_stable _ _ _ | exact rowP_stable _ _ _ _ _ | apply Stable.star)))
              clear h5 BB k0 f0
              go_wp2_with fail
              refine HR3.out.mono ?_
              rintro e v2 ⟨rfl, h5⟩
              have K2 := Lib.hid (show Holds w.heap.size w v2 (star (blkP g 79 #[.int .i64 (iV (mx s 0)), .int .i64 (iV (mx s 1)), .int .i64 (iV (mx s 2)), .int .i64 (iV (mx s 3)), .int .i64 (iV (mx s 4)), .int .i64 (iV (mx s 5)), .int .i64 (iV (mx s 6)), .int .i64 (iV (mx s 7)), .slice A (mn s).toNat c, .int .i64 (d.k), .int .i64 (d.s), .int .i64 (d.q), .string (d.nm), .int .i64 (d.n), .int .i64 (iV (my1 s)), .int .i64 (iV (my2 s)), .int .i64 (0), .int .u64 (0), .int .i64 (0), .string (⟨#[]⟩)]) (star (blkP (w.heap.size + 1) 97 (my4 s).cs) (star (rowP 54 7 (.slice A (mn s).toNat c) (mn s).toNat (ents (esOf (mx s 9) (mn s).toNat))) (star (blkP w.heap.size 79 zm) none_)))) from h5.perm (by show star (blkP (w.heap.size + 1) 97 (my4 s).cs) _ = _; ac_rfl))
              have BB := blk_atM K2.out
              have k2 := BB.cell 16
              have f2 := BB.free 16
              have J2 := Lib.hid (show Holds w.heap.size w _ (star (blkP g 79 #[.int .i64 (iV (mx s 0)), .int .i64 (iV (mx s 1)), .int .i64 (iV (mx s 2)), .int .i64 (iV (mx s 3)), .int .i64 (iV (mx s 4)), .int .i64 (iV (mx s 5)), .int .i64 (iV (mx s 6)), .int .i64 (iV (mx s 7)), .slice A (mn s).toNat c, .int .i64 (d.k), .int .i64 (d.s), .int .i64 (d.q), .string (d.nm), .int .i64 (d.n), .int .i64 (iV (my1 s)), .int .i64 (iV (my2 s)), .int .i64 (iV (my3 s)), .int .u64 (0), .int .i64 (0), .string (⟨#[]⟩)]) (star (blkP (w.heap.size + 1) 97 (my4 s).cs) (star (rowP 54 7 (.slice A (mn s).toNat c) (mn s).toNat (ents (esOf (mx s 9) (mn s).toNat))) (star (blkP w.heap.size 79 zm) none_)))) from K2.out.setBlk (by repeat (first | exact none_stable | exact wrP_stable _ _ | exact blkP_stable _ _ _ | exact rowP_stable _ _ _ _ _ | apply Stable.star)) 16 (.int .i64 (iV (my3 s))))
              have HR4 := Lib.hid (x_rdu (Holds.second J2.out) (by repeat (first | exact none_stable | exact wrP_stable _ _ | exact blkP_stable _ _ _ | exact rowP_stable _ _ _ _ _ | apply Stable.star)))
              clear h5 BB k1 f1
              go_wp2_with fail
              refine HR4.out.mono ?_
              rintro e v3 ⟨rfl, h5⟩
              have K3 := Lib.hid (show Holds w.heap.size w v3 (star (blkP g 79 #[.int .i64 (iV (mx s 0)), .int .i64 (iV (mx s 1)), .int .i64 (iV (mx s 2)), .int .i64 (iV (mx s 3)), .int .i64 (iV (mx s 4)), .int .i64 (iV (mx s 5)), .int .i64 (iV (mx s 6)), .int .i64 (iV (mx s 7)), .slice A (mn s).toNat c, .int .i64 (d.k), .int .i64 (d.s), .int .i64 (d.q), .string (d.nm), .int .i64 (d.n), .int .i64 (iV (my1 s)), .int .i64 (iV (my2 s)), .int .i64 (iV (my3 s)), .int .u64 (0), .int .i64 (0), .string (⟨#[]⟩)]) (star (blkP (w.heap.size + 1) 97 (my5 s).cs) (star (rowP 54 7 (.slice A (mn s).toNat c) (mn s).toNat (ents (esOf (mx s 9) (mn s).toNat))) (star (blkP w.heap.size 79 zm) none_)))) from h5.perm (by show star (blkP (w.heap.size + 1) 97 (my5 s).cs) _ = _; ac_rfl))
              have BB := blk_atM K3.out
              have k3 := BB.cell 17
              have f3 := BB.free 17
              have J3 := Lib.hid (show Holds w.heap.size w _ (star (blkP g 79 #[.int .i64 (iV (mx s 0)), .int .i64 (iV (mx s 1)), .int .i64 (iV (mx s 2)), .int .i64 (iV (mx s 3)), .int .i64 (iV (mx s 4)), .int .i64 (iV (mx s 5)), .int .i64 (iV (mx s 6)), .int .i64 (iV (mx s 7)), .slice A (mn s).toNat c, .int .i64 (d.k), .int .i64 (d.s), .int .i64 (d.q), .string (d.nm), .int .i64 (d.n), .int .i64 (iV (my1 s)), .int .i64 (iV (my2 s)), .int .i64 (iV (my3 s)), .int .u64 (((uV (my4 s) : Nat) : Int)), .int .i64 (0), .string (⟨#[]⟩)]) (star (blkP (w.heap.size + 1) 97 (my5 s).cs) (star (rowP 54 7 (.slice A (mn s).toNat c) (mn s).toNat (ents (esOf (mx s 9) (mn s).toNat))) (star (blkP w.heap.size 79 zm) none_)))) from K3.out.setBlk (by repeat (first | exact none_stable | exact wrP_stable _ _ | exact blkP_stable _ _ _ | exact rowP_stable _ _ _ _ _ | apply Stable.star)) 17 (.int .u64 ((uV (my4 s) : Nat) : Int)))
              have HR5 := Lib.hid (x_rdi (Holds.second J3.out) (by repeat (first | exact none_stable | exact wrP_stable _ _ | exact blkP_stable _ _ _ | exact rowP_stable _ _ _ _ _ | apply Stable.star)))
              clear h5 BB k2 f2
              go_wp2_with fail
              refine HR5.out.mono ?_
              rintro e v4 ⟨rfl, h5⟩
              have K4 := Lib.hid (show Holds w.heap.size w v4 (star (blkP g 79 #[.int .i64 (iV (mx s 0)), .int .i64 (iV (mx s 1)), .int .i64 (iV (mx s 2)), .int .i64 (iV (mx s 3)), .int .i64 (iV (mx s 4)), .int .i64 (iV (mx s 5)), .int .i64 (iV (mx s 6)), .int .i64 (iV (mx s 7)), .slice A (mn s).toNat c, .int .i64 (d.k), .int .i64 (d.s), .int .i64 (d.q), .string (d.nm), .int .i64 (d.n), .int .i64 (iV (my1 s)), .int .i64 (iV (my2 s)), .int .i64 (iV (my3 s)), .int .u64 (((uV (my4 s) : Nat) : Int)), .int .i64 (0), .string (⟨#[]⟩)]) (star (blkP (w.heap.size + 1) 97 (my6 s).cs) (star (rowP 54 7 (.slice A (mn s).toNat c) (mn s).toNat (ents (esOf (mx s 9) (mn s).toNat))) (star (blkP w.heap.size 79 zm) none_)))) from h5.perm (by show star (blkP (w.heap.size + 1) 97 (my6 s).cs) _ = _; ac_rfl))
              have BB := blk_atM K4.out
              have k4 := BB.cell 18
              have f4 := BB.free 18
              have J4 := Lib.hid (show Holds w.heap.size w _ (star (blkP g 79 #[.int .i64 (iV (mx s 0)), .int .i64 (iV (mx s 1)), .int .i64 (iV (mx s 2)), .int .i64 (iV (mx s 3)), .int .i64 (iV (mx s 4)), .int .i64 (iV (mx s 5)), .int .i64 (iV (mx s 6)), .int .i64 (iV (mx s 7)), .slice A (mn s).toNat c, .int .i64 (d.k), .int .i64 (d.s), .int .i64 (d.q), .string (d.nm), .int .i64 (d.n), .int .i64 (iV (my1 s)), .int .i64 (iV (my2 s)), .int .i64 (iV (my3 s)), .int .u64 (((uV (my4 s) : Nat) : Int)), .int .i64 (iV (my5 s)), .string (⟨#[]⟩)]) (star (blkP (w.heap.size + 1) 97 (my6 s).cs) (star (rowP 54 7 (.slice A (mn s).toNat c) (mn s).toNat (ents (esOf (mx s 9) (mn s).toNat))) (star (blkP w.heap.size 79 zm) none_)))) from K4.out.setBlk (by repeat (first | exact none_stable | exact wrP_stable _ _ | exact blkP_stable _ _ _ | exact rowP_stable _ _ _ _ _ | apply Stable.star)) 18 (.int .i64 (iV (my5 s))))
              have HR6 := Lib.hid (x_rdt (Holds.second J4.out) (by repeat (first | exact none_stable | exact wrP_stable _ _ | exact blkP_stable _ _ _ | exact rowP_stable _ _ _ _ _ | apply Stable.star)) (Nat.le_trans (my6_size s) hs))
              clear h5 BB k3 f3
              go_wp2_with fail
              refine HR6.out.mono ?_
              rintro e v5 ⟨rfl, h5⟩
              have K5 := Lib.hid (show Holds w.heap.size w v5 (star (blkP g 79 #[.int .i64 (iV (mx s 0)), .int .i64 (iV (mx s 1)), .int .i64 (iV (mx s 2)), .int .i64 (iV (mx s 3)), .int .i64 (iV (mx s 4)), .int .i64 (iV (mx s 5)), .int .i64 (iV (mx s 6)), .int .i64 (iV (mx s 7)), .slice A (mn s).toNat c, .int .i64 (d.k), .int .i64 (d.s), .int .i64 (d.q), .string (d.nm), .int .i64 (d.n), .int .i64 (iV (my1 s)), .int .i64 (iV (my2 s)), .int .i64 (iV (my3 s)), .int .u64 (((uV (my4 s) : Nat) : Int)), .int .i64 (iV (my5 s)), .string (⟨#[]⟩)]) (star (blkP (w.heap.size + 1) 97 (my7 s).cs) (star (rowP 54 7 (.slice A (mn s).toNat c) (mn s).toNat (ents (esOf (mx s 9) (mn s).toNat))) (star (blkP w.heap.size 79 zm) none_)))) from h5.perm (by show star (blkP (w.heap.size + 1) 97 (my7 s).cs) _ = _; ac_rfl))
              have BB := blk_atM K5.out
              have k5 := BB.cell 19
              have f5 := BB.free 19
              have J5 := Lib.hid (show Holds w.heap.size w _ (star (blkP g 79 #[.int .i64 (iV (mx s 0)), .int .i64 (iV (mx s 1)), .int .i64 (iV (mx s 2)), .int .i64 (iV (mx s 3)), .int .i64 (iV (mx s 4)), .int .i64 (iV (mx s 5)), .int .i64 (iV (mx s 6)), .int .i64 (iV (mx s 7)), .slice A (mn s).toNat c, .int .i64 (d.k), .int .i64 (d.s), .int .i64 (d.q), .string (d.nm), .int .i64 (d.n), .int .i64 (iV (my1 s)), .int .i64 (iV (my2 s)), .int .i64 (iV (my3 s)), .int .u64 (((uV (my4 s) : Nat) : Int)), .int .i64 (iV (my5 s)), .string (tV (my6 s))]) (star (blkP (w.heap.size + 1) 97 (my7 s).cs) (star (rowP 54 7 (.slice A (mn s).toNat c) (mn s).toNat (ents (esOf (mx s 9) (mn s).toNat))) (star (blkP w.heap.size 79 zm) none_)))) from K5.out.setBlk (by repeat (first | exact none_stable | exact wrP_stable _ _ | exact blkP_stable _ _ _ | exact rowP_stable _ _ _ _ _ | apply Stable.star)) 19 (.string (tV (my6 s))))
              clear h5 BB k4 f4
              have J := Lib.hid (show Holds w.heap.size w (v5.setCell ⟨g, 19, none⟩ (.string (tV (my6 s)))) (star (blkP (w.heap.size + 1) 97 (my7 s).cs) (star (blkP g 79 #[.int .i64 (iV (mx s 0)), .int .i64 (iV (mx s 1)), .int .i64 (iV (mx s 2)), .int .i64 (iV (mx s 3)), .int .i64 (iV (mx s 4)), .int .i64 (iV (mx s 5)), .int .i64 (iV (mx s 6)), .int .i64 (iV (mx s 7)), .slice A (mn s).toNat c, .int .i64 (d.k), .int .i64 (d.s), .int .i64 (d.q), .string (d.nm), .int .i64 (d.n), .int .i64 (iV (my1 s)), .int .i64 (iV (my2 s)), .int .i64 (iV (my3 s)), .int .u64 (((uV (my4 s) : Nat) : Int)), .int .i64 (iV (my5 s)), .string (tV (my6 s))]) (star (rowP 54 7 (.slice A (mn s).toNat c) (mn s).toNat (ents (esOf (mx s 9) (mn s).toNat))) (star (blkP w.heap.size 79 zm) none_)))) from (Holds.second J5.out))
              have ESL := Lib.hid (show (mDec s).es.length = (mn s).toNat from esOf_len _ _)
              have MO := Lib.hid (show mOk s = (decOk (tV (my0 s)) && (decide (dV (my7 s) = 0) && ((spansL (mDec s)).all Sp.ok && (repliesL (mP s)).all Sp.ok))) by
                unfold mOk
                rw [decide_eq_true hsz, NOK.out, HZZ.out]
                rfl)
              have HDN := Lib.hid (x_rdd J.out)
              have HDS := Lib.hid HDD.out
              cases hd : decOk (tV (my0 s)) with
              | false =>
                rw [show okF false = 2 from rfl]
                have E := Lib.hid (show mOk s = false by rw [MO.out, hd]; rfl)
                clear hd
                have BZ := Lib.hid (fun w9 hk => blk_atM ((kept_all J.out (by repeat (first | exact none_stable | exact wrP_stable _ _ | exact blkP_stable _ _ _ | exact rowP_stable _ _ _ _ _ | apply Stable.star)) w9 hk).perm (show _ = star (blkP w.heap.size 79 zm) (star (blkP (w.heap.size + 1) 97 (my7 s).cs) (star (blkP g 79 #[.int .i64 (iV (mx s 0)), .int .i64 (iV (mx s 1)), .int .i64 (iV (mx s 2)), .int .i64 (iV (mx s 3)), .int .i64 (iV (mx s 4)), .int .i64 (iV (mx s 5)), .int .i64 (iV (mx s 6)), .int .i64 (iV (mx s 7)), .slice A (mn s).toNat c, .int .i64 (d.k), .int .i64 (d.s), .int .i64 (d.q), .string (d.nm), .int .i64 (d.n), .int .i64 (iV (my1 s)), .int .i64 (iV (my2 s)), .int .i64 (iV (my3 s)), .int .u64 (((uV (my4 s) : Nat) : Int)), .int .i64 (iV (my5 s)), .string (tV (my6 s))]) (star (rowP 54 7 (.slice A (mn s).toNat c) (mn s).toNat (ents (esOf (mx s 9) (mn s).toNat))) none_))) by ac_rfl)))
                have HB9 := Lib.hid (J.out).below
                go_wp2_with fail
                refine (HNO.out _).mono ?_
                rintro e w9 ⟨rfl, hk9⟩
                have BB := Lib.hid (BZ.out _ hk9)
                have K9 := Lib.hid ((hb _ HB9.out).then hk9)
                clear hk9
                go_wp2_with (refine wpList_store_row (by rfl) 79 (.tmp 2) (.tmp 133) (by rfl) w.heap.size zm (by rfl) (by rfl) 79 zm BB.out hi79 rfl zm_one ?_)
                refine bodyPost_ret (v := .tuple #[.agg zm, .int .i64 2]) (two_results (p := 2) (q := 3) (by rfl) (by rfl) (by rfl) (BB.out.setRow zm) hi79) rfl ?_
                exact dec_no E.out (K9.out.setRow (.inr (Nat.le_refl _)) zm)
              | true =>
                rw [show okF true = 0 from rfl]
                rw [hd, Bool.true_and] at MO
                clear hd
                go_wp2_with fail
                clear k5 f5
                refine HDN.out.mono ?_
                rintro e w9 ⟨rfl, hw9⟩
                have J9 := Lib.hid (show Holds w.heap.size w w9 (star (blkP (w.heap.size + 1) 97 (my7 s).cs) (star (blkP g 79 #[.int .i64 (iV (mx s 0)), .int .i64 (iV (mx s 1)), .int .i64 (iV (mx s 2)), .int .i64 (iV (mx s 3)), .int .i64 (iV (mx s 4)), .int .i64 (iV (mx s 5)), .int .i64 (iV (mx s 6)), .int .i64 (iV (mx s 7)), .slice A (mn s).toNat c, .int .i64 (d.k), .int .i64 (d.s), .int .i64 (d.q), .string (d.nm), .int .i64 (d.n), .int .i64 (iV (my1 s)), .int .i64 (iV (my2 s)), .int .i64 (iV (my3 s)), .int .u64 (((uV (my4 s) : Nat) : Int)), .int .i64 (iV (my5 s)), .string (tV (my6 s))]) (star (rowP 54 7 (.slice A (mn s).toNat c) (mn s).toNat (ents (esOf (mx s 9) (mn s).toNat))) (star (blkP w.heap.size 79 zm) none_)))) by rw [hw9]; exact J.out)
                clear hw9
                by_cases hdv : dV (my7 s) = 0
                · rw [hdv]
                  rw [decide_eq_true hdv, Bool.true_and] at MO
                  clear hdv
                  have HSP := Lib.hid (show ∀ w, Calls Try.prog 61 #[.agg #[.int .i64 (iV (mx s 0)), .int .i64 (iV (mx s 1)), .int .i64 (iV (mx s 2)), .int .i64 (iV (mx s 3)), .int .i64 (iV (mx s 4)), .int .i64 (iV (mx s 5)), .int .i64 (iV (mx s 6)), .int .i64 (iV (mx s 7)), .slice A (mn s).toNat c, .int .i64 (d.k), .int .i64 (d.s), .int .i64 (d.q), .string (d.nm), .int .i64 (d.n), .int .i64 (iV (my1 s)), .int .i64 (iV (my2 s)), .int .i64 (iV (my3 s)), .int .u64 (((uV (my4 s) : Nat) : Int)), .int .i64 (iV (my5 s)), .string (tV (my6 s))]] w (FreshSp (spansL (mDec s)) w) from fun w => by
                    have h : Calls Try.prog 61 #[.agg (mcsv (mDec s) (.slice A (mDec s).es.length c))] w (FreshSp (spansL (mDec s)) w) := spans_calls w (mDec s) A c
                    rw [ESL.out] at h
                    have hc : mcsv (mDec s) (.slice A (mn s).toNat c) = #[.int .i64 (iV (mx s 0)), .int .i64 (iV (mx s 1)), .int .i64 (iV (mx s 2)), .int .i64 (iV (mx s 3)), .int .i64 (iV (mx s 4)), .int .i64 (iV (mx s 5)), .int .i64 (iV (mx s 6)), .int .i64 (iV (mx s 7)), .slice A (mn s).toNat c, .int .i64 (d.k), .int .i64 (d.s), .int .i64 (d.q), .string (d.nm), .int .i64 (d.n), .int .i64 (iV (my1 s)), .int .i64 (iV (my2 s)), .int .i64 (iV (my3 s)), .int .u64 (((uV (my4 s) : Nat) : Int)), .int .i64 (iV (my5 s)), .string (tV (my6 s))] := by rw [← HDS.out]; rfl
                    rw [hc] at h
                    exact h)
                  have HRP := Lib.hid (show ∀ w, Calls Try.prog 62 #[.agg #[.int .i64 (iV (my1 s)), .int .i64 (iV (my2 s)), .int .i64 (iV (my3 s)), .int .u64 ((uV (my4 s) : Nat) : Int), .int .i64 (iV (my5 s))]] w (FreshSp (repliesL (mP s)) w) from fun w => replies_calls w (mP s))
                  have BJ := Lib.hid (blk_atM (Holds.second J9.out))
                  go_wp2_with (refine wpList_load_guarded 79 (by rfl) (.tmp 6) (by rfl) g (by rfl) 79 #[.int .i64 (iV (mx s 0)), .int .i64 (iV (mx s 1)), .int .i64 (iV (mx s 2)), .int .i64 (iV (mx s 3)), .int .i64 (iV (mx s 4)), .int .i64 (iV (mx s 5)), .int .i64 (iV (mx s 6)), .int .i64 (iV (mx s 7)), .slice A (mn s).toNat c, .int .i64 (d.k), .int .i64 (d.s), .int .i64 (d.q), .string (d.nm), .int .i64 (d.n), .int .i64 (iV (my1 s)), .int .i64 (iV (my2 s)), .int .i64 (iV (my3 s)), .int .u64 (((uV (my4 s) : Nat) : Int)), .int .i64 (iV (my5 s)), .string (tV (my6 s))] (0, 0) _ BJ.out hu rfl hi79 ?_)
                  refine (HSP.out _).mono ?_
                  rintro e wa ⟨ga, rfl, hga, hka, _⟩
                  have JA := Lib.hid (J9.out.kept (by repeat (first | exact none_stable | exact wrP_stable _ _ | exact blkP_stable _ _ _ | exact rowP_stable _ _ _ _ _ | apply Stable.star)) hka)
                  have HW := Lib.hid (mwithin_calls wa _ (spansL (mDec s)).length (spansL (mDec s)) (sp_blk hga) (by rw [spans_len]; omega))
                  clear hga hka
                  go_wp2_with fail
                  refine HW.out.mono ?_
                  rintro e wb ⟨rfl, hkb⟩
                  have JB := Lib.hid (JA.out.kept (by repeat (first | exact none_stable | exact wrP_stable _ _ | exact blkP_stable _ _ _ | exact rowP_stable _ _ _ _ _ | apply Stable.star)) hkb)
                  clear hkb
                  cases hsp : (spansL (mDec s)).all Sp.ok with
                  | false =>
                    have E := Lib.hid (show mOk s = false by rw [MO.out, hsp]; rfl)
                    clear hsp
                    have BZ := Lib.hid (fun w9 hk => blk_atM ((kept_all JB.out (by repeat (first | exact none_stable | exact wrP_stable _ _ | exact blkP_stable _ _ _ | exact rowP_stable _ _ _ _ _ | apply Stable.star)) w9 hk).perm (show _ = star (blkP w.heap.size 79 zm) (star (blkP (w.heap.size + 1) 97 (my7 s).cs) (star (blkP g 79 #[.int .i64 (iV (mx s 0)), .int .i64 (iV (mx s 1)), .int .i64 (iV (mx s 2)), .int .i64 (iV (mx s 3)), .int .i64 (iV (mx s 4)), .int .i64 (iV (mx s 5)), .int .i64 (iV (mx s 6)), .int .i64 (iV (mx s 7)), .slice A (mn s).toNat c, .int .i64 (d.k), .int .i64 (d.s), .int .i64 (d.q), .string (d.nm), .int .i64 (d.n), .int .i64 (iV (my1 s)), .int .i64 (iV (my2 s)), .int .i64 (iV (my3 s)), .int .u64 (((uV (my4 s) : Nat) : Int)), .int .i64 (iV (my5 s)), .string (tV (my6 s))]) (star (rowP 54 7 (.slice A (mn s).toNat c) (mn s).toNat (ents (esOf (mx s 9) (mn s).toNat))) none_))) by ac_rfl)))
                    have HB9 := Lib.hid (JB.out).below
                    go_wp2_with fail
                    refine (HNO.out _).mono ?_
                    rintro e w9 ⟨rfl, hk9⟩
                    have BB := Lib.hid (BZ.out _ hk9)
                    have K9 := Lib.hid ((hb _ HB9.out).then hk9)
                    clear hk9
                    go_wp2_with (refine wpList_store_row (by rfl) 79 (.tmp 2) (.tmp 133) (by rfl) w.heap.size zm (by rfl) (by rfl) 79 zm BB.out hi79 rfl zm_one ?_)
                    refine bodyPost_ret (v := .tuple #[.agg zm, .int .i64 2]) (two_results (p := 2) (q := 3) (by rfl) (by rfl) (by rfl) (BB.out.setRow zm) hi79) rfl ?_
                    exact dec_no E.out (K9.out.setRow (.inr (Nat.le_refl _)) zm)
                  | true =>
                    rw [hsp, Bool.true_and] at MO
                    clear hsp
                    have BB := blk_atM (Holds.second JB.out)
                    have q14 := BB.cell 14
                    have q15 := BB.cell 15
                    have q16 := BB.cell 16
                    have q17 := BB.cell 17
                    have q18 := BB.cell 18
                    clear BB
                    go_wp2_with fail
                    refine (HRP.out _).mono ?_
                    rintro e wc ⟨gc, rfl, hgc, hkc, _⟩
                    have JC := Lib.hid (JB.out.kept (by repeat (first | exact none_stable | exact wrP_stable _ _ | exact blkP_stable _ _ _ | exact rowP_stable _ _ _ _ _ | apply Stable.star)) hkc)
                    have HW2 := Lib.hid (mwithin_calls wc _ (repliesL (mP s)).length (repliesL (mP s)) (sp_blk hgc) (by simp [repliesL]))
                    clear hgc hkc q14 q15 q16 q17 q18
                    go_wp2_with fail
                    refine HW2.out.mono ?_
                    rintro e wd ⟨rfl, hkd⟩
                    have JD := Lib.hid (JC.out.kept (by repeat (first | exact none_stable | exact wrP_stable _ _ | exact blkP_stable _ _ _ | exact rowP_stable _ _ _ _ _ | apply Stable.star)) hkd)
                    clear hkd
                    cases hrp : (repliesL (mP s)).all Sp.ok with
                    | false =>
                      have E := Lib.hid (show mOk s = false by rw [MO.out, hrp])
                      clear hrp
                      have BZ := Lib.hid (fun w9 hk => blk_atM ((kept_all JD.out (by repeat (first | exact none_stable | exact wrP_stable _ _ | exact blkP_stable _ _ _ | exact rowP_stable _ _ _ _ _ | apply Stable.star)) w9 hk).perm (show _ = star (blkP w.heap.size 79 zm) (star (blkP (w.heap.size + 1) 97 (my7 s).cs) (star (blkP g 79 #[.int .i64 (iV (mx s 0)), .int .i64 (iV (mx s 1)), .int .i64 (iV (mx s 2)), .int .i64 (iV (mx s 3)), .int .i64 (iV (mx s 4)), .int .i64 (iV (mx s 5)), .int .i64 (iV (mx s 6)), .int .i64 (iV (mx s 7)), .slice A (mn s).toNat c, .int .i64 (d.k), .int .i64 (d.s), .int .i64 (d.q), .string (d.nm), .int .i64 (d.n), .int .i64 (iV (my1 s)), .int .i64 (iV (my2 s)), .int .i64 (iV (my3 s)), .int .u64 (((uV (my4 s) : Nat) : Int)), .int .i64 (iV (my5 s)), .string (tV (my6 s))]) (star (rowP 54 7 (.slice A (mn s).toNat c) (mn s).toNat (ents (esOf (mx s 9) (mn s).toNat))) none_))) by ac_rfl)))
                      have HB9 := Lib.hid (JD.out).below
                      go_wp2_with fail
                      refine (HNO.out _).mono ?_
                      rintro e w9 ⟨rfl, hk9⟩
                      have BB := Lib.hid (BZ.out _ hk9)
                      have K9 := Lib.hid ((hb _ HB9.out).then hk9)
                      clear hk9
                      go_wp2_with (refine wpList_store_row (by rfl) 79 (.tmp 2) (.tmp 133) (by rfl) w.heap.size zm (by rfl) (by rfl) 79 zm BB.out hi79 rfl zm_one ?_)
                      refine bodyPost_ret (v := .tuple #[.agg zm, .int .i64 2]) (two_results (p := 2) (q := 3) (by rfl) (by rfl) (by rfl) (BB.out.setRow zm) hi79) rfl ?_
                      exact dec_no E.out (K9.out.setRow (.inr (Nat.le_refl _)) zm)
                    | true =>
                      have E := Lib.hid (show mOk s = true by rw [MO.out, hrp])
                      clear hrp
                      have BJD := Lib.hid (blk_atM (Holds.second JD.out))
                      have BZD := Lib.hid (blk_atM (JD.out.perm (show _ = star (blkP w.heap.size 79 zm) (star (blkP (w.heap.size + 1) 97 (my7 s).cs) (star (blkP g 79 #[.int .i64 (iV (mx s 0)), .int .i64 (iV (mx s 1)), .int .i64 (iV (mx s 2)), .int .i64 (iV (mx s 3)), .int .i64 (iV (mx s 4)), .int .i64 (iV (mx s 5)), .int .i64 (iV (mx s 6)), .int .i64 (iV (mx s 7)), .slice A (mn s).toNat c, .int .i64 (d.k), .int .i64 (d.s), .int .i64 (d.q), .string (d.nm), .int .i64 (d.n), .int .i64 (iV (my1 s)), .int .i64 (iV (my2 s)), .int .i64 (iV (my3 s)), .int .u64 (((uV (my4 s) : Nat) : Int)), .int .i64 (iV (my5 s)), .string (tV (my6 s))]) (star (rowP 54 7 (.slice A (mn s).toNat c) (mn s).toNat (ents (esOf (mx s 9) (mn s).toNat))) none_))) by ac_rfl)))
                      have HF := Lib.hid (held_row (JD.out.perm (show _ = star (blkP w.heap.size 79 zm) (star (blkP (w.heap.size + 1) 97 (my7 s).cs) (star (blkP g 79 #[.int .i64 (iV (mx s 0)), .int .i64 (iV (mx s 1)), .int .i64 (iV (mx s 2)), .int .i64 (iV (mx s 3)), .int .i64 (iV (mx s 4)), .int .i64 (iV (mx s 5)), .int .i64 (iV (mx s 6)), .int .i64 (iV (mx s 7)), .slice A (mn s).toNat c, .int .i64 (d.k), .int .i64 (d.s), .int .i64 (d.q), .string (d.nm), .int .i64 (d.n), .int .i64 (iV (my1 s)), .int .i64 (iV (my2 s)), .int .i64 (iV (my3 s)), .int .u64 (((uV (my4 s) : Nat) : Int)), .int .i64 (iV (my5 s)), .string (tV (my6 s))]) (star (rowP 54 7 (.slice A (mn s).toNat c) (mn s).toNat (ents (esOf (mx s 9) (mn s).toNat))) none_))) by ac_rfl)) (by repeat (first | exact none_stable | exact wrP_stable _ _ | exact blkP_stable _ _ _ | exact rowP_stable _ _ _ _ _ | apply Stable.star)) #[.int .i64 (iV (mx s 0)), .int .i64 (iV (mx s 1)), .int .i64 (iV (mx s 2)), .int .i64 (iV (mx s 3)), .int .i64 (iV (mx s 4)), .int .i64 (iV (mx s 5)), .int .i64 (iV (mx s 6)), .int .i64 (iV (mx s 7)), .slice A (mn s).toNat c, .int .i64 (d.k), .int .i64 (d.s), .int .i64 (d.q), .string (d.nm), .int .i64 (d.n), .int .i64 (iV (my1 s)), .int .i64 (iV (my2 s)), .int .i64 (iV (my3 s)), .int .u64 (((uV (my4 s) : Nat) : Int)), .int .i64 (iV (my5 s)), .string (tV (my6 s))])
                      go_wp2_with (first | refine wpList_load_row (by rfl) 79 (.tmp 6) (by rfl) g (by rfl) 79 #[.int .i64 (iV (mx s 0)), .int .i64 (iV (mx s 1)), .int .i64 (iV (mx s 2)), .int .i64 (iV (mx s 3)), .int .i64 (iV (mx s 4)), .int .i64 (iV (mx s 5)), .int .i64 (iV (mx s 6)), .int .i64 (iV (mx s 7)), .slice A (mn s).toNat c, .int .i64 (d.k), .int .i64 (d.s), .int .i64 (d.q), .string (d.nm), .int .i64 (d.n), .int .i64 (iV (my1 s)), .int .i64 (iV (my2 s)), .int .i64 (iV (my3 s)), .int .u64 (((uV (my4 s) : Nat) : Int)), .int .i64 (iV (my5 s)), .string (tV (my6 s))] (0, 0) _ BJD.out hu rfl hi79 ?_ | refine wpList_store_row (by rfl) 79 (.tmp 2) (.tmp 135) (by rfl) w.heap.size #[.int .i64 (iV (mx s 0)), .int .i64 (iV (mx s 1)), .int .i64 (iV (mx s 2)), .int .i64 (iV (mx s 3)), .int .i64 (iV (mx s 4)), .int .i64 (iV (mx s 5)), .int .i64 (iV (mx s 6)), .int .i64 (iV (mx s 7)), .slice A (mn s).toNat c, .int .i64 (d.k), .int .i64 (d.s), .int .i64 (d.q), .string (d.nm), .int .i64 (d.n), .int .i64 (iV (my1 s)), .int .i64 (iV (my2 s)), .int .i64 (iV (my3 s)), .int .u64 (((uV (my4 s) : Nat) : Int)), .int .i64 (iV (my5 s)), .string (tV (my6 s))] (by rfl) (by rfl) 79 zm BZD.out hi79 rfl (by simp [Value.oneCell']) ?_)
                      refine bodyPost_ret (v := .tuple #[.agg #[.int .i64 (iV (mx s 0)), .int .i64 (iV (mx s 1)), .int .i64 (iV (mx s 2)), .int .i64 (iV (mx s 3)), .int .i64 (iV (mx s 4)), .int .i64 (iV (mx s 5)), .int .i64 (iV (mx s 6)), .int .i64 (iV (mx s 7)), .slice A (mn s).toNat c, .int .i64 (d.k), .int .i64 (d.s), .int .i64 (d.q), .string (d.nm), .int .i64 (d.n), .int .i64 (iV (my1 s)), .int .i64 (iV (my2 s)), .int .i64 (iV (my3 s)), .int .u64 (((uV (my4 s) : Nat) : Int)), .int .i64 (iV (my5 s)), .string (tV (my6 s))], .int .i64 0]) (two_results (p := 2) (q := 3) (by rfl) (by rfl) (by rfl) (blk_atM HF.out) hi79) rfl ?_
                      have hcf : mval (mDec s) A c = .agg #[.int .i64 (iV (mx s 0)), .int .i64 (iV (mx s 1)), .int .i64 (iV (mx s 2)), .int .i64 (iV (mx s 3)), .int .i64 (iV (mx s 4)), .int .i64 (iV (mx s 5)), .int .i64 (iV (mx s 6)), .int .i64 (iV (mx s 7)), .slice A (mn s).toNat c, .int .i64 (d.k), .int .i64 (d.s), .int .i64 (d.q), .string (d.nm), .int .i64 (d.n), .int .i64 (iV (my1 s)), .int .i64 (iV (my2 s)), .int .i64 (iV (my3 s)), .int .u64 (((uV (my4 s) : Nat) : Int)), .int .i64 (iV (my5 s)), .string (tV (my6 s))] := by
                        show Value.agg (mcsv (mDec s) (.slice A (mDec s).es.length c)) = _
                        rw [ESL.out, ← HDS.out]
                        rfl
                      unfold DecPost
                      rw [mR_ok E.out, E.out]
                      refine ⟨A, c, by rw [hcf]; rfl, ?_, by rw [ESL.out]; exact hn4, hb _ HF.out.below⟩
                      rw [ESL.out]
                      exact (HF.out.perm (show _ = star (rowP 54 7 (.slice A (mn s).toNat c) (mn s).toNat (ents (esOf (mx s 9) (mn s).toNat))) (star (blkP w.heap.size 79 #[.int .i64 (iV (mx s 0)), .int .i64 (iV (mx s 1)), .int .i64 (iV (mx s 2)), .int .i64 (iV (mx s 3)), .int .i64 (iV (mx s 4)), .int .i64 (iV (mx s 5)), .int .i64 (iV (mx s 6)), .int .i64 (iV (mx s 7)), .slice A (mn s).toNat c, .int .i64 (d.k), .int .i64 (d.s), .int .i64 (d.q), .string (d.nm), .int .i64 (d.n), .int .i64 (iV (my1 s)), .int .i64 (iV (my2 s)), .int .i64 (iV (my3 s)), .int .u64 (((uV (my4 s) : Nat) : Int)), .int .i64 (iV (my5 s)), .string (tV (my6 s))]) (star (blkP (w.heap.size + 1) 97 (my7 s).cs) (star (blkP g 79 #[.int .i64 (iV (mx s 0)), .int .i64 (iV (mx s 1)), .int .i64 (iV (mx s 2)), .int .i64 (iV (mx s 3)), .int .i64 (iV (mx s 4)), .int .i64 (iV (mx s 5)), .int .i64 (iV (mx s 6)), .int .i64 (iV (mx s 7)), .slice A (mn s).toNat c, .int .i64 (d.k), .int .i64 (d.s), .int .i64 (d.q), .string (d.nm), .int .i64 (d.n), .int .i64 (iV (my1 s)), .int .i64 (iV (my2 s)), .int .i64 (iV (my3 s)), .int .u64 (((uV (my4 s) : Nat) : Int)), .int .i64 (iV (my5 s)), .string (tV (my6 s))]) none_))) by ac_rfl)).row.src
                · have hd2 := dV_two hdv
                  rw [hd2]
                  have E := Lib.hid (show mOk s = false by rw [MO.out, decide_eq_false hdv]; rfl)
                  clear hdv hd2
                  have BZ := Lib.hid (fun w9 hk => blk_atM ((kept_all J9.out (by repeat (first | exact none_stable | exact wrP_stable _ _ | exact blkP_stable _ _ _ | exact rowP_stable _ _ _ _ _ | apply Stable.star)) w9 hk).perm (show _ = star (blkP w.heap.size 79 zm) (star (blkP (w.heap.size + 1) 97 (my7 s).cs) (star (blkP g 79 #[.int .i64 (iV (mx s 0)), .int .i64 (iV (mx s 1)), .int .i64 (iV (mx s 2)), .int .i64 (iV (mx s 3)), .int .i64 (iV (mx s 4)), .int .i64 (iV (mx s 5)), .int .i64 (iV (mx s 6)), .int .i64 (iV (mx s 7)), .slice A (mn s).toNat c, .int .i64 (d.k), .int .i64 (d.s), .int .i64 (d.q), .string (d.nm), .int .i64 (d.n), .int .i64 (iV (my1 s)), .int .i64 (iV (my2 s)), .int .i64 (iV (my3 s)), .int .u64 (((uV (my4 s) : Nat) : Int)), .int .i64 (iV (my5 s)), .string (tV (my6 s))]) (star (rowP 54 7 (.slice A (mn s).toNat c) (mn s).toNat (ents (esOf (mx s 9) (mn s).toNat))) none_))) by ac_rfl)))
                  have HB9 := Lib.hid (J9.out).below
                  go_wp2_with fail
                  refine (HNO.out _).mono ?_
                  rintro e w9 ⟨rfl, hk9⟩
                  have BB := Lib.hid (BZ.out _ hk9)
                  have K9 := Lib.hid ((hb _ HB9.out).then hk9)
                  clear hk9
                  go_wp2_with (refine wpList_store_row (by rfl) 79 (.tmp 2) (.tmp 133) (by rfl) w.heap.size zm (by rfl) (by rfl) 79 zm BB.out hi79 rfl zm_one ?_)
                  refine bodyPost_ret (v := .tuple #[.agg zm, .int .i64 2]) (two_results (p := 2) (q := 3) (by rfl) (by rfl) (by rfl) (BB.out.setRow zm) hi79) rfl ?_
                  exact dec_no E.out (K9.out.setRow (.inr (Nat.le_refl _)) zm)
        · have E := Lib.hid (show mOk s = false by
            have : nOk s = false := by
              unfold nOk
              by_cases h0 : 0 ≤ mn s
              · rw [decide_eq_false (show ¬ mn s ≤ 4096 from fun h => hn ⟨h0, h⟩), Bool.and_false]
              · rw [decide_eq_false h0]; rfl
            unfold mOk
            rw [this]
            simp)
          have BZ := Lib.hid (show ∀ w9, Keep Nothing w8 w9 → Blk w9 w.heap.size 79 zm from fun w9 hk => blk_atM ((H9.out.kept (by repeat (first | exact none_stable | exact wrP_stable _ _ | exact blkP_stable _ _ _ | exact rowP_stable _ _ _ _ _ | apply Stable.star)) hk).perm (show _ = star (blkP w.heap.size 79 zm) (star (blkP (w.heap.size + 1) 97 (mx s 9).cs) (star (blkP g 79 #[.int .i64 (iV (mx s 0)), .int .i64 (iV (mx s 1)), .int .i64 (iV (mx s 2)), .int .i64 (iV (mx s 3)), .int .i64 (iV (mx s 4)), .int .i64 (iV (mx s 5)), .int .i64 (iV (mx s 6)), .int .i64 (iV (mx s 7)), .slice none 0 0, .int .i64 (0), .int .i64 (0), .int .i64 (0), .string (⟨#[]⟩), .int .i64 (0), .int .i64 (0), .int .i64 (0), .int .i64 (0), .int .u64 (0), .int .i64 (0), .string (⟨#[]⟩)]) none_)) by ac_rfl)))
          have HB9 := Lib.hid H9.out.below
          rcases (show decide (mn s < 0) = true ∨ (decide (mn s < 0) = false ∧ decide (4096 < mn s) = true) by
            by_cases h0 : mn s < 0
            · exact .inl (decide_eq_true h0)
            · exact .inr ⟨decide_eq_false h0, decide_eq_true (by omega)⟩) with g1 | ⟨g1, g2⟩
          all_goals clear hn
          all_goals go_wp2_with fail
          all_goals refine (HNO.out _).mono ?_
          all_goals rintro e w9 ⟨rfl, hk9⟩
          all_goals have BB := Lib.hid (BZ.out _ hk9)
          all_goals have K9 := Lib.hid ((hb _ HB9.out).then hk9)
          all_goals clear hk9
          all_goals go_wp2_with (refine wpList_store_row (by rfl) 79 (.tmp 2) (.tmp 56) (by rfl) w.heap.size zm (by rfl) (by rfl) 79 zm BB.out hi79 rfl zm_one ?_)
          all_goals refine bodyPost_ret (v := .tuple #[.agg zm, .int .i64 2]) (two_results (p := 2) (q := 3) (by rfl) (by rfl) (by rfl) (BB.out.setRow zm) hi79) rfl ?_
          all_goals exact dec_no E.out (K9.out.setRow (.inr (Nat.le_refl _)) zm)
  · have hsz2 : decide (524288 < (s.size : Int)) = true := decide_eq_true (by omega)
    have E := Lib.hid (show mOk s = false by unfold mOk; rw [decide_eq_false hsz]; rfl)
    go_enter Try.func47, Try.ntmps47
    go_wp2_with fail
    refine (HNO.out _).mono ?_
    rintro e w1 ⟨rfl, hk1⟩
    have H1 := Lib.hid (H0.out.kept (by repeat (first | exact none_stable | exact wrP_stable _ _ | exact blkP_stable _ _ _ | exact rowP_stable _ _ _ _ _ | apply Stable.star)) hk1)
    have BZ := Lib.hid (blk_atM H1.out)
    have HF := Lib.hid (held_row H1.out (by repeat (first | exact none_stable | exact wrP_stable _ _ | exact blkP_stable _ _ _ | exact rowP_stable _ _ _ _ _ | apply Stable.star)) zm)
    clear hk1
    go_wp2_with (refine wpList_store_row (by rfl) 79 (.tmp 2) (.tmp 19) (by rfl) w.heap.size zm (by rfl) (by rfl) 79 zm BZ.out hi79 rfl zm_one ?_)
    refine bodyPost_ret (v := .tuple #[.agg zm, .int .i64 2]) (two_results (p := 2) (q := 3) (by rfl) (by rfl) (by rfl) (blk_atM HF.out) hi79) rfl ?_
    exact dec_no E.out (hb _ HF.out.below)
end Go.Proofs.Ytjojibgihoebaaa.A
