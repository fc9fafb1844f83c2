/-
  msgs.Encode.
-/
import Derived.Test.YtjojibgihoebaaaN2
namespace Go.Proofs.Ytjojibgihoebaaa.A
open Go.RowKit Go.Proofs.Ytjojibgihoebaaa.U
set_option linter.unusedVariables false
set_option linter.unusedSimpArgs false
set_option maxRecDepth 100000

theorem msgOk_f {m : Msg} (h : mayM m = false) : msgOk m = false ∧ msgS m = ByteArray.empty := by
  have e : msgOk m = false := by unfold msgOk; rw [h]; rfl
  exact ⟨e, by unfold msgS; rw [e]; rfl⟩
theorem blk_atM {B : Nat} {w0 w : World} {Q : SP} {b t : Nat} {cs : Array Value} (h : Holds B w0 w (star (blkP b t cs) Q)) : Blk w b t cs := by
  obtain ⟨F, hb, _⟩ := h.left
  exact hb
set_option maxHeartbeats 25600000 in
theorem menc_calls (w : World) (m : Msg) (A : Option Addr) (c : Nat) (hs : U.Src w A 7 m.es.length (ents m.es)) (hm : MIn m) :
    Calls Try.prog 44 #[mval m A c] w (fun e w' => e = .returned (.tuple #[.string (msgS m), .int .i64 (okE (msgOk m))]) ∧ Keep Nothing w w') := by
  have hu := Try.underlying79
  have hu77 := Try.underlying77
  have hu106 := Try.underlying106
  have hu54 := Try.underlying54
  have hu52 := Try.underlying52
  have hb : ∀ w', Below w.heap.size w w' → Keep Nothing w w' := fun w' h => Keep.of_below h _
  have HM := Lib.hid hm
  have HS := Lib.hid hs
  have H0 := Lib.hid (Holds.newBlk (Holds.start w) none_stable 79 (mcs m A c))
  have HSP := Lib.hid (fun w => spans_calls w m A c)
  have HRP := Lib.hid (fun w => replies_calls w m.p)
  have CEL := Lib.hid (show ∀ X (P : SP), Holds w.heap.size w X (star (blkP w.heap.size 79 (mcs m A c)) P) → X.cell? ⟨w.heap.size, 0, none⟩ = some (.int .i64 m.k) ∧ X.cell? ⟨w.heap.size, 1, none⟩ = some (.int .i64 m.f) ∧ X.cell? ⟨w.heap.size, 2, none⟩ = some (.int .i64 m.t) ∧ X.cell? ⟨w.heap.size, 3, none⟩ = some (.int .i64 m.b) ∧ X.cell? ⟨w.heap.size, 4, none⟩ = some (.int .i64 m.s) ∧ X.cell? ⟨w.heap.size, 5, none⟩ = some (.int .i64 m.r) ∧ X.cell? ⟨w.heap.size, 6, none⟩ = some (.int .i64 m.z) ∧ X.cell? ⟨w.heap.size, 7, none⟩ = some (.int .i64 m.e) ∧ X.cell? ⟨w.heap.size, 8, none⟩ = some (.slice A m.es.length c) ∧ X.cell? ⟨w.heap.size, 9, none⟩ = some (.int .i64 m.c.k) ∧ X.cell? ⟨w.heap.size, 10, none⟩ = some (.int .i64 m.c.s) ∧ X.cell? ⟨w.heap.size, 11, none⟩ = some (.int .i64 m.c.q) ∧ X.cell? ⟨w.heap.size, 12, none⟩ = some (.string m.c.nm) ∧ X.cell? ⟨w.heap.size, 13, none⟩ = some (.int .i64 m.c.n) ∧ X.cell? ⟨w.heap.size, 14, none⟩ = some (.int .i64 m.p.s) ∧ X.cell? ⟨w.heap.size, 15, none⟩ = some (.int .i64 m.p.q) ∧ X.cell? ⟨w.heap.size, 16, none⟩ = some (.int .i64 m.p.e) ∧ X.cell? ⟨w.heap.size, 17, none⟩ = some (.int .u64 m.p.k) ∧ X.cell? ⟨w.heap.size, 18, none⟩ = some (.int .i64 m.p.n) ∧ X.cell? ⟨w.heap.size, 19, none⟩ = some (.string m.x) from fun X P h => by
    have B := blk_atM h
    exact ⟨B.cell 0, B.cell 1, B.cell 2, B.cell 3, B.cell 4, B.cell 5, B.cell 6, B.cell 7, B.cell 8, B.cell 9, B.cell 10, B.cell 11, B.cell 12, B.cell 13, B.cell 14, B.cell 15, B.cell 16, B.cell 17, B.cell 18, B.cell 19⟩)
  clear hs hm
  have X0 := Lib.hid (blk_atM H0.out)
  have hi79 : (Try.prog.info? 79).map (·.size) = some 20 := by kernel_rfl
  have hsl := spans_len m
  go_enter Try.func44, Try.ntmps44
  go_wp2_with (refine wpList_load_row (by rfl) 79 (.tmp 1) (by rfl) w.heap.size (by rfl) 79 (mcs m A c) (0, 0) _ X0.out hu rfl hi79 ?_)
  refine (HSP.out _).mono ?_
  rintro e w1 ⟨g1, rfl, hg1, hk1, _⟩
  have H1 := Lib.hid (H0.out.kept (by repeat (first | exact none_stable | exact wrP_stable _ _ | exact blkP_stable _ _ _ | exact rowP_stable _ _ _ _ _ | apply Stable.star)) hk1)
  have HW := Lib.hid (mwithin_calls w1 _ (spansL m).length (spansL m) (sp_blk hg1) (by rw [spans_len]; omega))
  clear hg1 hk1
  go_wp2_with fail
  refine HW.out.mono ?_
  rintro e w2 ⟨rfl, hk2⟩
  have H2 := Lib.hid (H1.out.kept (by repeat (first | exact none_stable | exact wrP_stable _ _ | exact blkP_stable _ _ _ | exact rowP_stable _ _ _ _ _ | apply Stable.star)) hk2)
  clear hk2
  cases hsp : (spansL m).all Sp.ok with
  | false =>
    have E := Lib.hid (msgOk_f (m := m) (by unfold mayM; rw [hsp]; rfl))
    clear hsp
    go_wp2_with fail
    go_ret2
    exact ⟨by rw [E.out.1, E.out.2]; rfl, hb _ H2.out.below⟩
  | true =>
    have HSL := Lib.hid (span_len hsp)
    obtain ⟨-, -, -, -, -, -, -, -, -, -, -, -, -, -, y14, y15, y16, y17, y18, -⟩ := CEL.out _ _ H2.out
    go_wp2_with fail
    refine (HRP.out _).mono ?_
    rintro e w3 ⟨g3, rfl, hg3, hk3, _⟩
    have H3 := Lib.hid (H2.out.kept (by repeat (first | exact none_stable | exact wrP_stable _ _ | exact blkP_stable _ _ _ | exact rowP_stable _ _ _ _ _ | apply Stable.star)) hk3)
    have HW2 := Lib.hid (mwithin_calls w3 _ (repliesL m.p).length (repliesL m.p) (sp_blk hg3) (by simp [repliesL]))
    clear hg3 hk3 y14 y15 y16 y17 y18
    go_wp2_with fail
    refine HW2.out.mono ?_
    rintro e w4 ⟨rfl, hk4⟩
    have H4 := Lib.hid (H3.out.kept (by repeat (first | exact none_stable | exact wrP_stable _ _ | exact blkP_stable _ _ _ | exact rowP_stable _ _ _ _ _ | apply Stable.star)) hk4)
    clear hk4
    cases hrp : (repliesL m.p).all Sp.ok with
    | false =>
      have E := Lib.hid (msgOk_f (m := m) (by unfold mayM; rw [hsp, hrp]; rfl))
      clear hsp hrp
      go_wp2_with fail
      go_ret2
      exact ⟨by rw [E.out.1, E.out.2]; rfl, hb _ H4.out.below⟩
    | true =>
      obtain ⟨-, -, -, -, -, -, -, -, -, -, -, -, -, -, -, -, -, -, -, y19⟩ := CEL.out _ _ H4.out
      by_cases hx : m.x.size ≤ 524288
      · have hx' : decide (524288 < m.x.size) = false := decide_eq_false (by omega)
        have EM := Lib.hid (show mayM m = (m.es.all entB && mayB m.c) by unfold mayM; rw [hsp, hrp, decide_eq_true hx]; simp)
        clear hsp hrp
        go_wp2_with fail
        refine (new_calls _).mono ?_
        rintro e w5 ⟨rfl, hw5⟩
        have H5 := Lib.hid (show Holds w.heap.size w w5 (star (blkP w.heap.size 79 (mcs m A c)) (star (wrP w4.heap.size []) none_)) by rw [hw5]; exact (Holds.newWr H4.out (by repeat (first | exact none_stable | exact wrP_stable _ _ | exact blkP_stable _ _ _ | exact rowP_stable _ _ _ _ _ | apply Stable.star))).perm (by ac_rfl))
        clear hw5 y19
        have X5 := Lib.hid (blk_atM H5.out)
        go_wp2_with (refine wpList_load_row (by rfl) 79 (.tmp 1) (by rfl) w.heap.size (by rfl) 79 (mcs m A c) (0, 0) _ X5.out hu rfl hi79 ?_)
        refine (HSP.out _).mono ?_
        rintro e w6 ⟨g6, rfl, hg6, hk6, hg6'⟩
        have h6 := (H5.out.kept (by repeat (first | exact none_stable | exact wrP_stable _ _ | exact blkP_stable _ _ _ | exact rowP_stable _ _ _ _ _ | apply Stable.star)) hk6)
        have H6 := Lib.hid (show Holds w.heap.size w w6 (star (wrP w4.heap.size (hdL ((spansL m).take 0))) (star (blkP g6 106 (sps (spansL m)).toArray) (star (blkP w.heap.size 79 (mcs m A c)) none_))) from
          (H5.out.more (P := blkP g6 106 (sps (spansL m)).toArray) (by repeat (first | exact none_stable | exact wrP_stable _ _ | exact blkP_stable _ _ _ | exact rowP_stable _ _ _ _ _ | apply Stable.star)) (F := fun k => k = g6) ⟨hg6, fun _ => Iff.rfl⟩ hk6 (fun k hk => by rw [hk]; exact hg6')).perm (by rw [List.take_zero]; show _ = star (wrP w4.heap.size []) _; ac_rfl))
        clear hg6 hk6 hg6' h6
        generalize hg0 : w4.heap.size = b1 at *
        clear hg0
        go_wp2_with fail
        go_loopw [36] (fun v wr => ∃ k : Nat, k ≤ 9 ∧ v = .int .i64 k ∧ Holds w.heap.size w wr (star (wrP b1 (hdL ((spansL m).take k))) (star (blkP g6 106 (sps (spansL m)).toArray) (star (blkP w.heap.size 79 (mcs m A c)) none_)))) (fun v _ => 9 - (intOf v).toNat)
        case atStart => exact ⟨0, by omega, by simp, H6.out⟩
        case round =>
          obtain ⟨k, hk, rfl, hh⟩ := hrel
          have H := Lib.hid hh
          clear hh
          have ST := Lib.hid (show Stable (star (blkP g6 106 (sps (spansL m)).toArray) (star (blkP w.heap.size 79 (mcs m A c)) none_)) from (by repeat (first | exact none_stable | exact wrP_stable _ _ | exact blkP_stable _ _ _ | exact rowP_stable _ _ _ _ _ | apply Stable.star)))
          by_cases hlt : k < 9
          · obtain ⟨ad, x, e0, hx1, hat⟩ := sp_at (L := spansL m) (k := k) (sp_blk (blk_atM (H.out.perm (show _ = star (blkP g6 106 (sps (spansL m)).toArray) (star (wrP b1 (hdL ((spansL m).take k))) (star (blkP w.heap.size 79 (mcs m A c)) none_)) by ac_rfl)))) hlt
            injection e0 with e0
            subst e0
            rw [addAt, Nat.zero_add] at hat
            obtain ⟨c0, c1, c2⟩ := hat
            have NX := Lib.hid (hdL_next hx1)
            have HL := hdL_len HM.out.sp k
            have HI := Lib.hid (x_int (H.out.alloc ((wrP_stable _ _).star ST.out) (.cells #[.int .i64 x.n, .int .i64 x.lo, .int .i64 x.hi] 106)) ST.out x.n (HM.out.sp x (List.mem_of_getElem? hx1)) (by omega))
            have hlt2 : (k : Int) < ((spansL m).length : Int) := by rw [spans_len]; omega
            clear hx1
            go_wp2_with fail
            refine HI.out.mono ?_
            rintro e w8 ⟨rfl, h8⟩
            have H8 := Lib.hid h8
            clear h8 c0 c1 c2
            go_wp2_with fail
            go_roundw
            case rel => exact ⟨k + 1, by omega, by go_num, by rw [NX.out]; exact H8.out⟩
            case measure => simp [intOf]; omega
          · obtain rfl : k = 9 := by omega
            have H9 := Lib.hid (show Holds w.heap.size w wr (star (wrP b1 (hdL (spansL m) ++ entsL (m.es.take 0))) (star (blkP w.heap.size 79 (mcs m A c)) none_)) from by
              have h := H.out
              rw [show (spansL m).take 9 = spansL m from rfl] at h
              rw [List.take_zero, show entsL [] = [] from rfl, List.append_nil]
              exact (h.perm (show _ = star (blkP g6 106 (sps (spansL m)).toArray) (star (wrP b1 (hdL (spansL m))) (star (blkP w.heap.size 79 (mcs m A c)) none_)) by ac_rfl)).drop)
            obtain ⟨-, -, -, -, -, -, -, -, y8, -, -, -, -, -, -, -, -, -, -, -⟩ := CEL.out _ _ (H9.out.perm (show _ = star (blkP w.heap.size 79 (mcs m A c)) (star (wrP b1 (hdL (spansL m) ++ entsL (m.es.take 0))) none_) by ac_rfl))
            have HDL := hdL_len HM.out.sp 9
            rw [show (spansL m).take 9 = spansL m from rfl] at HDL
            clear H
            go_wp2_with fail
            clear y8
            go_loopw [48] (fun v wr => ∃ k : Nat, k ≤ m.es.length ∧ v = .int .i64 k ∧ Hid (m.es.all entB = (m.es.drop k).all entB) ∧ Holds w.heap.size w wr (star (wrP b1 (hdL (spansL m) ++ entsL (m.es.take k))) (star (blkP w.heap.size 79 (mcs m A c)) none_))) (fun v _ => m.es.length - (intOf v).toNat)
            case atStart => exact ⟨0, by omega, by simp, Lib.hid rfl, H9.out⟩
            case round =>
              obtain ⟨k, hk, rfl, hok, hh⟩ := hrel
              have H := Lib.hid hh
              clear hh
              have HEL := entsL_len HM.out.es k
              have hsl4 := HSL.out
              by_cases hlt : k < m.es.length
              · obtain ⟨ad, x, rfl, hx1, hat⟩ := ent_at HS.out hlt
                obtain ⟨c0, c1, c2, c3, c4, c5, c6⟩ := hat.keep (hb _ H.out.below) (fun h => h)
                have X64 := Lib.hid (HM.out.es x (List.mem_of_getElem? hx1))
                have NX := Lib.hid (entsL_next hx1)
                have HO := Lib.hid (hok.out.trans (entB_all hx1))
                have HE := Lib.hid (show ∀ w, Calls Try.prog 35 #[.agg (ecs x)] w (fun e w' => e = .returned (.tuple #[.string (entS x), .int .i64 (okE (entB x))]) ∧ Keep Nothing w w') from fun w => eenc_calls w x X64.out)
                have ST := Lib.hid (show Stable (star (wrP b1 (hdL (spansL m) ++ entsL (m.es.take k))) (star (blkP w.heap.size 79 (mcs m (some ad) c)) none_)) from (by repeat (first | exact none_stable | exact wrP_stable _ _ | exact blkP_stable _ _ _ | exact rowP_stable _ _ _ _ _ | apply Stable.star)))
                have HA := Lib.hid (H.out.alloc ST.out (.cells (ecs x) 54))
                have hsz := entS_size X64.out
                have Z := Blk.fresh wr 54 (ecs x)
                have z0 := Z.cell 0
                have z1 := Z.cell 1
                have z2 := Z.cell 2
                have z3 := Z.cell 3
                have z4 := Z.cell 4
                have z5 := Z.cell 5
                have z6 := Z.cell 6
                clear hx1 hat hok Z
                go_wp2_with fail
                refine (HE.out _).mono ?_
                rintro e w8 ⟨rfl, hk8⟩
                have H8 := Lib.hid (HA.out.kept ST.out hk8)
                clear hk8 c0 c1 c2 c3 c4 c5 c6 z0 z1 z2 z3 z4 z5 z6
                cases heb : entB x with
                | false =>
                  have E := Lib.hid (msgOk_f (m := m) (by rw [EM.out, HO.out, heb]; rfl))
                  clear heb
                  rw [show okE false = 1 from rfl]
                  go_wp2_with fail
                  go_ret2
                  exact ⟨by rw [E.out.1, E.out.2]; rfl, hb _ H8.out.below⟩
                | true =>
                  rw [heb, Bool.true_and] at HO
                  rw [show okE true = 0 from rfl]
                  have HT := Lib.hid (x_text H8.out (by repeat (first | exact none_stable | exact wrP_stable _ _ | exact blkP_stable _ _ _ | exact rowP_stable _ _ _ _ _ | apply Stable.star)) (entS x) (by rw [List.length_append]; omega))
                  clear heb
                  go_wp2_with fail
                  refine HT.out.mono ?_
                  rintro e w9 ⟨rfl, h9⟩
                  have H9' := Lib.hid h9
                  clear h9
                  go_wp2_with fail
                  go_roundw
                  case rel =>
                    refine ⟨_, _, _, _, _, _, _, _, _, _, _, _, _, _, _, _, _, _, _, _, ?_, rfl⟩
                    exact ⟨k + 1, by omega, by go_num, HO, by
                      have h := H9'.out
                      rw [List.append_assoc, List.append_assoc] at h
                      rw [NX.out]
                      exact h⟩
                  case measure => simp [intOf]; omega
              · have hke : k = m.es.length := by omega
                have HO := Lib.hid (show m.es.all entB = true by rw [hok.out, hke, List.drop_length]; rfl)
                have HZ := Lib.hid (show Holds w.heap.size w wr (star (wrP b1 (hdL (spansL m) ++ entsL m.es)) (star (blkP w.heap.size 79 (mcs m A c)) none_)) by
                  have h := H.out
                  rw [hke, List.take_length] at h
                  exact h)
                rw [hke, List.take_length] at HEL
                subst hke
                obtain ⟨-, -, -, -, -, -, -, -, -, y9, y10, y11, y12, y13, -, -, -, -, -, -⟩ := CEL.out _ _ (HZ.out.perm (show _ = star (blkP w.heap.size 79 (mcs m A c)) (star (wrP b1 (hdL (spansL m) ++ entsL m.es)) none_) by ac_rfl))
                have HE := Lib.hid (show ∀ w, Calls Try.prog 33 #[.agg #[.int .i64 m.c.k, .int .i64 m.c.s, .int .i64 m.c.q, .string m.c.nm, .int .i64 m.c.n]] w (fun e w' => e = .returned (.tuple #[.string (encS m.c), .int .i64 (okE (mayB m.c))]) ∧ Keep Nothing w w') from fun w => enc_calls w m.c HM.out.c)
                clear hok H
                go_wp2_with fail
                refine (HE.out _).mono ?_
                rintro e w8 ⟨rfl, hk8⟩
                have H8 := Lib.hid (HZ.out.kept (by repeat (first | exact none_stable | exact wrP_stable _ _ | exact blkP_stable _ _ _ | exact rowP_stable _ _ _ _ _ | apply Stable.star)) hk8)
                clear hk8 y9 y10 y11 y12 y13
                cases hmb : mayB m.c with
                | false =>
                  have E := Lib.hid (msgOk_f (m := m) (by rw [EM.out, HO.out, hmb]; rfl))
                  clear hmb
                  rw [show okE false = 1 from rfl]
                  go_wp2_with fail
                  go_ret2
                  exact ⟨by rw [E.out.1, E.out.2]; rfl, hb _ H8.out.below⟩
                | true =>
                  have EK := Lib.hid (show msgOk m = decide ((msgL m).length ≤ 524288) by unfold msgOk; rw [EM.out, HO.out, hmb]; rfl)
                  rw [show okE true = 0 from rfl]
                  have hcs := encS_size HM.out.c
                  have lc := u64L_len10 (encS m.c).size (by omega)
                  have lc2 := size_list (encS m.c)
                  have lx := u64L_len10 m.x.size (by omega)
                  have lx2 := size_list m.x
                  have HT := Lib.hid (x_text H8.out (by repeat (first | exact none_stable | exact wrP_stable _ _ | exact blkP_stable _ _ _ | exact rowP_stable _ _ _ _ _ | apply Stable.star)) (encS m.c) (by rw [List.length_append]; omega))
                  clear hmb
                  go_wp2_with fail
                  refine HT.out.mono ?_
                  rintro e w9 ⟨rfl, h9⟩
                  have ha := Holds.newBlk h9 (by repeat (first | exact none_stable | exact wrP_stable _ _ | exact blkP_stable _ _ _ | exact rowP_stable _ _ _ _ _ | apply Stable.star)) 77 (rcs m.p)
                  obtain ⟨L9, hL9⟩ : ∃ L9, hdL (spansL m) ++ entsL m.es ++ u64L (encS m.c).size ++ (encS m.c).data.toList = L9 := ⟨_, rfl⟩
                  have hl9 : L9.length ≤ 1100000 := by rw [← hL9]; simp only [List.length_append]; omega
                  rw [hL9] at ha h9
                  obtain ⟨-, -, -, -, -, -, -, -, -, -, -, -, -, -, y14, y15, y16, y17, y18, -⟩ := CEL.out _ _ (h9.perm (show _ = star (blkP w.heap.size 79 (mcs m A c)) (star (wrP b1 L9) none_) by ac_rfl))
                  have HA := Lib.hid (show Holds w.heap.size w (w9.alloc (.cells (rcs m.p) 77)) (star (wrP b1 L9) (star (blkP w9.heap.size 77 (rcs m.p)) (star (blkP w.heap.size 79 (mcs m A c)) none_))) from ha.perm (by ac_rfl))
                  have EL := Lib.hid (show msgL m = L9 ++ u64L (zig m.p.s) ++ u64L (zig m.p.q) ++ u64L (zig m.p.e) ++ u64L m.p.k ++ u64L (zig m.p.n) ++ u64L m.x.size ++ m.x.data.toList by rw [← hL9]; unfold msgL tlL; simp only [List.append_assoc, List.append_nil])
                  have R64 := Lib.hid (show I64 m.p.s ∧ I64 m.p.q ∧ I64 m.p.e ∧ I64 m.p.n from ⟨HM.out.rp ⟨m.p.s, 0, 1073741824⟩ (by simp [repliesL]), HM.out.rp ⟨m.p.q, 0, 1073741824⟩ (by simp [repliesL]), HM.out.rp ⟨m.p.e, 0, 255⟩ (by simp [repliesL]), HM.out.rp ⟨m.p.n, 0, 1073741824⟩ (by simp [repliesL])⟩)
                  have RC := Lib.hid (show ∀ X L, Holds w.heap.size w X (star (wrP b1 L) (star (blkP w9.heap.size 77 (rcs m.p)) (star (blkP w.heap.size 79 (mcs m A c)) none_))) → X.cell? ⟨w9.heap.size, 0, none⟩ = some (.int .i64 m.p.s) ∧ X.cell? ⟨w9.heap.size, 1, none⟩ = some (.int .i64 m.p.q) ∧ X.cell? ⟨w9.heap.size, 2, none⟩ = some (.int .i64 m.p.e) ∧ X.cell? ⟨w9.heap.size, 3, none⟩ = some (.int .u64 m.p.k) ∧ X.cell? ⟨w9.heap.size, 4, none⟩ = some (.int .i64 m.p.n) ∧ X.cell? ⟨w.heap.size, 19, none⟩ = some (.string m.x) from fun X L h => by
                    have B := blk_atM (h.perm (show _ = star (blkP w9.heap.size 77 (rcs m.p)) (star (wrP b1 L) (star (blkP w.heap.size 79 (mcs m A c)) none_)) by ac_rfl))
                    have B' := blk_atM (h.perm (show _ = star (blkP w.heap.size 79 (mcs m A c)) (star (blkP w9.heap.size 77 (rcs m.p)) (star (wrP b1 L) none_)) by ac_rfl))
                    exact ⟨B.cell 0, B.cell 1, B.cell 2, B.cell 3, B.cell 4, B'.cell 19⟩)
                  have s1 := u64L_len10 _ (zig_lt R64.out.1.1 R64.out.1.2)
                  have s2 := u64L_len10 _ (zig_lt R64.out.2.1.1 R64.out.2.1.2)
                  have s3 := u64L_len10 _ (zig_lt R64.out.2.2.1.1 R64.out.2.2.1.2)
                  have s4 := u64L_len10 m.p.k HM.out.k
                  have s5 := u64L_len10 _ (zig_lt R64.out.2.2.2.1 R64.out.2.2.2.2)
                  have LB := Lib.hid (And.intro hl9 (And.intro s1 (And.intro s2 (And.intro s3 (And.intro s4 s5)))))
                  have HX := Lib.hid hx
                  have LX := Lib.hid (And.intro lx lx2)
                  have HI1 := Lib.hid (x_int HA.out (by repeat (first | exact none_stable | exact wrP_stable _ _ | exact blkP_stable _ _ _ | exact rowP_stable _ _ _ _ _ | apply Stable.star)) m.p.s R64.out.1 (by omega))
                  clear h9 ha hL9 hcs lc lc2 HDL HEL hsl4 lx lx2 s1 s2 s3 s4 s5 hl9
                  go_wp2_with fail
                  refine HI1.out.mono ?_
                  rintro e wa ⟨rfl, ha⟩
                  obtain ⟨q0, q1, q2, q3, q4, q5⟩ := RC.out _ _ ha
                  have HI2 := Lib.hid (x_int ha (by repeat (first | exact none_stable | exact wrP_stable _ _ | exact blkP_stable _ _ _ | exact rowP_stable _ _ _ _ _ | apply Stable.star)) m.p.q R64.out.2.1 (by have := LB.out; rw [List.length_append]; omega))
                  clear ha y14 y15 y16 y17 y18
                  go_wp2_with fail
                  refine HI2.out.mono ?_
                  rintro e wb ⟨rfl, hb2⟩
                  clear q0 q1 q2 q3 q4 q5
                  obtain ⟨q0, q1, q2, q3, q4, q5⟩ := RC.out _ _ hb2
                  have HI3 := Lib.hid (x_int hb2 (by repeat (first | exact none_stable | exact wrP_stable _ _ | exact blkP_stable _ _ _ | exact rowP_stable _ _ _ _ _ | apply Stable.star)) m.p.e R64.out.2.2.1 (by have := LB.out; simp only [List.length_append]; omega))
                  clear hb2
                  go_wp2_with fail
                  refine HI3.out.mono ?_
                  rintro e wc ⟨rfl, hc2⟩
                  clear q0 q1 q2 q3 q4 q5
                  obtain ⟨q0, q1, q2, q3, q4, q5⟩ := RC.out _ _ hc2
                  have HI4 := Lib.hid (x_u64 hc2 (by repeat (first | exact none_stable | exact wrP_stable _ _ | exact blkP_stable _ _ _ | exact rowP_stable _ _ _ _ _ | apply Stable.star)) m.p.k HM.out.k (by have := LB.out; simp only [List.length_append]; omega))
                  clear hc2
                  go_wp2_with fail
                  refine HI4.out.mono ?_
                  rintro e wd ⟨rfl, hd2⟩
                  clear q0 q1 q2 q3 q4 q5
                  obtain ⟨q0, q1, q2, q3, q4, q5⟩ := RC.out _ _ hd2
                  have HI5 := Lib.hid (x_int hd2 (by repeat (first | exact none_stable | exact wrP_stable _ _ | exact blkP_stable _ _ _ | exact rowP_stable _ _ _ _ _ | apply Stable.star)) m.p.n R64.out.2.2.2 (by have := LB.out; simp only [List.length_append]; omega))
                  clear hd2
                  go_wp2_with fail
                  refine HI5.out.mono ?_
                  rintro e we ⟨rfl, he2⟩
                  clear q0 q1 q2 q3 q4 q5
                  obtain ⟨q0, q1, q2, q3, q4, q5⟩ := RC.out _ _ he2
                  have HI6 := Lib.hid (x_text he2 (by repeat (first | exact none_stable | exact wrP_stable _ _ | exact blkP_stable _ _ _ | exact rowP_stable _ _ _ _ _ | apply Stable.star)) m.x (by have := LB.out; have := HX.out; simp only [List.length_append]; omega))
                  clear he2
                  go_wp2_with fail
                  refine HI6.out.mono ?_
                  rintro e wf ⟨rfl, hf2⟩
                  clear q0 q1 q2 q3 q4 q5
                  rw [← EL.out] at hf2
                  have HF := Lib.hid hf2
                  have HST := Lib.hid (x_string hf2 (by rw [EL.out]; have := LB.out; have := HX.out; have := LX.out; simp only [List.length_append]; omega))
                  clear hf2
                  go_wp2_with fail
                  refine HST.out.mono ?_
                  rintro e wg ⟨rfl, rfl⟩
                  by_cases hz : (msgL m).length ≤ 524288
                  · have E := Lib.hid (show msgOk m = true by rw [EK.out]; exact decide_eq_true hz)
                    have hz2 : (ofL (msgL m)).size ≤ 524288 := hz
                    have hz3 : decide (((ofL (msgL m)).size : Int) ≤ 524288) = true := decide_eq_true (by omega)
                    clear hz
                    go_wp2_with fail
                    go_ret2
                    exact ⟨by unfold msgS; rw [E.out]; rfl, hb _ HF.out.below⟩
                  · have E := Lib.hid (show msgOk m = false by rw [EK.out]; exact decide_eq_false hz)
                    have hz2 : ¬ (ofL (msgL m)).size ≤ 524288 := hz
                    have hz3 : decide (((ofL (msgL m)).size : Int) ≤ 524288) = false := decide_eq_false (by omega)
                    clear hz
                    go_wp2_with fail
                    go_ret2
                    exact ⟨by unfold msgS; rw [E.out]; rfl, hb _ HF.out.below⟩
      · have hx' : decide (524288 < m.x.size) = true := decide_eq_true (by omega)
        have E := Lib.hid (msgOk_f (m := m) (by unfold mayM; rw [hsp, hrp, decide_eq_false hx]; rfl))
        clear hsp hrp
        have hx2 : (524288 : Int) < (m.x.size : Int) := by omega
        go_wp2_with fail
        go_ret2
        exact ⟨by rw [E.out.1, E.out.2]; rfl, hb _ H4.out.below⟩
end Go.Proofs.Ytjojibgihoebaaa.A
