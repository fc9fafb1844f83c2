/-
  NetOnce.
-/
import Derived.Test.YtealhicbcbkofaaK
namespace Go.Proofs.Ytealhicbcbkofaa.A
open Go.RowKit Go.Proofs.Ytealhicbcbkofaa.U
set_option linter.unusedVariables false
set_option linter.unusedSimpArgs false

theorem send_ok {L : List ByteArray} {s : ByteArray} (hL : L.length < 4096) (hs : s.size ≤ 524288) : sendR L s = 0 ∧ sendL L s = L ++ [s] := by
  unfold sendR sendL
  simp only [if_neg (show ¬ 4096 ≤ L.length by omega), if_neg (show ¬ 524288 < s.size by omega), and_self]
theorem send_no {L : List ByteArray} {s : ByteArray} (hL : L.length < 4096) (hs : 524288 < s.size) : sendR L s = 15 ∧ sendL L s = L := by
  unfold sendR sendL
  simp only [if_neg (show ¬ 4096 ≤ L.length by omega), if_pos hs, and_self]

theorem text_at {w : World} {B : Nat} {A : Option Addr} {len : Nat} {l : List ByteArray} (h : R.Args w B A len 1 (fun s => [Value.string s]) l) {k : Nat} (hk : k < len) :
    ∃ (ad : Addr) (s : ByteArray), A = some ad ∧ ad.block < B ∧ w.cell? (ad.add k) = some (.string s) := by
  have hl := h.1
  obtain ⟨ad, e, hB, hc⟩ := h.2 k (l[k]'(by omega)) (List.getElem?_eq_getElem (by omega))
  exact ⟨ad, _, e, hB, by have := hc 0 _ rfl; rwa [Nat.mul_one, Nat.add_zero] at this⟩
theorem num_at {w : World} {B : Nat} {A : Option Addr} {len : Nat} {l : List Int} (h : R.Args w B A len 1 (fun n => [Value.int .i64 n]) l) {k : Nat} (hk : k < len) :
    ∃ (ad : Addr) (n : Int), A = some ad ∧ ad.block < B ∧ w.cell? (ad.add k) = some (.int .i64 n) := by
  have hl := h.1
  obtain ⟨ad, e, hB, hc⟩ := h.2 k (l[k]'(by omega)) (List.getElem?_eq_getElem (by omega))
  exact ⟨ad, _, e, hB, by have := hc 0 _ rfl; rwa [Nat.mul_one, Nat.add_zero] at this⟩

theorem rem_at (o : Int) (m : Nat) (h0 : 0 < m) (h1 : m ≤ 100) : ∃ q : Nat, (wrap64 (o.tmod m + m)).tmod m = q ∧ q < m := by
  have a1 := Int.tmod_lt_of_pos o (show (0 : Int) < m by omega)
  have a2 := Int.lt_tmod_of_pos o (show (0 : Int) < m by omega)
  have e : wrap64 (o.tmod m + m) = o.tmod m + m := by unfold wrap64; omega
  rw [e]
  have b0 := Int.tmod_nonneg (a := o.tmod m + m) m (by omega)
  have b1 := Int.tmod_lt_of_pos (o.tmod m + m) (show (0 : Int) < m by omega)
  exact ⟨((o.tmod m + m).tmod m).toNat, by omega, by omega⟩

set_option maxRecDepth 100000 in
set_option maxHeartbeats 8000000 in
theorem once_calls (w : World) (A A' : Option Addr) (len cap len' cap' : Nat) (l : List ByteArray) (l' : List Int) (hl : R.Args w w.heap.size A len 1 (fun s => [Value.string s]) l) (hl' : R.Args w w.heap.size A' len' 1 (fun n => [Value.int .i64 n]) l') :
    Calls Try.prog 4 #[.slice A len cap, .slice A' len' cap'] w (fun e w' => e = .returned (.bool true) ∧ Below w.heap.size w w') := by
  have H0 := Holds.start w
  have HL := Lib.hid hl
  have HL' := Lib.hid hl'
  clear hl hl'
  go_enter Try.func4, Try.ntmps4
  go_wp2_with fail
  refine (x_new H0 none_stable).mono ?_
  rintro e w1 ⟨b, rfl, H1⟩
  go_wp2_with fail
  have H2 := (H1.lone (netP_iff _ _ _)).newRow (netP_stable 50 b []) (Row.nil w1 9 1) (Keep.same _ _) (fun k hk => by simp [Value.ownBlock] at hk)
  have hN : ∀ L, Stable (netP 50 b L) := fun L => netP_stable _ _ _
  have hR : ∀ v L, Stable (rowP 9 1 v (List.length L) (strs L)) := fun v L => rowP_stable _ _ _ _ _
  go_loopw [6, 7] (fun v i wr => ∃ (k : Nat) (L : List ByteArray) (A : Option Addr) (c : Nat), k ≤ len ∧ i = .int .i64 k ∧ L.length ≤ k ∧ L.length ≤ 100 ∧ v = .slice A L.length c ∧ Holds w.heap.size w wr (star (rowP 9 1 (.slice A L.length c) L.length (strs L)) (netP 50 b L))) (fun _ i _ => len - (intOf i).toNat)
  case atStart => exact ⟨0, [], none, 0, Nat.zero_le _, by simp, by simp, by simp, rfl, H2⟩
  case round =>
    obtain ⟨k, L, A1, c1, hk, rfl, hLk, hL1, rfl, H3⟩ := hrel
    by_cases hlt : k < len ∧ k < 100
    · obtain ⟨hlt, h100⟩ := hlt
      obtain ⟨ad, s, rfl, hB, c00⟩ := text_at HL.out hlt
      have CC := Lib.hid (fun W (hb : Below w.heap.size w W) => (hb.cell (p := ad.add k) (by rw [addBlock]; exact hB)).trans c00)
      clear c00
      have c0 := CC.out wr H3.below
      by_cases hs : s.size ≤ 524288
      · obtain ⟨s1, s2⟩ := send_ok (L := L) (s := s) (by omega) hs
        go_wp2_with fail
        refine (x_send H3.swap (hR _ _) s).mono ?_
        rw [s1, s2]
        rintro e w3 ⟨rfl, T3⟩
        have H4 := T3.swap.alloc ((hR _ _).star (hN _)) (.cells #[.string s] 9)
        have c3 := CC.out w3 T3.below
        clear s1 s2
        go_wp2_with (at_builtin; refine wpList_app _ rfl E26 (.tmp 32) (.tmp 37) rfl H4.row (Src.one w3 (.string s) 9) 1 rfl rfl (by simp [Value.oneCell']) (by unfold maxLen; omega) (by omega) ?_)
        intro v4 w4 hr4 hg4 hl4
        obtain ⟨A4, c4, rfl, _, _⟩ := hr4.form
        have e4 : strs L ++ [Value.string s] = strs (L ++ [s]) := by simp
        have e5 : (L ++ [s]).length = L.length + 1 := by simp
        have T4 := H4.grew (hN _) hr4 hg4 (hl4.imp_right fun h => by rw [h]; simp)
        rw [e4, ← e5] at T4
        have TT := Lib.hid T4
        clear hr4 hg4 hl4 T4
        go_wp2_with fail
        go_roundw
        case rel => exact ⟨k + 1, L ++ [s], A4, c4, by omega, by go_num, by omega, by omega, by rw [e5], TT.out⟩
        case measure => simp [intOf]; omega
      · obtain ⟨s1, s2⟩ := send_no (L := L) (s := s) (by omega) (by omega)
        go_wp2_with fail
        refine (x_send H3.swap (hR _ _) s).mono ?_
        rw [s1, s2]
        rintro e w3 ⟨rfl, T3⟩
        clear s1 s2
        go_wp2_with fail
        go_roundw
        case rel => exact ⟨k + 1, L, A1, c1, by omega, by go_num, by omega, by omega, rfl, T3.swap⟩
        case measure => simp [intOf]; omega
    · have hex : (k < len ∧ ¬ k < 100) ∨ ¬ k < len := by omega
      have HS := Lib.hid H3
      clear hlt H3 hLk
      rcases hex with ⟨h1, h2⟩ | h1
      all_goals go_wp2_with fail
      all_goals clear h1
      all_goals try clear h2
      all_goals
        generalize hN0 : L.length = n0 at *
        go_loopw [6, 8] (fun v i wr => ∃ (j : Nat) (M : List ByteArray) (A : Option Addr) (c : Nat), i = .int .i64 j ∧ j + M.length ≤ 100 ∧ v = .slice A M.length c ∧ Holds w.heap.size w wr (star (rowP 9 1 (.slice A M.length c) M.length (strs M)) (netP 50 b M))) (fun v _ _ => match v with | .slice _ n _ => n | _ => 0)
        case atStart => exact ⟨0, L, A1, c1, by simp, by omega, by rw [hN0], by rw [hN0]; exact HS.out⟩
        case round =>
          obtain ⟨j, M, A2, c2, rfl, hj, rfl, H5⟩ := hrel
          by_cases hM : 0 < M.length
          · go_upto_if 47 with (fail)
            go_cut [9] (fun v9 wc => wc = wr ∧ ∃ q : Nat, q < M.length ∧ v9 = .int .i64 q)
            case first =>
              by_cases ho : j < len'
              · obtain ⟨ad, o, rfl, hB, c00⟩ := num_at HL'.out ho
                have c0 := (H5.below.cell (p := ad.add j) (by rw [addBlock]; exact hB)).trans c00
                obtain ⟨q, hq, hqm⟩ := rem_at o M.length hM (by omega)
                have HQ := Lib.hid hq
                clear hq c00
                go_wp2_with fail
                go_meet
                case rel => exact ⟨rfl, q, hqm, by rw [HQ.out]⟩
              · go_wp2_with fail
                go_meet
                case rel => exact ⟨rfl, 0, hM, by simp⟩
            case rest =>
              obtain ⟨rfl, q, hq, rfl⟩ := hcut
              obtain ⟨ad2, rfl, hc2⟩ := str_at H5.row.src hq
              obtain ⟨hf2, hf3⟩ : M.length ≤ c2 ∧ c2 ≤ maxLen := by
                obtain ⟨_, _, e, h1, h2⟩ := H5.row.form
                injection e with _ _ e
                exact ⟨e ▸ h1, e ▸ h2⟩
              clear hc2
              have p1 : peekS M q = M.getD q ByteArray.empty := by unfold peekS; rw [if_pos (by omega)]; simp
              have p2 : peekR M q = 0 := by unfold peekR; rw [if_pos (by omega)]
              have p3 : takeL M q = M.eraseIdx q := by unfold takeL; rw [if_pos (by omega)]; simp
              go_wp2_with fail
              refine (x_take H5.swap (hR _ _) q).mono ?_
              rw [p1, p2, p3]
              rintro e w6 ⟨rfl, T6⟩
              clear p1 p2 p3
              obtain ⟨ad3, e3, hc3⟩ := str_at T6.swap.row.src hq
              injection e3 with e3
              subst e3
              obtain ⟨s, hs⟩ : ∃ s, M.getD q ByteArray.empty = s := ⟨_, rfl⟩
              rw [hs] at hc3 ⊢
              clear hs
              have hs1 := fun w => run_upto (P := Try.prog) w E26 (some ad2) M.length c2 q q rfl (by omega)
              have hs2 := fun w => run_from (P := Try.prog) w E26 (some ad2) M.length c2 (q + 1) ((q : Int) + 1) (by omega) (by omega)
              have S1 := Lib.hid (T6.swap.row.take_ (k := q) (m := c2) (by omega) (by omega) (Nat.le_refl _))
              have hsrc := (T6.swap.row.drop_ (k := q + 1) (by omega))
              obtain ⟨A3, hA3⟩ : ∃ A3, (if c2 = q + 1 then some ad2 else (some ad2).map (·.add ((q + 1) * 1))) = A3 := ⟨_, rfl⟩
              rw [hA3] at hsrc
              simp only [hA3] at hs2
              rw [Nat.mul_one] at hsrc S1
              have S2 := Lib.hid hsrc
              clear hsrc hA3
              have hwr : IntKind.i64.wrap ((q : Int) + 1) = (q : Int) + 1 := by rw [IntKind.wrap_i64]; omega
              have O1 := Lib.hid (fun u hu => strs_one M u (List.mem_of_mem_take (i := q) hu))
              have O2 := Lib.hid (fun u hu => strs_one M u (List.mem_of_mem_drop (i := q + 1) hu))
              have d1 : 0 + q ≤ maxLen := by unfold maxLen; omega
              have d2 : (0 + q) * 16 ≤ 140737488355328 := by omega
              have d3 : q + (M.length - (q + 1)) ≤ maxLen := by unfold maxLen; omega
              have d4 : (q + (M.length - (q + 1))) * 16 ≤ 140737488355328 := by omega
              go_wp2_with fail
              go_region_law (first | (refine step_app _ (by rfl) E26 (.const (.slice none 0 0)) (.tmp 79) (by rfl) (Row.nil _ 9 1) (S1.out.drew.src) c2 (by simp [Act.eval, Act.put]) (by simp [Act.eval, Act.put]) O1.out d1 d2 ?_; intro A7 c7 w7 hr7 hg7 hl7; (try simp only [Nat.zero_add, List.nil_append] at hr7 hl7); have K7 := Lib.hid (((Keep.same Nothing w6).drew).grown hg7 (fun i hi => by simp [Value.ownBlock] at hi)); have R7 := Lib.hid hr7; have Y7 := Lib.hid hl7; have T7 := Lib.hid (S2.out.keep K7.out (fun _ _ h => h)); clear hr7 hg7 hl7) | (refine step_app _ (by rfl) E26 (.tmp 80) (.tmp 84) (by rfl) R7.out T7.out.src (c2 - (q + 1)) (by simp [Act.eval, Act.put]) (by simp [Act.eval, Act.put]) O2.out d3 d4 ?_; intro A8 c8 w8 hr8 hg8 hl8; have R8 := Lib.hid hr8; have Y8 := Lib.hid hl8; have G8 := Lib.hid hg8; clear hr8 hg8 hl8))
              have hlen : (M.eraseIdx q).length = M.length - 1 := List.length_eraseIdx_of_lt hq
              have he : strs (M.eraseIdx q) = (strs M).take q ++ (strs M).drop (q + 1) := by simp [strs, List.eraseIdx_eq_take_drop_succ, List.map_take, List.map_drop]
              have hq1 : q + (M.length - (q + 1)) = (M.eraseIdx q).length := by omega
              have TF := Lib.hid (two_fresh K7.out (Y7.out.imp_left fun h => h) G8.out Y8.out)
              have RR : Row w8 9 1 (.slice A8 (M.eraseIdx q).length c8) (M.eraseIdx q).length (strs (M.eraseIdx q)) := by
                rw [he, ← hq1]; exact R8.out
              rw [hq1] at TF
              have FIN := Lib.hid (T6.swap.drop.newRow (hN _) RR TF.out.1 TF.out.2)
              have HE := Lib.hid hq1
              have HLE := Lib.hid hlen
              clear hs1 hs2 he hlen hq1 RR hc3 hwr
              go_wp2_with fail
              go_roundw
              case rel => exact ⟨j + 1, M.eraseIdx q, A8, c8, by go_num, by have := HLE.out; omega, by rw [HE.out], FIN.out⟩
              case measure =>
                have := HE.out
                have := HLE.out
                simp
                omega
          · have hM0 : M = [] := List.eq_nil_of_length_eq_zero (by omega)
            subst hM0
            clear hM hN0
            go_wp2_with fail
            refine (x_len H5.swap).mono ?_
            rintro e w6 ⟨rfl, ⟨n6, rfl⟩⟩
            have hb := H5.below
            have HB := Lib.hid hb
            clear hb
            go_wp2_with fail
            refine (awake_calls _).mono ?_
            rintro e w7 ⟨rfl, hb7⟩
            go_wp2_with fail
            go_ret
            exact ⟨rfl, bThen (bDrewN HB.out _) hb7⟩

open Go.ChangeShapes Go.WideShapes Go.ChangeAt in
theorem once_law : R.Law 4 Try.f4 R.any := by
  intro H enc W base args ds p hval hA hsz _ hlt
  rw [Try.params4] at hA hval
  obtain ⟨v0, vs0, d0, ds0, p0, q0, hargs, rfl, rfl, h0, r0⟩ := trodAll_cons hA
  obtain ⟨v1, vs1, d1, ds1, p1, q1, rfl, rfl, rfl, h1, r1⟩ := trodAll_cons r0
  obtain ⟨rfl, rfl, rfl⟩ := trodAll_nil r1
  obtain rfl : args = #[v0, v1] := by cases args; simp_all
  have e9 : Try.prog.cellsOf 9 = 1 := by kernel_rfl
  have e3 : Try.prog.cellsOf 3 = 1 := by kernel_rfl
  obtain ⟨A, len, cap, rfl, hc1, hc2, hel, hd⟩ := R.open_cells Try.underlying26 e9 (hval 0 26 v0 rfl rfl) h0 (fun x hx => hlt x (List.mem_append_left _ hx)) (by omega)
  obtain ⟨A', len', cap', rfl, hc1', hc2', hel', hd'⟩ := R.open_cells Try.underlying45 e3 (hval 1 45 v1 rfl rfl) h1 (fun x hx => hlt x (List.mem_append_right _ (by simpa using hx))) (by omega)
  obtain ⟨l, hl, hp⟩ := R.exists_list (p := fun i (x : ByteArray) => ∃ ad, A = some ad ∧ ad.block < W.heap.size ∧ ∀ j u, [Value.string x][j]? = some u → W.cell? (ad.add (i * 1 + j)) = some u) len (fun i hi => by
    obtain ⟨ad, cs, n, y, rfl, hB, hcl, hat, ht, _⟩ := hel i hi
    obtain ⟨x, rfl, _, _⟩ := DataW.trod_string Try.underlying9 ht
    exact ⟨x, ad, rfl, hB, fun j u hu => (hat j (by have := (List.getElem?_eq_some_iff.1 hu).1; simpa using this)).trans hu⟩)
  obtain ⟨l', hl', hp'⟩ := R.exists_list (p := fun i (x : Int) => ∃ ad, A' = some ad ∧ ad.block < W.heap.size ∧ ∀ j u, [Value.int .i64 x][j]? = some u → W.cell? (ad.add (i * 1 + j)) = some u) len' (fun i hi => by
    obtain ⟨ad, cs, n, y, rfl, hB, hcl, hat, ht, _⟩ := hel' i hi
    obtain ⟨x, rfl, _, _⟩ := DataW.trod_int Try.underlying3 ht
    exact ⟨x, ad, rfl, hB, fun j u hu => (hat j (by have := (List.getElem?_eq_some_iff.1 hu).1; simpa using this)).trans hu⟩)
  exact once_calls W A A' len cap len' cap' l l' ⟨hl, hp⟩ ⟨hl', hp'⟩
end Go.Proofs.Ytealhicbcbkofaa.A
