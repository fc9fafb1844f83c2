/-
  Take, All, New; the comparison of lists of texts.
-/
import Derived.Test.YtealhicbcbkofaaB
namespace Go.Proofs.Ytealhicbcbkofaa.A
open Go.RowKit Go.Proofs.Ytealhicbcbkofaa.U
set_option linter.unusedVariables false
set_option linter.unusedSimpArgs false

theorem gap_row {w : World} {e g o n c k : Nat} {cur : Array Value} {xs : List Value} (hb : Blk w g e cur) (hc : o + c ≤ cur.size) (hnc : n ≤ c) (hcm : c ≤ maxLen) (hx : (cur.toList.drop o).take n = xs) (hk : k < n) (m : Nat) (hm : m = n - (k + 1)) :
    Row (w.setRow g (cur.toList.take (o + k) ++ (xs.drop (k + 1)).take m ++ cur.toList.drop (o + k + m)).toArray) e 1 (.slice (some ⟨g, o, none⟩) (n - 1) (n - 1)) (n - 1) (xs.eraseIdx k) := by
  subst hm
  have hxl : xs.length = n := by rw [← hx, List.length_take, List.length_drop, Array.length_toList]; omega
  have hd : (xs.drop (k + 1)).take (n - (k + 1)) = xs.drop (k + 1) := List.take_of_length_le (by rw [List.length_drop]; omega)
  have ht : (cur.toList.take (o + k)).drop o = xs.take k := by
    rw [List.drop_take, Nat.add_sub_cancel_left, ← hx, List.take_take, Nat.min_eq_left (by omega)]
  rw [hd, List.eraseIdx_eq_take_drop_succ]
  refine ⟨by rw [List.length_append, List.length_take, List.length_drop]; omega, .inr ⟨g, o, n - 1, _, rfl, hb.setRow _, Nat.le_refl _, by omega, ?_, ?_⟩⟩
  · simp only [List.size_toArray, List.length_append, List.length_take, List.length_drop, Array.length_toList]; omega
  · have ho : o ≤ (cur.toList.take (o + k)).length := by simp only [List.length_take, Array.length_toList]; omega
    simp only [List.append_assoc]
    rw [List.drop_append_of_le_length ho, ht, ← List.append_assoc]
    have hlen : (xs.take k ++ xs.drop (k + 1)).length = (n - 1) * 1 := by rw [List.length_append, List.length_take, List.length_drop]; omega
    rw [← hlen]
    exact List.take_left

set_option maxRecDepth 100000 in
theorem take_in (w : World) (b : Nat) (v : Value) (L : List ByteArray) (k : Nat) (h : NetAt w 50 b v L) (hk : k < L.length) :
    Calls Try.prog 10 #[.pointer (some ⟨b, 0, none⟩), .int .i64 k] w (Did w 50 b v (L.eraseIdx k) (.tuple #[.string (L.getD k ByteArray.empty), .int .i64 0])) := by
  have H := Lib.hid h
  have hp := peek_calls w b v L k h
  have p1 : peekS L k = L.getD k ByteArray.empty := by unfold peekS; rw [if_pos (by omega)]; simp
  have p2 : peekR L k = 0 := by unfold peekR; rw [if_pos (by omega)]
  rw [p1, p2] at hp
  have HP := Lib.hid hp
  clear hp p1 p2
  obtain ⟨s, hs⟩ : ∃ s, L.getD k ByteArray.empty = s := ⟨_, rfl⟩
  rw [hs] at HP ⊢
  clear hs
  rcases h.row.2 with ⟨_, h0⟩ | ⟨g, o, c, cur, rfl, hb, hnc, hcm, hfit, hx⟩
  · omega
  have hcell : w.cell? ⟨b, 0, none⟩ = some (.slice (some ⟨g, o, none⟩) L.length c) := h.blk.cell 0
  have hu := Try.underlying50
  have hl := h.few
  have hs1 := fun w => run_from (P := Try.prog) w E26 (some ⟨g, o, none⟩) L.length c k k rfl (by omega)
  have hs2 := fun w => run_from (P := Try.prog) w E26 (some ⟨g, o, none⟩) L.length c (k + 1) ((k : Int) + 1) (by omega) (by omega)
  have hs3 := fun w => run_upto3 (P := Try.prog) w E26 (some ⟨g, o, none⟩) L.length c (L.length - 1) (L.length - 1) ((L.length : Int) - 1) ((L.length : Int) - 1) (by omega) (by omega) (Nat.le_refl _) (by omega)
  have hsrc := (h.row.drop_ (k := k + 1) (by omega)).src
  obtain ⟨A2, hA2⟩ : ∃ A2, (if c = k + 1 then some (⟨g, o, none⟩ : Addr) else (some (⟨g, o, none⟩ : Addr)).map (·.add ((k + 1) * 1))) = A2 := ⟨_, rfl⟩
  rw [hA2] at hsrc
  simp only [hA2] at hs2
  rw [if_neg (by omega : ¬ c = k)] at hs1
  simp only [Option.map_some, addAt, Nat.mul_one] at hs1 hsrc
  have hwr : IntKind.i64.wrap ((k : Int) + 1) = (k : Int) + 1 := by rw [IntKind.wrap_i64]; omega
  clear hA2 h
  go_enter Try.func10, Try.ntmps10
  go_wp2_with (go_at_call 12; refine HP.out.mono ?_; rintro e w' ⟨rfl, ⟨nd, rfl⟩⟩)
  refine region_tail 13 (by kernel_rfl) (by kernel_rfl) ?_
  simp only [List.take_succ_cons, List.take_zero, List.drop_succ_cons, List.drop_zero]
  repeat still_step
  refine wpStill_nil ?_
  clear hwr hs1 hs2
  have hxs : (cur.toList.drop o).take L.length = strs L := by simpa using hx
  have hbd : Blk (w.drewN nd).drew g 9 cur := hb
  refine wpList_copy _ rfl E26 (.tmp 23) (.tmp 30) rfl hbd (A := A2) (m := L.length - (k + 1)) (xs := strs (L.drop (k + 1))) ?_ (c - (k + 1)) rfl rfl (by omega) (strs_one _) ?_
  · have e : strs (L.drop (k + 1)) = (strs L).drop (k + 1) := by simp [strs, List.map_drop]
    rw [e]; exact hsrc
  have hgap := gap_row (xs := strs L) (k := k) hbd (by omega) hnc hcm hxs hk (min (L.length - (k + 1)) (L.length - k)) (by omega)
  have e : strs (L.drop (k + 1)) = (strs L).drop (k + 1) := by simp [strs, List.map_drop]
  rw [← e] at hgap
  have hg' : g ≠ b := hb.apart H.out.blk (by decide)
  have hkeep : Keep (fun i => i = g) w ((w.drewN nd).drew.setRow g (cur.toList.take (o + k) ++ (strs (L.drop (k + 1))).take (min (L.length - (k + 1)) (L.length - k)) ++ cur.toList.drop (o + k + min (L.length - (k + 1)) (L.length - k))).toArray) :=
    (((Keep.same (fun i => i = g) w).drewN nd).drew).setRow (g := g) (.inl rfl) _
  generalize ((w.drewN nd).drew.setRow g (cur.toList.take (o + k) ++ (strs (L.drop (k + 1))).take (min (L.length - (k + 1)) (L.length - k)) ++ cur.toList.drop (o + k + min (L.length - (k + 1)) (L.length - k))).toArray) = w1 at *
  have hb1 := H.out.blk.keep hkeep (fun e => hg' e.symm)
  have hcell1 := hb1.cell 0
  have hfree1 := hb1.free 0
  have R := Lib.hid hgap
  have B1 := Lib.hid hb1
  have KK := Lib.hid hkeep
  clear hgap hb1 hkeep hbd hb hxs hx hsrc hcell e
  go_wp2
  go_ret2
  have hp := B1.out.put 0 (.slice (some ⟨g, o, none⟩) (L.length - 1) (L.length - 1))
  have hlen : (L.eraseIdx k).length = L.length - 1 := List.length_eraseIdx_of_lt hk
  have he : strs (L.eraseIdx k) = (strs L).eraseIdx k := by simp [strs, List.eraseIdx_eq_take_drop_succ, List.map_take, List.map_drop]
  refine ⟨rfl, .slice (some ⟨g, o, none⟩) (L.length - 1) (L.length - 1), ⟨by simpa using hp, ?_, by omega⟩, (KK.out.wider (S' := Foot b _) (fun i hi => .inl (.inr (by simp [Value.ownBlock, hi])))).set (.inl (.inl rfl)) _, fun j hj => .inl hj⟩
  rw [hlen, he]
  exact R.out.far (p := ⟨b, 0, none⟩) (by simp [Value.ownBlock, hg']) _
theorem take_out (w : World) (b : Nat) (v : Value) (L : List ByteArray) (n : Int) (h : NetAt w 50 b v L) (hn : ¬ (0 ≤ n ∧ n < L.length)) :
    Calls Try.prog 10 #[.pointer (some ⟨b, 0, none⟩), .int .i64 n] w (Did w 50 b v L (.tuple #[.string ByteArray.empty, .int .i64 1])) := by
  have H := Lib.hid h
  have hp := peek_calls w b v L n h
  have p1 : peekS L n = ByteArray.empty := if_neg hn
  have p2 : peekR L n = 1 := if_neg hn
  rw [p1, p2] at hp
  have HP := Lib.hid hp
  clear hp p1 p2 h hn
  go_enter Try.func10, Try.ntmps10
  go_wp2_with (go_at_call 12; refine HP.out.mono ?_; rintro e w' ⟨rfl, ⟨nd, rfl⟩⟩)
  go_ret2
  exact Did.none_ H.out ((Drew.same w).more nd)
theorem take_calls (w : World) (b : Nat) (v : Value) (L : List ByteArray) (n : Int) (h : NetAt w 50 b v L) :
    Calls Try.prog 10 #[.pointer (some ⟨b, 0, none⟩), .int .i64 n] w (Did w 50 b v (takeL L n) (.tuple #[.string (peekS L n), .int .i64 (peekR L n)])) := by
  unfold takeL peekS peekR
  by_cases hn : 0 ≤ n ∧ n < L.length
  · simp only [if_pos hn]
    have := take_in w b v L n.toNat h (by omega)
    rwa [show ((n.toNat : Nat) : Int) = n by omega] at this
  · simp only [if_neg hn]
    exact take_out w b v L n h hn

/-- Two appends from nil on, and the store. -/
theorem two_did {w w1 w3 : World} {t b : Nat} {v v1 v3 : Value} {L' : List ByteArray} {r : Value} {n : Nat} (K1 : Keep Nothing w w1) (Y1 : v1.ownBlock = none ∨ v1.ownBlock = some w.heap.size) (G3 : w1.grownBy w3 v1.ownBlock)
    (Y3 : v3.ownBlock = v1.ownBlock ∨ v3.ownBlock = some w1.heap.size) (ht : 9 ≠ t) (B3 : Blk w3 b t #[v]) (R3 : Row w3 9 1 v3 n (strs L')) (hn : n = L'.length) (hl : L'.length ≤ 4096) : Did w t b v L' r (.returned r) (w3.setCell ⟨b, 0, none⟩ v3) := by
  subst hn
  have hsz : w.heap.size ≤ w1.heap.size := K1.size
  have hkk : Keep Nothing w w3 := K1.grown G3 (fun i hi => .inr (by
    rcases Y1 with h | h
    · rw [h] at hi; cases hi
    · rw [h] at hi; injection hi with hi; omega))
  have hfresh : ∀ k, v3.ownBlock = some k → w.heap.size ≤ k := by
    intro k hk
    rcases Y3 with h | h
    · rw [h] at hk
      rcases Y1 with h' | h'
      · rw [h'] at hk; cases hk
      · rw [h'] at hk; injection hk with hk; omega
    · rw [h] at hk; injection hk with hk; omega
  have hp := B3.put 0 v3
  exact ⟨rfl, v3, ⟨by simpa using hp, R3.far (p := ⟨b, 0, none⟩) (R3.apart B3 ht) v3, hl⟩, (hkk.wider (S' := Foot b v) (fun _ h => h.elim)).set (.inl (.inl rfl)) _, fun k hk => .inr (hfresh k hk)⟩

set_option maxRecDepth 100000 in
set_option maxHeartbeats 800000 in
theorem rtake_in (w : World) (b : Nat) (v : Value) (L : List ByteArray) (k : Nat) (h : NetAt w 28 b v L) (hk : k < L.length) :
    Calls Try.prog 11 #[.pointer (some ⟨b, 0, none⟩), .int .i64 k] w (Did w 28 b v (L.eraseIdx k) (.tuple #[.string (L.getD k ByteArray.empty), .int .i64 0])) := by
  have H := Lib.hid h
  have hp := rpeek_calls w b v L k h
  have p1 : peekS L k = L.getD k ByteArray.empty := by unfold peekS; rw [if_pos (by omega)]; simp
  have p2 : peekR L k = 0 := by unfold peekR; rw [if_pos (by omega)]
  rw [p1, p2] at hp
  have HP := Lib.hid hp
  clear hp p1 p2
  obtain ⟨s, hs⟩ : ∃ s, L.getD k ByteArray.empty = s := ⟨_, rfl⟩
  rw [hs] at HP ⊢
  clear hs
  obtain ⟨A, c, rfl, hc1, hc2⟩ := h.row.form
  have hcell : w.cell? ⟨b, 0, none⟩ = some (.slice A L.length c) := h.blk.cell 0
  have hu := Try.underlying28
  have hl := h.few
  have hs1 := fun w => run_upto (P := Try.prog) w E26 A L.length c k k rfl (by omega)
  have hs2 := fun w => run_from (P := Try.prog) w E26 A L.length c (k + 1) ((k : Int) + 1) (by omega) (by omega)
  have hsrc1 := (h.row.take_ (k := k) (m := c) (by omega) (by omega) (Nat.le_refl _))
  have hsrc := (h.row.drop_ (k := k + 1) (by omega))
  obtain ⟨A2, hA2⟩ : ∃ A2, (if c = k + 1 then A else A.map (·.add ((k + 1) * 1))) = A2 := ⟨_, rfl⟩
  rw [hA2] at hsrc
  simp only [hA2] at hs2
  rw [Nat.mul_one] at hsrc1 hsrc
  clear hA2 h
  have hwr : IntKind.i64.wrap ((k : Int) + 1) = (k : Int) + 1 := by rw [IntKind.wrap_i64]; omega
  have S1 := Lib.hid hsrc1
  have S2 := Lib.hid hsrc
  clear hsrc1 hsrc
  go_enter Try.func11, Try.ntmps11
  go_wp2_with (go_at_call 13; refine HP.out.mono ?_; rintro e w' ⟨rfl, ⟨nd, rfl⟩⟩)
  have o1 : ∀ u ∈ (strs L).take k, u.oneCell' = true := fun u hu => strs_one L u (List.mem_of_mem_take hu)
  have o2 : ∀ u ∈ (strs L).drop (k + 1), u.oneCell' = true := fun u hu => strs_one L u (List.mem_of_mem_drop hu)
  have O1 := Lib.hid o1
  have O2 := Lib.hid o2
  clear o1 o2
  have d1 : 0 + k ≤ maxLen := by unfold maxLen; omega
  have d2 : (0 + k) * 16 ≤ 140737488355328 := by omega
  have d3 : k + (L.length - (k + 1)) ≤ maxLen := by unfold maxLen; omega
  have d4 : (k + (L.length - (k + 1))) * 16 ≤ 140737488355328 := by omega
  go_region_law (first | (refine step_app _ rfl E26 (.const (.slice none 0 0)) (.tmp 22) rfl (Row.nil _ 9 1) ((S1.out.drewN (nd + 1)).src) c rfl rfl O1.out d1 d2 ?_; intro A1 c1 w1 hr1 hg1 hl1; (try simp only [Nat.zero_add, List.nil_append] at hr1 hl1); have K1 := Lib.hid (((Keep.same Nothing w).drewN (nd + 1)).grown hg1 (fun i hi => by simp [Value.ownBlock] at hi)); have B1 := Lib.hid (H.out.blk.keep K1.out (fun h => h)); have R1 := Lib.hid hr1; have Y1 := Lib.hid hl1; have T1 := Lib.hid (S2.out.keep K1.out (fun _ _ h => h)); have hcell1 := B1.out.cell 0; have hfree1 := B1.out.free 0; clear hr1 hg1 hl1) | (refine step_app _ rfl E26 (.tmp 23) (.tmp 30) rfl R1.out T1.out.src (c - (k + 1)) rfl rfl O2.out d3 d4 ?_; intro A3 c3 w3 hr3 hg3 hl3; have B3 := Lib.hid (B1.out.grown hg3 (R1.out.apart B1.out (by decide))); have R3 := Lib.hid hr3; have Y3 := Lib.hid hl3; have G3 := Lib.hid hg3; have hcell3 := B3.out.cell 0; have hfree3 := B3.out.free 0; clear hr3 hg3 hl3))
  all_goals go_wp2
  all_goals go_ret2
  all_goals clear hs1 hs2 hcell hcell1 hfree1 hcell3 hfree3
  all_goals have hlen : (L.eraseIdx k).length = L.length - 1 := List.length_eraseIdx_of_lt hk
  all_goals have he : strs (L.eraseIdx k) = (strs L).take k ++ (strs L).drop (k + 1) := by simp [strs, List.eraseIdx_eq_take_drop_succ, List.map_take, List.map_drop]
  all_goals exact two_did K1.out (Y1.out.imp_left fun h => h) G3.out Y3.out (by decide) B3.out (by rw [he]; exact R3.out) (by omega) (by omega)
theorem rtake_out (w : World) (b : Nat) (v : Value) (L : List ByteArray) (n : Int) (h : NetAt w 28 b v L) (hn : ¬ (0 ≤ n ∧ n < L.length)) :
    Calls Try.prog 11 #[.pointer (some ⟨b, 0, none⟩), .int .i64 n] w (Did w 28 b v L (.tuple #[.string ByteArray.empty, .int .i64 1])) := by
  have H := Lib.hid h
  have hp := rpeek_calls w b v L n h
  have p1 : peekS L n = ByteArray.empty := if_neg hn
  have p2 : peekR L n = 1 := if_neg hn
  rw [p1, p2] at hp
  have HP := Lib.hid hp
  clear hp p1 p2 h hn
  go_enter Try.func11, Try.ntmps11
  go_wp2_with (go_at_call 13; refine HP.out.mono ?_; rintro e w' ⟨rfl, ⟨nd, rfl⟩⟩)
  go_ret2
  exact Did.none_ H.out ((Drew.same w).more nd)
theorem rtake_calls (w : World) (b : Nat) (v : Value) (L : List ByteArray) (n : Int) (h : NetAt w 28 b v L) :
    Calls Try.prog 11 #[.pointer (some ⟨b, 0, none⟩), .int .i64 n] w (Did w 28 b v (takeL L n) (.tuple #[.string (peekS L n), .int .i64 (peekR L n)])) := by
  unfold takeL peekS peekR
  by_cases hn : 0 ≤ n ∧ n < L.length
  · simp only [if_pos hn]
    have := rtake_in w b v L n.toNat h (by omega)
    rwa [show ((n.toNat : Nat) : Int) = n by omega] at this
  · simp only [if_neg hn]
    exact rtake_out w b v L n h hn

/-! ### New, All, the comparison -/
theorem new_calls (w : World) : Calls Try.prog 7 #[] w (fun e w' => e = .returned (.pointer (some ⟨w.heap.size, 0, none⟩)) ∧ w' = w.alloc (.cells #[.slice none 0 0] 50)) := by
  have hu := Try.underlying50
  go_enter Try.func7, Try.ntmps7
  go_wp2
  go_ret
  exact ⟨rfl, rfl⟩

set_option maxRecDepth 100000 in
theorem all_calls (w : World) (b : Nat) (v : Value) (L : List ByteArray) (h : NetAt w 50 b v L) :
    Calls Try.prog 18 #[.pointer (some ⟨b, 0, none⟩)] w (fun e w' => ∃ A c, e = .returned (.slice A L.length c) ∧ Row w' 9 1 (.slice A L.length c) L.length (strs L) ∧ Keep Nothing w w') := by
  have H := Lib.hid h
  obtain ⟨A, c, rfl, hc1, hc2⟩ := h.row.form
  have hcell : w.cell? ⟨b, 0, none⟩ = some (.slice A L.length c) := h.blk.cell 0
  have hu := Try.underlying50
  have hl := h.few
  have hmk := fun w => run_make_n (P := Try.prog) w E26 L.length .i64 .i64 L.length L.length rfl rfl (by omega) (by unfold maxLen; omega)
  have hlt := h.blk.lt
  clear h
  go_enter Try.func18, Try.ntmps18
  have hsrc := ((H.out.row.alloc (.cells (madeCells #[Value.string ByteArray.empty] L.length) 9)).src)
  have S := Lib.hid hsrc
  clear hsrc
  go_wp2_with (refine wpList_copy _ rfl E26 (.tmp 12) (.tmp 16) rfl (Blk.fresh w 9 (madeCells #[Value.string ByteArray.empty] L.length)) S.out c rfl rfl (by rw [size_madeCells]; omega) (strs_one L) ?_)
  go_ret
  have hb := (Blk.fresh w 9 (madeCells #[Value.string ByteArray.empty] L.length)).setRow (List.take L.length (strs L) ++ List.drop L.length (madeCells #[Value.string ByteArray.empty] L.length).toList).toArray
  have e1 : List.take L.length (strs L) = strs L := List.take_of_length_le (by simp [strs])
  have e2 : List.drop L.length (madeCells #[Value.string ByteArray.empty] L.length).toList = [] := List.drop_of_length_le (by rw [Array.length_toList, size_madeCells]; omega)
  rw [e1, e2, List.append_nil] at hb ⊢
  refine ⟨_, _, rfl, ⟨by simp [strs], .inr ⟨w.heap.size, 0, L.length, _, rfl, hb, Nat.le_refl _, by unfold maxLen; omega, by simp [strs], ?_⟩⟩, ?_⟩
  · simp only [List.drop_zero]; exact List.take_of_length_le (by simp [strs])
  · exact ((Keep.same Nothing w).alloc _).setRow (.inr (Nat.le_refl _)) _
end Go.Proofs.Ytealhicbcbkofaa.A
