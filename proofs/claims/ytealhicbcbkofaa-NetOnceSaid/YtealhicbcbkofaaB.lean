/-
  More contracts of net and of its reference.
-/
import Derived.Test.YtealhicbcbkofaaA
namespace Go.Proofs.Ytealhicbcbkofaa.A
open Go.RowKit Go.Proofs.Ytealhicbcbkofaa.U
set_option linter.unusedVariables false
set_option linter.unusedSimpArgs false


/-! ### the reference -/
set_option maxRecDepth 100000 in
theorem rsend_calls (w : World) (b : Nat) (v : Value) (L : List ByteArray) (s : ByteArray) (h : NetAt w 28 b v L) (hL : L.length < 4096) (hs : s.size ≤ 524288) :
    Calls Try.prog 9 #[.pointer (some ⟨b, 0, none⟩), .string s] w (Did w 28 b v (L ++ [s]) (.int .i64 0)) := by
  have H := Lib.hid h
  have hrow := h.row
  obtain ⟨A, c, rfl, hc1, hc2⟩ := h.row.form
  have hcell : w.cell? ⟨b, 0, none⟩ = some (.slice A L.length c) := h.blk.cell 0
  have hu := Try.underlying28
  have hsrc := hrow.src
  clear h
  have g1 : decide ((4096 : Int) ≤ L.length) = false := by simp; omega
  have g2 : decide ((524288 : Int) < s.size) = false := by simp; omega
  go_enter Try.func9, Try.ntmps9
  go_wp2_with (at_builtin; refine wpList_app _ rfl E26 (.const (.slice none 0 0)) (.tmp 18) rfl (Row.nil w 9 1) hsrc c rfl rfl (strs_one L) (by unfold maxLen; omega) (by omega) ?_)
  intro v1 w1 hrow1 hgrow1 hloc1
  obtain ⟨A1, c1, rfl, _, _⟩ := hrow1.form
  have hk1 := Lib.hid ((Keep.same Nothing w).grown hgrow1 (fun i hi => by simp [Value.ownBlock] at hi))
  have hb1 := H.out.blk.keep hk1.out (fun h => h)
  have hcell1 := hb1.cell 0
  have hl1 : (Value.slice A1 L.length c1).ownBlock = some w.heap.size ∨ (Value.slice A1 L.length c1).ownBlock = none := by
    rcases hloc1 with h | h
    · exact .inr h
    · exact .inl h
  have L1 := Lib.hid hl1
  have HB1 := Lib.hid hb1
  clear hgrow1 hloc1 hl1 hb1 hrow hsrc
  go_wp2_with (at_builtin; refine wpList_app _ rfl E26 (.tmp 19) (.tmp 21) rfl (hrow1.alloc _) (Src.one w1 (.string s) 9) 1 (by simp [Act.eval]) rfl (by simp [Value.oneCell']) (by unfold maxLen; omega) (by omega) ?_)
  intro v2 w2 hrow2 hgrow2 hloc2
  obtain ⟨A2, c2, rfl, _, _⟩ := hrow2.form
  have hne : (Value.slice A1 L.length c1).ownBlock ≠ some b := (hrow1.apart HB1.out (by decide))
  have hb2 := (HB1.out.alloc (.cells #[.string s] 9)).grown hgrow2 hne
  have hcell2 := hb2.cell 0
  have hfree2 := hb2.free 0
  have R := Lib.hid hrow2
  have G := Lib.hid hgrow2
  have O := Lib.hid hloc2
  have HB2 := Lib.hid hb2
  clear hrow2 hgrow2 hloc2 hb2 hne hrow1
  go_wp2
  go_ret
  have hsz : w.heap.size ≤ w1.heap.size := hk1.out.size
  have hkk : Keep Nothing w w2 := (hk1.out.alloc (.cells #[.string s] 9)).grown G.out (fun i hi => .inr (by
    rcases L1.out with h | h
    · rw [h] at hi; injection hi with hi; omega
    · rw [h] at hi; cases hi))
  have hfresh : ∀ k, (Value.slice A2 (L.length + 1) c2).ownBlock = some k → w.heap.size ≤ k := by
    intro k hk
    rcases O.out with h | h
    · rw [h] at hk
      rcases L1.out with h' | h'
      · rw [h'] at hk; injection hk with hk; omega
      · rw [h'] at hk; cases hk
    · rw [h] at hk; injection hk with hk; first | omega | (simp at hk; omega)
  have hp := HB2.out.put 0 (.slice A2 (L.length + 1) c2)
  refine ⟨rfl, _, ⟨by simpa using hp, ?_, by simp; omega⟩, ((hkk.wider (S' := Foot b (.slice A L.length c)) (fun _ h => h.elim))).set (.inl (.inl rfl)) _, fun k hk => .inr (hfresh k hk)⟩
  have := R.out.far (p := ⟨b, 0, none⟩) (R.out.apart HB2.out (by decide)) (.slice A2 (L.length + 1) c2)
  simpa using this

set_option maxRecDepth 100000 in
theorem rsend_any (w : World) (b : Nat) (v : Value) (L : List ByteArray) (s : ByteArray) (h : NetAt w 28 b v L) :
    Calls Try.prog 9 #[.pointer (some ⟨b, 0, none⟩), .string s] w (Did w 28 b v (sendL L s) (.int .i64 (sendR L s))) := by
  unfold sendL sendR
  by_cases h1 : 4096 ≤ L.length
  · simp only [if_pos h1]
    have H := Lib.hid h
    obtain ⟨A, c, rfl, _, _⟩ := h.row.form
    have hcell : w.cell? ⟨b, 0, none⟩ = some (.slice A L.length c) := h.blk.cell 0
    have hu := Try.underlying28
    clear h
    have g1 : decide ((4096 : Int) ≤ L.length) = true := by simp; omega
    go_enter Try.func9, Try.ntmps9
    go_wp2
    go_ret
    exact Did.none_ H.out (Drew.same _)
  · by_cases h2 : 524288 < s.size
    · simp only [if_neg h1, if_pos h2]
      have H := Lib.hid h
      obtain ⟨A, c, rfl, _, _⟩ := h.row.form
      have hcell : w.cell? ⟨b, 0, none⟩ = some (.slice A L.length c) := h.blk.cell 0
      have hu := Try.underlying28
      clear h
      have g1 : decide ((4096 : Int) ≤ L.length) = false := by simp; omega
      have g2 : decide ((524288 : Int) < s.size) = true := by simp; omega
      go_enter Try.func9, Try.ntmps9
      go_wp2
      go_ret
      exact Did.none_ H.out (Drew.same _)
    · simp only [if_neg h1, if_neg h2]
      exact rsend_calls w b v L s h (by omega) (by omega)

set_option maxRecDepth 100000 in
theorem rpeek_calls (w : World) (b : Nat) (v : Value) (L : List ByteArray) (n : Int) (h : NetAt w 28 b v L) :
    Calls Try.prog 13 #[.pointer (some ⟨b, 0, none⟩), .int .i64 n] w (Pure w (.tuple #[.string (peekS L n), .int .i64 (peekR L n)])) := by
  unfold peekS peekR
  obtain ⟨A, c, rfl, hc1, hc2⟩ := h.row.form
  have hcell : w.cell? ⟨b, 0, none⟩ = some (.slice A L.length c) := h.blk.cell 0
  have hu := Try.underlying28
  rcases (show (0 ≤ n ∧ n < L.length) ∨ n < 0 ∨ (0 ≤ n ∧ L.length ≤ n) by omega) with hn | hn | hn
  · simp only [if_pos hn]
    obtain ⟨h0, h1⟩ := hn
    obtain ⟨ad, rfl, hx⟩ := cell_at h h0 h1
    have hl := h.few
    clear h
    obtain ⟨s, hs⟩ : ∃ s, L.getD n.toNat ByteArray.empty = s := ⟨_, rfl⟩
    rw [hs] at hx ⊢
    clear hs
    go_enter Try.func13, Try.ntmps13
    go_wp2
    go_ret2
    exact ⟨rfl, Drew.same _⟩
  · have hn' : ¬ (0 ≤ n ∧ n < L.length) := by omega
    simp only [if_neg hn']
    clear h hn'
    go_enter Try.func13, Try.ntmps13
    go_wp2
    go_ret2
    exact ⟨rfl, Drew.same _⟩
  · have hn' : ¬ (0 ≤ n ∧ n < L.length) := by omega
    simp only [if_neg hn']
    obtain ⟨h0, h1⟩ := hn
    clear h hn'
    go_enter Try.func13, Try.ntmps13
    go_wp2
    go_ret2
    exact ⟨rfl, Drew.same _⟩

theorem peek_nil (w : World) (n : Int) : Calls Try.prog 12 #[.pointer none, .int .i64 n] w (Pure w (.tuple #[.string ByteArray.empty, .int .i64 1])) := by
  go_enter Try.func12, Try.ntmps12
  go_wp2
  go_ret2
  exact ⟨rfl, Drew.same _⟩

theorem peekR_cases (L : List ByteArray) (n : Int) : (0 ≤ n ∧ n < L.length ∧ peekR L n = 0) ∨ (¬ (0 ≤ n ∧ n < L.length) ∧ peekR L n = 1 ∧ peekS L n = ByteArray.empty) := by
  unfold peekR peekS
  by_cases h : 0 ≤ n ∧ n < L.length
  · exact .inl ⟨h.1, h.2, if_pos h⟩
  · exact .inr ⟨h, if_neg h, if_neg h⟩

theorem double_calls (w : World) (b : Nat) (v : Value) (L : List ByteArray) (n : Int) (h : NetAt w 50 b v L) :
    Calls Try.prog 14 #[.pointer (some ⟨b, 0, none⟩), .int .i64 n] w (Did w 50 b v (dblL L n) (.int .i64 (dblR L n))) := by
  have H := Lib.hid h
  rcases peekR_cases L n with ⟨h0, h1, h2⟩ | ⟨h1, h2, h3⟩
  · have e1 : dblL L n = sendL L (peekS L n) := if_pos ⟨h0, h1⟩
    have e2 : dblR L n = sendR L (peekS L n) := if_pos ⟨h0, h1⟩
    rw [e1, e2]
    clear e1 e2 h
    go_enter Try.func14, Try.ntmps14
    go_wp2_with (first | (go_at_call 12; refine (peek_calls _ b v L n H.out).mono ?_; rintro e w' ⟨rfl, ⟨nd, rfl⟩⟩) | (go_at_call 8; refine (send_any _ b v L (peekS L n) ?_).mono ?_))
    · exact ⟨H.out.blk, H.out.row.drewN nd, H.out.few⟩
    · rintro e w' ⟨rfl, v', hn, hk, ho⟩
      go_wp2
      go_ret
      exact ⟨rfl, v', hn, ((Keep.same (Foot b v) w).drewN nd).then hk, ho⟩
  · have e1 : dblL L n = L := if_neg h1
    have e2 : dblR L n = 1 := if_neg h1
    rw [e1, e2]
    clear e1 e2 h h1 h3
    go_enter Try.func14, Try.ntmps14
    go_wp2_with (go_at_call 12; refine (peek_calls _ b v L n H.out).mono ?_; rintro e w' ⟨rfl, ⟨nd, rfl⟩⟩)
    go_ret
    exact Did.none_ H.out ((Drew.same w).more nd)
theorem rdouble_calls (w : World) (b : Nat) (v : Value) (L : List ByteArray) (n : Int) (h : NetAt w 28 b v L) :
    Calls Try.prog 15 #[.pointer (some ⟨b, 0, none⟩), .int .i64 n] w (Did w 28 b v (dblL L n) (.int .i64 (dblR L n))) := by
  have H := Lib.hid h
  rcases peekR_cases L n with ⟨h0, h1, h2⟩ | ⟨h1, h2, h3⟩
  · have e1 : dblL L n = sendL L (peekS L n) := if_pos ⟨h0, h1⟩
    have e2 : dblR L n = sendR L (peekS L n) := if_pos ⟨h0, h1⟩
    rw [e1, e2]
    clear e1 e2 h
    go_enter Try.func15, Try.ntmps15
    go_wp2_with (first | (go_at_call 13; refine (rpeek_calls _ b v L n H.out).mono ?_; rintro e w' ⟨rfl, ⟨nd, rfl⟩⟩) | (go_at_call 9; refine (rsend_any _ b v L (peekS L n) ?_).mono ?_))
    · exact ⟨H.out.blk, H.out.row.drewN nd, H.out.few⟩
    · rintro e w' ⟨rfl, v', hn, hk, ho⟩
      go_wp2
      go_ret
      exact ⟨rfl, v', hn, ((Keep.same (Foot b v) w).drewN nd).then hk, ho⟩
  · have e1 : dblL L n = L := if_neg h1
    have e2 : dblR L n = 1 := if_neg h1
    rw [e1, e2]
    clear e1 e2 h h1 h3
    go_enter Try.func15, Try.ntmps15
    go_wp2_with (go_at_call 13; refine (rpeek_calls _ b v L n H.out).mono ?_; rintro e w' ⟨rfl, ⟨nd, rfl⟩⟩)
    go_ret
    exact Did.none_ H.out ((Drew.same w).more nd)
theorem double_nil (w : World) (n : Int) : Calls Try.prog 14 #[.pointer none, .int .i64 n] w (Pure w (.int .i64 1)) := by
  go_enter Try.func14, Try.ntmps14
  go_wp2_with (go_at_call 12; refine (peek_nil _ _).mono ?_; rintro e w' ⟨rfl, ⟨nd, rfl⟩⟩)
  go_ret
  exact ⟨rfl, (Drew.same w).more nd⟩
theorem take_nil (w : World) (n : Int) : Calls Try.prog 10 #[.pointer none, .int .i64 n] w (Pure w (.tuple #[.string ByteArray.empty, .int .i64 1])) := by
  go_enter Try.func10, Try.ntmps10
  go_wp2_with (go_at_call 12; refine (peek_nil _ _).mono ?_; rintro e w' ⟨rfl, ⟨nd, rfl⟩⟩)
  go_ret2
  exact ⟨rfl, (Drew.same w).more nd⟩
theorem len_nil (w : World) : Calls Try.prog 16 #[.pointer none] w (Pure w (.int .i64 0)) := by
  go_enter Try.func16, Try.ntmps16
  go_wp2
  go_ret
  exact ⟨rfl, Drew.same _⟩
theorem all_nil (w : World) : Calls Try.prog 18 #[.pointer none] w (Pure w (.slice none 0 0)) := by
  go_enter Try.func18, Try.ntmps18
  go_wp2
  go_ret
  exact ⟨rfl, Drew.same _⟩
theorem len_calls (w : World) (b : Nat) (v : Value) (L : List ByteArray) (h : NetAt w 50 b v L) : Calls Try.prog 16 #[.pointer (some ⟨b, 0, none⟩)] w (Pure w (.int .i64 L.length)) := by
  obtain ⟨A, c, rfl, hc1, hc2⟩ := h.row.form
  have hcell : w.cell? ⟨b, 0, none⟩ = some (.slice A L.length c) := h.blk.cell 0
  have hu := Try.underlying50
  clear h
  go_enter Try.func16, Try.ntmps16
  go_wp2
  go_ret
  exact ⟨rfl, Drew.same _⟩
end Go.Proofs.Ytealhicbcbkofaa.A
