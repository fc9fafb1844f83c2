/-
  Contracts of net's functions and of its reference's.
-/
import Derived.Test.YtealhicbcbkofaaH
namespace Go.Proofs.Ytealhicbcbkofaa.A
open Go.RowKit Go.Proofs.Ytealhicbcbkofaa.U
set_option linter.unusedVariables false
set_option linter.unusedSimpArgs false

theorem E26 : Elem Try.prog 26 9 1 16 (.string ByteArray.empty) := ⟨Try.underlying26, by kernel_rfl, by rfl, by decide⟩

abbrev strs (L : List ByteArray) : List Value := L.map Value.string
/-- A net at block b (type t), whose packets are L. -/
structure NetAt (w : World) (t b : Nat) (v : Value) (L : List ByteArray) : Prop where
  blk : Blk w b t #[v]
  row : Row w 9 1 v L.length (strs L)
  few : L.length ≤ 4096
def Foot (b : Nat) (v : Value) : Nat → Prop := fun k => k = b ∨ v.ownBlock = some k
/-- It answers r; the net holds L'; nothing else has turned. -/
def Did (w : World) (t b : Nat) (v : Value) (L' : List ByteArray) (r : Value) (e : Ending) (w' : World) : Prop :=
  e = .returned r ∧ ∃ v', NetAt w' t b v' L' ∧ Keep (Foot b v) w w' ∧ (∀ k, v'.ownBlock = some k → v.ownBlock = some k ∨ w.heap.size ≤ k)

theorem strs_one (L : List ByteArray) : ∀ u ∈ strs L, u.oneCell' = true := by
  intro u hu
  obtain ⟨s, _, rfl⟩ := List.mem_map.1 hu
  rfl

theorem Did.none_ {w w' : World} {t b : Nat} {v : Value} {L : List ByteArray} {r : Value} (h : NetAt w t b v L) (hd : Drew w w') : Did w t b v L r (.returned r) w' := by
  have k : Keep Nothing w w' := (Keep.same Nothing w).drawn hd
  exact ⟨rfl, v, ⟨h.blk.keep k (fun h => h), h.row.keep k (fun _ _ h => h), h.few⟩, k.wider (fun _ h => h.elim), fun _ h => .inl h⟩

/-- A packet was put behind the others: the world behind the store. -/
theorem put_did {w W w1 : World} {t b : Nat} {v v' : Value} {L L' : List ByteArray} {r : Value} (h : NetAt w t b v L) (hk : Keep Nothing w W) (hrow : Row w1 9 1 v' L'.length (strs L')) (hg : W.grownBy w1 v.ownBlock)
    (hloc : v'.ownBlock = v.ownBlock ∨ ∃ k, v'.ownBlock = some k ∧ w.heap.size ≤ k) (ht : 9 ≠ t) (hL : L'.length ≤ 4096) : Did w t b v L' r (.returned r) (w1.setCell ⟨b, 0, none⟩ v') := by
  have hb : Blk W b t #[v] := h.blk.keep hk (fun h => h)
  have hvb : v.ownBlock ≠ some b := h.row.apart h.blk ht
  have hb1 : Blk w1 b t #[v] := hb.grown hg hvb
  have hb2 := hb1.put 0 v'
  refine ⟨rfl, v', ⟨by simpa using hb2, hrow.far (p := ⟨b, 0, none⟩) (hrow.apart hb1 ht) v', hL⟩, ?_, ?_⟩
  · exact ((hk.wider (S' := Foot b v) (fun _ h => h.elim)).grown hg (fun i hi => .inl (.inr hi))).set (.inl (.inl rfl)) v'
  · intro k hk'
    rcases hloc with h1 | ⟨j, h1, h2⟩
    · exact .inl (h1 ▸ hk')
    · rw [h1] at hk'; injection hk' with e; subst e; exact .inr h2

set_option maxRecDepth 100000 in
theorem send_calls (w : World) (b : Nat) (v : Value) (L : List ByteArray) (s : ByteArray) (h : NetAt w 50 b v L) (hL : L.length < 4096) (hs : s.size ≤ 524288) :
    Calls Try.prog 8 #[.pointer (some ⟨b, 0, none⟩), .string s] w (Did w 50 b v (L ++ [s]) (.int .i64 0)) := by
  have H := Lib.hid h
  have hrow := h.row
  obtain ⟨A, c, rfl, hc1, hc2⟩ := h.row.form
  have hcell : w.cell? ⟨b, 0, none⟩ = some (.slice A L.length c) := h.blk.cell 0
  have hlt := h.blk.lt
  have hu := Try.underlying50
  clear h
  have g1 : decide ((4096 : Int) ≤ L.length) = false := by simp; omega
  have g2 : decide ((524288 : Int) < s.size) = false := by simp; omega
  go_enter Try.func8, Try.ntmps8
  go_wp2_with (at_builtin; refine wpList_app _ rfl E26 (.tmp 23) (.tmp 25) rfl (hrow.alloc _) (Src.one w (.string s) 9) 1 rfl rfl (by simp [Value.oneCell']) (by unfold maxLen; omega) (by omega) ?_)
  intro v' w1 hrow1 hgrow hloc
  obtain ⟨A', c', rfl, _, _⟩ := hrow1.form
  have hb1 := (H.out.blk.alloc _).grown hgrow (H.out.row.apart H.out.blk (by decide))
  have hcell1 := hb1.cell 0
  have hfree1 := hb1.free 0
  have R := Lib.hid hrow1
  have G := Lib.hid hgrow
  have O := Lib.hid hloc
  clear hrow1 hgrow hloc hb1
  go_wp2
  go_ret
  refine put_did H.out ((Keep.same Nothing w).alloc _) (by simpa using R.out) G.out (O.out.imp_right fun h => ⟨_, h, by simp⟩) (by decide) (by simp; omega)

/-! ### the answers -/
def sendR (L : List ByteArray) (s : ByteArray) : Int := if 4096 ≤ L.length then 17 else if 524288 < s.size then 15 else 0
def sendL (L : List ByteArray) (s : ByteArray) : List ByteArray := if 4096 ≤ L.length then L else if 524288 < s.size then L else L ++ [s]
def peekS (L : List ByteArray) (n : Int) : ByteArray := if 0 ≤ n ∧ n < L.length then L.getD n.toNat ByteArray.empty else ByteArray.empty
def peekR (L : List ByteArray) (n : Int) : Int := if 0 ≤ n ∧ n < L.length then 0 else 1
def takeL (L : List ByteArray) (n : Int) : List ByteArray := if 0 ≤ n ∧ n < L.length then L.eraseIdx n.toNat else L
def dblR (L : List ByteArray) (n : Int) : Int := if 0 ≤ n ∧ n < L.length then sendR L (peekS L n) else 1
def dblL (L : List ByteArray) (n : Int) : List ByteArray := if 0 ≤ n ∧ n < L.length then sendL L (peekS L n) else L

set_option maxRecDepth 100000 in
theorem send_any (w : World) (b : Nat) (v : Value) (L : List ByteArray) (s : ByteArray) (h : NetAt w 50 b v L) :
    Calls Try.prog 8 #[.pointer (some ⟨b, 0, none⟩), .string s] w (Did w 50 b v (sendL L s) (.int .i64 (sendR L s))) := by
  unfold sendL sendR
  by_cases h1 : 4096 ≤ L.length
  · simp only [if_pos h1]
    have H := Lib.hid h
    obtain ⟨A, c, rfl, _, _⟩ := h.row.form
    have hcell : w.cell? ⟨b, 0, none⟩ = some (.slice A L.length c) := h.blk.cell 0
    have hu := Try.underlying50
    clear h
    have g1 : decide ((4096 : Int) ≤ L.length) = true := by simp; omega
    go_enter Try.func8, Try.ntmps8
    go_wp2
    go_ret
    exact Did.none_ H.out (Drew.same _)
  · by_cases h2 : 524288 < s.size
    · simp only [if_neg h1, if_pos h2]
      have H := Lib.hid h
      obtain ⟨A, c, rfl, _, _⟩ := h.row.form
      have hcell : w.cell? ⟨b, 0, none⟩ = some (.slice A L.length c) := h.blk.cell 0
      have hu := Try.underlying50
      clear h
      have g1 : decide ((4096 : Int) ≤ L.length) = false := by simp; omega
      have g2 : decide ((524288 : Int) < s.size) = true := by simp; omega
      go_enter Try.func8, Try.ntmps8
      go_wp2
      go_ret
      exact Did.none_ H.out (Drew.same _)
    · simp only [if_neg h1, if_neg h2]
      exact send_calls w b v L s h (by omega) (by omega)
theorem send_nil (w : World) (s : ByteArray) : Calls Try.prog 8 #[.pointer none, .string s] w (Pure w (.int .i64 1)) := by
  go_enter Try.func8, Try.ntmps8
  go_wp2
  go_ret
  exact ⟨rfl, Drew.same _⟩

theorem cell_at {w : World} {t b : Nat} {A : Option Addr} {c : Nat} {L : List ByteArray} (h : NetAt w t b (.slice A L.length c) L) {n : Int} (h0 : 0 ≤ n) (h1 : n < L.length) :
    ∃ ad, A = some ad ∧ w.cell? (ad.add n.toNat) = some (.string (L.getD n.toNat ByteArray.empty)) := by
  obtain ⟨ad, u, rfl, hu, hc⟩ := h.row.src.at_ (k := n.toNat) (by omega)
  refine ⟨ad, rfl, ?_⟩
  rw [hc, ← hu]
  rw [List.getElem?_map, List.getD_eq_getElem?_getD, List.getElem?_eq_getElem (by omega)]
  rfl

set_option maxRecDepth 100000 in
theorem peek_calls (w : World) (b : Nat) (v : Value) (L : List ByteArray) (n : Int) (h : NetAt w 50 b v L) :
    Calls Try.prog 12 #[.pointer (some ⟨b, 0, none⟩), .int .i64 n] w (Pure w (.tuple #[.string (peekS L n), .int .i64 (peekR L n)])) := by
  unfold peekS peekR
  obtain ⟨A, c, rfl, hc1, hc2⟩ := h.row.form
  have hcell : w.cell? ⟨b, 0, none⟩ = some (.slice A L.length c) := h.blk.cell 0
  have hu := Try.underlying50
  rcases (show (0 ≤ n ∧ n < L.length) ∨ n < 0 ∨ (0 ≤ n ∧ L.length ≤ n) by omega) with hn | hn | hn
  · simp only [if_pos hn]
    obtain ⟨h0, h1⟩ := hn
    obtain ⟨ad, rfl, hx⟩ := cell_at h h0 h1
    have hl := h.few
    clear h
    obtain ⟨s, hs⟩ : ∃ s, L.getD n.toNat ByteArray.empty = s := ⟨_, rfl⟩
    rw [hs] at hx ⊢
    clear hs
    go_enter Try.func12, Try.ntmps12
    go_wp2
    go_outline
    go_ret2
    exact ⟨rfl, Drew.same _⟩
  · have hn' : ¬ (0 ≤ n ∧ n < L.length) := by omega
    simp only [if_neg hn']
    clear h hn'
    go_enter Try.func12, Try.ntmps12
    go_wp2
    go_ret2
    exact ⟨rfl, Drew.same _⟩
  · have hn' : ¬ (0 ≤ n ∧ n < L.length) := by omega
    simp only [if_neg hn']
    obtain ⟨h0, h1⟩ := hn
    clear h hn'
    go_enter Try.func12, Try.ntmps12
    go_wp2
    go_ret2
    exact ⟨rfl, Drew.same _⟩
end Go.Proofs.Ytealhicbcbkofaa.A
