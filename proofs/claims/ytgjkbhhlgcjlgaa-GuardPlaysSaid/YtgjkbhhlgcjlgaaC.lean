/-
  Contracts of guard's Seen, Log, Clone; of the reference.
-/
import Derived.Test.YtgjkbhhlgcjlgaaB
namespace Go.Proofs.Ytgjkbhhlgcjlgaa.A
open Go.RowKit Go.Proofs.Ytgjkbhhlgcjlgaa.U
set_option linter.unusedVariables false
set_option linter.unusedSimpArgs false

theorem seen_none (w : World) (s : ByteArray) : Calls Try.prog 10 #[.pointer none, .string s] w (Pure w (.int .u64 0)) := by
  go_enter Try.func10, Try.ntmps10
  go_wp2
  go_ret
  exact ⟨rfl, Drew.same _⟩
theorem seen_calls (w : World) (b bm : Nat) (v : Value) (f : ByteArray → Int) (L : List Wr) (s : ByteArray) (h : GuardAt w b bm v f L) : Calls Try.prog 10 #[.pointer (some ⟨b, 0, none⟩), .string s] w (Pure w (.int .u64 (f s))) := by
  have hu45 := Try.underlying45
  have hcell : w.cell? ⟨b, 0, none⟩ = some (.map (some bm)) := h.blk.cell 0
  have hlk : (Instr.lookup 43 (.map (some bm)) (.string s) false).run Try.prog w = .ok (.int .u64 (f s)) w := run_look h.map s
  clear h
  go_enter Try.func10, Try.ntmps10
  go_wp2
  go_ret
  exact ⟨rfl, Drew.same _⟩
theorem run_eql_nil (w : World) (A : Option Addr) (n c : Nat) : (binOp .eql 22 (.slice A n c) (.slice none 0 0)).run Try.prog w = .ok (.bool A.isNone) w := by
  cases A <;> rfl
theorem clone_calls (w : World) (v : Value) (n : Nat) (xs : List Value) (h : Row w 32 3 v n xs) (hx : ∀ u ∈ xs, u.oneCell' = true) (hn : n ≤ 100000) :
    Calls Try.prog 17 #[v] w (fun e w' => ∃ A c, e = .returned (.slice A n c) ∧ Row w' 32 3 (.slice A n c) n xs ∧ Keep Nothing w w') := by
  obtain ⟨A, c, rfl, hc1, hc2⟩ := h.form
  have hu := Try.underlying22
  have hq := run_eql_nil w A n c
  cases A with
  | none =>
    have e0 : n = 0 := by
      rcases h.2 with ⟨_, h0⟩ | ⟨_, _, _, _, h0, _⟩
      · exact h0
      · injection h0 with h0; cases h0
    subst e0
    have hx : xs = [] := List.eq_nil_of_length_eq_zero (by simpa using h.1)
    subst hx
    clear h
    go_enter Try.func17, Try.ntmps17
    go_wp2_with fail
    go_ret
    exact ⟨none, 0, rfl, Row.nil _ 32 3, Keep.same _ _⟩
  | some ad =>
    have H := Lib.hid h
    clear h
    go_enter Try.func17, Try.ntmps17
    go_wp2_with (at_builtin; refine wpList_app _ rfl E22 (.tmp 5) (.tmp 6) rfl (Row.fresh w 32 3 0 #[] rfl (Nat.zero_le _)) (H.out.alloc _).src c rfl rfl hx (by unfold maxLen; omega) (by omega) ?_)
    intro v' w' hr hg hl
    obtain ⟨A', c', rfl, _, _⟩ := hr.form
    have R := Lib.hid hr
    have K := Lib.hid (((Keep.same Nothing w).alloc (.cells #[] 32)).grown hg (fun i hi => by simp [Value.ownBlock] at hi; exact .inr (by omega)))
    clear hr hg hl
    go_wp2
    go_ret
    exact ⟨_, _, rfl, R.out, K.out⟩
theorem log_none (w : World) : Calls Try.prog 13 #[.pointer none] w (Pure w (.slice none 0 0)) := by
  go_enter Try.func13, Try.ntmps13
  go_wp2
  go_ret
  exact ⟨rfl, Drew.same _⟩
theorem log_calls (w : World) (b bm : Nat) (v : Value) (f : ByteArray → Int) (L : List Wr) (h : GuardAt w b bm v f L) (hL : L.length ≤ 100000) :
    Calls Try.prog 13 #[.pointer (some ⟨b, 0, none⟩)] w (fun e w' => ∃ A c, e = .returned (.slice A L.length c) ∧ Row w' 32 3 (.slice A L.length c) L.length (cells L) ∧ Keep Nothing w w') := by
  have hu45 := Try.underlying45
  have hcell : w.cell? ⟨b, 1, none⟩ = some v := h.blk.cell 1
  have R := Lib.hid h.row
  obtain ⟨A, c, rfl, _, _⟩ := h.row.form
  clear h
  go_enter Try.func13, Try.ntmps13
  go_wp2_with fail
  refine (clone_calls w _ _ _ R.out (cells_one L) hL).mono ?_
  rintro e w' ⟨A', c', rfl, hr, hk⟩
  have R' := Lib.hid hr
  have K' := Lib.hid hk
  clear hr hk
  go_wp2_with fail
  go_ret
  exact ⟨_, _, rfl, R'.out, K'.out⟩

/-! ### The reference -/
def seenL (L : List Wr) (s : ByteArray) : Int := L.foldl (fun n p => if p.1 = s then max n p.2 else n) 0
theorem seenL_snoc (L : List Wr) (s t : ByteArray) (x : Int) : seenL (L ++ [(s, x)]) t = if t = s then max (seenL L t) x else seenL L t := by
  unfold seenL
  rw [List.foldl_append]
  simp [eq_comm]
structure RefAt (w : World) (b : Nat) (v : Value) (L : List Wr) : Prop where
  blk : Blk w b 27 #[v]
  row : Row w 32 3 v L.length (cells L)
theorem cells_at (L : List Wr) (k : Nat) (p : Wr) (hk : L[k]? = some p) : (cells L)[k * 3]? = some (.string p.1) ∧ (cells L)[k * 3 + 1]? = some (.bool false) ∧ (cells L)[k * 3 + 2]? = some (.int .u64 p.2) := by
  induction L generalizing k with
  | nil => simp at hk
  | cons x L ih =>
    cases k with
    | zero => simp at hk; subst hk; exact ⟨rfl, rfl, rfl⟩
    | succ k =>
      have e : ∀ j, (cells (x :: L))[(k + 1) * 3 + j]? = (cells L)[k * 3 + j]? := fun j => by
        rw [show (k + 1) * 3 + j = 3 + (k * 3 + j) by omega]
        show ([Value.string x.1, .bool false, .int .u64 x.2] ++ cells L)[3 + (k * 3 + j)]? = _
        rw [List.getElem?_append_right (by simp)]
        simp
      have := ih k (by simpa using hk)
      have e0 := e 0
      rw [Nat.add_zero, Nat.add_zero] at e0
      rw [e0, e 1, e 2]
      exact this
theorem held_at {w : World} {A : Option Addr} {L : List Wr} {n : Nat} (h : Src w A 3 n (cells L)) {k : Nat} {p : Wr} (hk : L[k]? = some p) :
    ∃ ad, A = some ad ∧ w.cell? (ad.add (k * 3)) = some (.string p.1) ∧ w.cell? ⟨(ad.add (k * 3)).block, (ad.add (k * 3)).off + 1, none⟩ = some (.bool false) ∧ w.cell? ⟨(ad.add (k * 3)).block, (ad.add (k * 3)).off + 2, none⟩ = some (.int .u64 p.2) := by
  have hl := h.1
  rw [cells_length] at hl
  have hkl := (List.getElem?_eq_some_iff.1 hk).1
  obtain ⟨ad, rfl, hc⟩ := h.2 (by omega)
  obtain ⟨h0, h1, h2⟩ := cells_at L k p hk
  refine ⟨ad, rfl, hc _ _ h0, ?_, ?_⟩
  · rw [← addLater _ _ _ (by omega)]; exact hc _ _ h1
  · rw [← addLater _ _ _ (by omega)]; exact hc _ _ h2
theorem seenL_take (L : List Wr) (k : Nat) (p : Wr) (hk : L[k]? = some p) (s : ByteArray) : seenL (L.take (k + 1)) s = if s = p.1 then max (seenL (L.take k) s) p.2 else seenL (L.take k) s := by
  obtain ⟨hl, he⟩ := List.getElem?_eq_some_iff.1 hk
  rw [List.take_succ_eq_append_getElem hl, he]
  exact seenL_snoc _ _ _ _
theorem seenL_nonneg (L : List Wr) (s : ByteArray) : 0 ≤ seenL L s := by
  unfold seenL
  have : ∀ (L : List Wr) (n : Int), 0 ≤ n → 0 ≤ L.foldl (fun n p => if p.1 = s then max n p.2 else n) n := by
    intro L
    induction L with
    | nil => intro n hn; exact hn
    | cons x L ih => intro n hn; exact ih _ (by dsimp only; split <;> omega)
  exact this L 0 (by omega)
theorem toList_eq {s t : ByteArray} : (s.toList == t.toList) = decide (s = t) := by rw [← beq_toListBytes, beqB]

set_option maxHeartbeats 800000 in
theorem rseen_calls (w : World) (b : Nat) (v : Value) (L : List Wr) (s : ByteArray) (h : RefAt w b v L) (hL : L.length ≤ 100000) : Calls Try.prog 11 #[.pointer (some ⟨b, 0, none⟩), .string s] w (Pure w (.int .u64 (seenL L s))) := by
  obtain ⟨A, c, rfl, hc1, hc2⟩ := h.row.form
  have hcell : w.cell? ⟨b, 0, none⟩ = some (.slice A L.length c) := h.blk.cell 0
  have hu27 := Try.underlying27
  have hu32 := Try.underlying32
  have R := Lib.hid h.row.src
  clear h
  go_enter Try.func11, Try.ntmps11
  go_wp2_with fail
  go_loopw [5, 6] (fun n i wr => wr = w ∧ ∃ k : Nat, k ≤ L.length ∧ i = .int .i64 k ∧ n = .int .u64 (seenL (L.take k) s)) (fun _ i _ => L.length - (intOf i).toNat)
  case atStart => exact ⟨rfl, 0, Nat.zero_le _, rfl, rfl⟩
  case round =>
    obtain ⟨rfl, k, hk, rfl, rfl⟩ := hrel
    by_cases hlt : k < L.length
    · obtain ⟨p, hp⟩ : ∃ p, L[k]? = some p := ⟨_, List.getElem?_eq_getElem hlt⟩
      obtain ⟨ad, rfl, h0, _, h2⟩ := held_at R.out hp
      have T := Lib.hid (seenL_take L k p hp s)
      clear hp
      by_cases hs : p.1 = s
      · have g1 : (p.1.toList == s.toList) = true := by rw [toList_eq]; exact decide_eq_true hs
        have HS := Lib.hid hs
        clear hs
        generalize seenL (L.take k) s = n0 at *
        go_wp2_with fail
        go_roundw
        case rel => exact ⟨by trivial, k + 1, by omega, by go_num, by rw [T.out, if_pos HS.out.symm]; congr 1; split <;> omega⟩
        case measure => simp [intOf]; omega
      · have g1 : (p.1.toList == s.toList) = false := by rw [toList_eq]; exact decide_eq_false hs
        have HS := Lib.hid hs
        clear hs
        generalize seenL (L.take k) s = n0 at *
        go_wp2_with fail
        go_roundw
        case rel => exact ⟨by trivial, k + 1, by omega, by go_num, by rw [T.out, if_neg (fun e => HS.out e.symm)]⟩
        case measure => simp [intOf]; omega
    · obtain rfl : k = L.length := by omega
      rw [List.take_length]
      generalize seenL L s = n0 at *
      go_wp2_with fail
      go_ret
      exact ⟨rfl, Drew.same _⟩
end Go.Proofs.Ytgjkbhhlgcjlgaa.A
