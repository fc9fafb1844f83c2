/-
  Set, the reference's At, Set, Go.
-/
import Derived.Test.YtdipjjngemgldaaE
namespace Go.Proofs.Ytdipjjngemgldaa.A
open Go.RowKit Go.Proofs.Ytdipjjngemgldaa.U
set_option linter.unusedVariables false
set_option linter.unusedSimpArgs false
set_option maxRecDepth 100000

def SetOk (L : List Int) (k t : Int) : Prop := 0 ≤ k ∧ k < L.length ∧ 0 ≤ t ∧ t ≤ 1099511627776
instance (L : List Int) (k t : Int) : Decidable (SetOk L k t) := by unfold SetOk; infer_instance
def setE (L : List Int) (k t : Int) : Int := if SetOk L k t then 0 else 1
def setL (L : List Int) (k t : Int) : List Int := if SetOk L k t then L.set k.toNat t else L
def SetPost (w : World) (F : Nat → Prop) (ty b : Nat) (L : List Int) (r k t : Int) (e : Ending) (w' : World) : Prop :=
  e = .returned (.int .i64 (setE L k t)) ∧ Step w F (ckP ty b (setL L k t) r) w'
theorem set_no {L : List Int} {k t : Int} (h : ¬ SetOk L k t) : setE L k t = 1 ∧ setL L k t = L := ⟨by unfold setE; rw [if_neg h], by unfold setL; rw [if_neg h]⟩
theorem set_yes {L : List Int} {k t : Int} (h : SetOk L k t) : setE L k t = 0 ∧ setL L k t = L.set k.toNat t := ⟨by unfold setE; rw [if_pos h], by unfold setL; rw [if_pos h]⟩
/-- The store of a number in the clocks' row. -/
theorem set_step {w : World} {ty b : Nat} {F : Nat → Prop} {L : List Int} {r : Int} {ad : Addr} {c : Nat} (hty : 3 ≠ ty) (B : Blk w b ty #[.slice (some ad) L.length c, .int .i64 r]) (R : Row w 3 1 (.slice (some ad) L.length c) L.length (ints L)) (FF : ∀ k, F k ↔ k = b ∨ (Value.slice (some ad) L.length c).ownBlock = some k) {j : Nat} (hj : j < L.length) (t : Int) :
    w.frozen? (ad.add j) = false ∧ Step w F (ckP ty b (L.set j t) r) (w.setCell (ad.add j) (.int .i64 t)) := by
  obtain ⟨hfz, hown, hrs⟩ := row_set R hj t
  have hbb : b ≠ (ad.add j).block := fun e => R.apart B hty (by rw [hown, ← e])
  refine ⟨hfz, F, ⟨_, B.far hbb _, ?_, ?_⟩, (Keep.same F w).set (.inl ((FF _).2 (.inr hown))) _, fun k hk => .inl hk⟩
  · rw [List.length_set]; exact hrs
  · exact FF
set_option maxHeartbeats 3200000 in
theorem set_calls (w : World) (b : Nat) (F : Nat → Prop) (L : List Int) (r k t : Int) (h : ckP 55 b L r w F) :
    Calls Try.prog 11 #[.pointer (some ⟨b, 0, none⟩), .int .i64 k, .int .i64 t] w (SetPost w F 55 b L r k t) := by
  have hu := Try.underlying55
  have HH := Lib.hid (has_calls w b F L r h k)
  have SM := Lib.hid (ck_same h)
  obtain ⟨v, hb, hr, hF⟩ := h
  obtain ⟨A, c, rfl, _, _⟩ := hr.form
  have hc0 := hb.cell 0
  have B := Lib.hid hb
  have R := Lib.hid hr
  have FF := Lib.hid hF
  clear hb hr hF
  by_cases h1 : 0 ≤ k ∧ k < L.length
  · rw [decide_eq_true h1] at HH
    by_cases h2 : t < 0
    · obtain ⟨e1, e2⟩ := set_no (show ¬ SetOk L k t from fun h => by have := h.2.2.1; omega)
      have E1 := Lib.hid e1
      have E2 := Lib.hid e2
      have g1 : decide (t < 0) = true := decide_eq_true h2
      clear e1 e2 h1
      go_enter Try.func11, Try.ntmps11
      go_wp2_with fail
      refine HH.out.mono ?_
      rintro e w' ⟨rfl, rfl⟩
      go_wp2_with fail
      go_ret
      exact ⟨by rw [E1.out]; rfl, by rw [E2.out]; exact SM.out⟩
    · have g1 : decide (t < 0) = false := decide_eq_false h2
      by_cases h3 : 1099511627776 < t
      · obtain ⟨e1, e2⟩ := set_no (show ¬ SetOk L k t from fun h => by have := h.2.2.2; omega)
        have E1 := Lib.hid e1
        have E2 := Lib.hid e2
        have g2 : decide (1099511627776 < t) = true := decide_eq_true h3
        clear e1 e2 h1
        go_enter Try.func11, Try.ntmps11
        go_wp2_with fail
        refine HH.out.mono ?_
        rintro e w' ⟨rfl, rfl⟩
        go_wp2_with fail
        go_ret
        exact ⟨by rw [E1.out]; rfl, by rw [E2.out]; exact SM.out⟩
      · have g2 : decide (1099511627776 < t) = false := decide_eq_false h3
        obtain ⟨e1, e2⟩ := set_yes (show SetOk L k t from ⟨h1.1, h1.2, by omega, by omega⟩)
        obtain ⟨j, rfl⟩ : ∃ j : Nat, k = j := ⟨k.toNat, by omega⟩
        have hj : j < L.length := by omega
        rw [Int.toNat_natCast] at e2
        obtain ⟨ad, x, rfl, hx, hc⟩ := i_at R.out.src hj
        obtain ⟨hfz, hst⟩ := set_step (by decide) B.out R.out FF.out hj t
        have E1 := Lib.hid e1
        have E2 := Lib.hid e2
        have ST := Lib.hid hst
        have j1 : (j : Int) < L.length := h1.2
        clear e1 e2 h1 hx hst
        go_enter Try.func11, Try.ntmps11
        go_wp2_with fail
        refine HH.out.mono ?_
        rintro e w' ⟨rfl, rfl⟩
        go_wp2_with fail
        go_ret
        exact ⟨by rw [E1.out]; rfl, by rw [E2.out]; exact ST.out⟩
  · rw [decide_eq_false h1] at HH
    obtain ⟨e1, e2⟩ := set_no (show ¬ SetOk L k t from fun h => h1 ⟨h.1, h.2.1⟩)
    have E1 := Lib.hid e1
    have E2 := Lib.hid e2
    clear e1 e2 h1
    go_enter Try.func11, Try.ntmps11
    go_wp2_with fail
    refine HH.out.mono ?_
    rintro e w' ⟨rfl, rfl⟩
    go_wp2_with fail
    go_ret
    exact ⟨by rw [E1.out]; rfl, by rw [E2.out]; exact SM.out⟩
set_option maxHeartbeats 3200000 in
theorem rset_calls (w : World) (b : Nat) (F : Nat → Prop) (L : List Int) (r k t : Int) (h : ckP 44 b L r w F) :
    Calls Try.prog 12 #[.pointer (some ⟨b, 0, none⟩), .int .i64 k, .int .i64 t] w (SetPost w F 44 b L r k t) := by
  have hu := Try.underlying44
  have SM := Lib.hid (ck_same h)
  obtain ⟨v, hb, hr, hF⟩ := h
  obtain ⟨A, c, rfl, _, _⟩ := hr.form
  have hc0 := hb.cell 0
  have B := Lib.hid hb
  have R := Lib.hid hr
  have FF := Lib.hid hF
  clear hb hr hF
  by_cases h0 : k < 0
  · obtain ⟨e1, e2⟩ := set_no (show ¬ SetOk L k t from fun h => by have := h.1; omega)
    have E1 := Lib.hid e1
    have E2 := Lib.hid e2
    have g0 : decide (k < 0) = true := decide_eq_true h0
    clear e1 e2
    go_enter Try.func12, Try.ntmps12
    go_wp2_with fail
    go_ret
    exact ⟨by rw [E1.out]; rfl, by rw [E2.out]; exact SM.out⟩
  · have g0 : decide (k < 0) = false := decide_eq_false h0
    by_cases h1 : (L.length : Int) ≤ k
    · obtain ⟨e1, e2⟩ := set_no (show ¬ SetOk L k t from fun h => by have := h.2.1; omega)
      have E1 := Lib.hid e1
      have E2 := Lib.hid e2
      have g1 : decide ((L.length : Int) ≤ k) = true := decide_eq_true h1
      clear e1 e2
      go_enter Try.func12, Try.ntmps12
      go_wp2_with fail
      go_ret
      exact ⟨by rw [E1.out]; rfl, by rw [E2.out]; exact SM.out⟩
    · have g1 : decide ((L.length : Int) ≤ k) = false := decide_eq_false h1
      by_cases h2 : t < 0
      · obtain ⟨e1, e2⟩ := set_no (show ¬ SetOk L k t from fun h => by have := h.2.2.1; omega)
        have E1 := Lib.hid e1
        have E2 := Lib.hid e2
        have g2 : decide (t < 0) = true := decide_eq_true h2
        clear e1 e2
        go_enter Try.func12, Try.ntmps12
        go_wp2_with fail
        go_ret
        exact ⟨by rw [E1.out]; rfl, by rw [E2.out]; exact SM.out⟩
      · have g2 : decide (t < 0) = false := decide_eq_false h2
        by_cases h3 : 1099511627776 < t
        · obtain ⟨e1, e2⟩ := set_no (show ¬ SetOk L k t from fun h => by have := h.2.2.2; omega)
          have E1 := Lib.hid e1
          have E2 := Lib.hid e2
          have g3 : decide (1099511627776 < t) = true := decide_eq_true h3
          clear e1 e2
          go_enter Try.func12, Try.ntmps12
          go_wp2_with fail
          go_ret
          exact ⟨by rw [E1.out]; rfl, by rw [E2.out]; exact SM.out⟩
        · have g3 : decide (1099511627776 < t) = false := decide_eq_false h3
          obtain ⟨e1, e2⟩ := set_yes (show SetOk L k t from ⟨by omega, by omega, by omega, by omega⟩)
          obtain ⟨j, rfl⟩ : ∃ j : Nat, k = j := ⟨k.toNat, by omega⟩
          have hj : j < L.length := by omega
          rw [Int.toNat_natCast] at e2
          obtain ⟨ad, x, rfl, hx, hc⟩ := i_at R.out.src hj
          obtain ⟨hfz, hst⟩ := set_step (by decide) B.out R.out FF.out hj t
          have E1 := Lib.hid e1
          have E2 := Lib.hid e2
          have ST := Lib.hid hst
          have j1 : (j : Int) < L.length := by omega
          have g4 : decide (L.length ≤ j) = false := decide_eq_false (by omega)
          clear e1 e2 hx hst
          go_enter Try.func12, Try.ntmps12
          go_wp2_with fail
          go_ret
          exact ⟨by rw [E1.out]; rfl, by rw [E2.out]; exact ST.out⟩
set_option maxHeartbeats 3200000 in
theorem rat_calls (w : World) (b : Nat) (F : Nat → Prop) (L : List Int) (r : Int) (h : ckP 44 b L r w F) (k : Int) :
    Calls Try.prog 16 #[.pointer (some ⟨b, 0, none⟩), .int .i64 k] w (fun e w' => e = .returned (.int .i64 (atV L k)) ∧ w' = w) := by
  have hu := Try.underlying44
  obtain ⟨v, hb, hr, hF⟩ := h
  obtain ⟨A, c, rfl, _, _⟩ := hr.form
  have hc0 := hb.cell 0
  have R := Lib.hid hr
  clear hb hr hF
  by_cases h0 : k < 0
  · have V := Lib.hid (show atV L k = 0 by unfold atV; rw [if_neg (by omega)])
    have g0 : decide (k < 0) = true := decide_eq_true h0
    go_enter Try.func16, Try.ntmps16
    go_wp2_with fail
    go_ret
    exact ⟨by rw [V.out]; rfl, rfl⟩
  · have g0 : decide (k < 0) = false := decide_eq_false h0
    by_cases h1 : (L.length : Int) ≤ k
    · have V := Lib.hid (show atV L k = 0 by
        unfold atV
        split
        · rw [List.getD_eq_getElem?_getD, List.getElem?_eq_none (by omega)]; rfl
        · rfl)
      have g1 : decide ((L.length : Int) ≤ k) = true := decide_eq_true h1
      go_enter Try.func16, Try.ntmps16
      go_wp2_with fail
      go_ret
      exact ⟨by rw [V.out]; rfl, rfl⟩
    · have g1 : decide ((L.length : Int) ≤ k) = false := decide_eq_false h1
      obtain ⟨j, rfl⟩ : ∃ j : Nat, k = j := ⟨k.toNat, by omega⟩
      obtain ⟨ad, x, rfl, hx, hc⟩ := i_at R.out.src (show j < L.length by omega)
      have V := Lib.hid (show atV L j = x by unfold atV; rw [if_pos (by omega), Int.toNat_natCast, List.getD_eq_getElem?_getD, hx]; rfl)
      have j1 : (j : Int) < L.length := by omega
      have g4 : decide (L.length ≤ j) = false := decide_eq_false (by omega)
      clear hx
      go_enter Try.func16, Try.ntmps16
      go_wp2_with fail
      go_ret
      exact ⟨by rw [V.out]; rfl, rfl⟩
end Go.Proofs.Ytdipjjngemgldaa.A
