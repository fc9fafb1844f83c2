/-
  The readers.
-/
import Derived.Test.YtjojibgihoebaaaD
namespace Go.Proofs.Ytjojibgihoebaaa.A
open Go.RowKit Go.Proofs.Ytjojibgihoebaaa.U
set_option linter.unusedVariables false
set_option linter.unusedSimpArgs false

/-- What a reader is: what is left; whether it is bad. -/
structure Rd where
  s : ByteArray
  bad : Bool
def Rd.cs (x : Rd) : Array Value := #[.string x.s, .bool x.bad]
def Rd.no (x : Rd) : Rd := ⟨x.s, true⟩
def Rd.from_ (x : Rd) (k : Nat) : Rd := ⟨x.s.extract k x.s.size, false⟩
def uV (x : Rd) : Nat := if x.bad then 0 else match rdU x.s 0 0 with
  | some (n, _) => n
  | none => 0
def uN (x : Rd) : Rd := if x.bad then x else match rdU x.s 0 0 with
  | some (_, k) => x.from_ k
  | none => x.no
def iV (x : Rd) : Int := unzig (uV x)
def tooBig (x : Rd) (n : Nat) : Prop := 524288 < n ∨ x.s.size < n
instance (x : Rd) (n : Nat) : Decidable (tooBig x n) := inferInstanceAs (Decidable (_ ∨ _))
def tV (x : Rd) : ByteArray := if (uN x).bad then ByteArray.empty else if tooBig (uN x) (uV x) then ByteArray.empty else (uN x).s.extract 0 (uV x)
def tN (x : Rd) : Rd := if (uN x).bad then uN x else if tooBig (uN x) (uV x) then (uN x).no else (uN x).from_ (uV x)
def dV (x : Rd) : Int := if x.bad then 2 else if x.s.size = 0 then 0 else 2
theorem uV_bad {x : Rd} (h : x.bad = true) : uV x = 0 := by unfold uV; rw [if_pos h]
theorem uN_bad {x : Rd} (h : x.bad = true) : uN x = x := by unfold uN; rw [if_pos h]
theorem uV_some {x : Rd} (h : x.bad = false) {n k : Nat} (hr : rdU x.s 0 0 = some (n, k)) : uV x = n := by unfold uV; rw [h, hr]; rfl
theorem uN_some {x : Rd} (h : x.bad = false) {n k : Nat} (hr : rdU x.s 0 0 = some (n, k)) : uN x = x.from_ k := by unfold uN; rw [h, hr]; rfl
theorem uV_none {x : Rd} (h : x.bad = false) (hr : rdU x.s 0 0 = none) : uV x = 0 := by unfold uV; rw [h, hr]; rfl
theorem uN_none {x : Rd} (h : x.bad = false) (hr : rdU x.s 0 0 = none) : uN x = x.no := by unfold uN; rw [h, hr]; rfl
theorem uV_lt (x : Rd) : uV x < 18446744073709551616 := by
  unfold uV
  split
  · omega
  · split
    · rename_i n k h
      exact (rdU_wrote h).1
    · omega

/-- A call that turns one block alone. -/
def Turns (w : World) (b t : Nat) (v : Value) (cs : Array Value) (e : Ending) (w' : World) : Prop := e = .returned v ∧ Blk w' b t cs ∧ Keep (fun k => k = b) w w'

theorem fail_calls (w : World) (b : Nat) (x : Rd) (h : Blk w b 97 x.cs) : Calls Try.prog 54 #[.pointer (some ⟨b, 0, none⟩)] w (Turns w b 97 (.int .u64 0) x.no.cs) := by
  have hu := Try.underlying97
  have hf := h.free 1
  have hc := h.cell 1
  have H := Lib.hid h
  clear h
  simp only [Rd.cs] at hc
  have hf' : w.frozen? ⟨b, 1, none⟩ = false := hf
  go_enter Try.func54, Try.ntmps54
  go_wp2_with fail
  go_ret
  refine ⟨rfl, ?_, (Keep.same (fun k => k = b) w).set (p := ⟨b, 1, none⟩) (.inl rfl) _⟩
  have := H.out.put 1 (.bool true)
  simpa [Rd.cs, Rd.no] using this
theorem and127b (n : Nat) (h : n < 256) : bits .and .u8 (n : Int) 127 = ((n % 128 : Nat) : Int) := by
  have h1 := (bits_nat .u8 8 (by decide) (fun n h0 h1 => by rw [IntKind.wrap_u8]; omega) n 127 (by omega) (by omega)).1
  have e : (n &&& 127 : Nat) = n % 128 := by
    have := Nat.and_two_pow_sub_one_eq_mod n 7
    simpa using this
  rw [e] at h1
  exact h1
theorem rd_val (i m c : Nat) (hi : i < 9 ∨ (i = 9 ∧ c ≤ 1)) (hm : m < 2 ^ (7 * i)) (hc : c < 256) : m + c % 128 * 2 ^ (7 * i) < 18446744073709551616 ∧ bits .or .u64 m ((c % 128 * 2 ^ (7 * i) : Nat) : Int) = ((m + c % 128 * 2 ^ (7 * i) : Nat) : Int) ∧ bits .or .u64 m (IntKind.u64.wrap ((c : Int) % 128 * 2 ^ (7 * i))) = ((m + c % 128 * 2 ^ (7 * i) : Nat) : Int) := by
  have hlt : m + c % 128 * 2 ^ (7 * i) < 18446744073709551616 := by
    rcases p7 i (by omega) with ⟨rfl, h⟩ | ⟨rfl, h⟩ | ⟨rfl, h⟩ | ⟨rfl, h⟩ | ⟨rfl, h⟩ | ⟨rfl, h⟩ | ⟨rfl, h⟩ | ⟨rfl, h⟩ | ⟨rfl, h⟩ | ⟨rfl, h⟩ <;> (rw [h] at hm ⊢; omega)
  have h1 : bits .or .u64 m ((c % 128 * 2 ^ (7 * i) : Nat) : Int) = ((m + c % 128 * 2 ^ (7 * i) : Nat) : Int) := by
    have := (bits_nat .u64 64 (by decide) (fun n h0 h1 => by rw [IntKind.wrap_u64]; omega) m (c % 128 * 2 ^ (7 * i)) (by omega) (by omega)).2
    rw [this, Nat.or_comm, Nat.mul_comm, ← Nat.two_pow_add_eq_or_of_lt hm, Nat.add_comm]
  have e : ((c : Int) % 128 * 2 ^ (7 * i)) = ((c % 128 * 2 ^ (7 * i) : Nat) : Int) := by
    rw [Int.natCast_mul, Int.natCast_pow]; rfl
  refine ⟨hlt, h1, ?_⟩
  rw [e, IntKind.wrap_u64, Int.emod_eq_of_lt (by omega) (by omega)]
  exact h1
set_option maxRecDepth 100000 in
set_option maxHeartbeats 1600000 in
theorem rdu_calls (w : World) (b : Nat) (x : Rd) (h : Blk w b 97 x.cs) : Calls Try.prog 27 #[.pointer (some ⟨b, 0, none⟩)] w (Turns w b 97 (.int .u64 (uV x)) (uN x).cs) := by
  have hu := Try.underlying97
  have H := Lib.hid h
  have hc0 := h.cell 0
  have hc1 := h.cell 1
  have hf0 := h.free 0
  have hf1 := h.free 1
  simp only [Rd.cs] at hc0 hc1
  clear h
  cases hbad : x.bad with
  | true =>
    rw [hbad] at hc1
    have V := Lib.hid (uV_bad hbad)
    have N := Lib.hid (uN_bad hbad)
    have BD := Lib.hid hbad
    clear hbad
    go_enter Try.func27, Try.ntmps27
    go_wp2_with fail
    go_ret
    exact ⟨by rw [V.out]; rfl, by rw [N.out]; exact H.out, Keep.same _ _⟩
  | false =>
    rw [hbad] at hc1
    have BD := Lib.hid hbad
    clear hbad
    go_enter Try.func27, Try.ntmps27
    go_wp2_with fail
    go_loopw [3, 14] (fun nv iv wr => wr = w ∧ ∃ i m : Nat, i ≤ 10 ∧ i ≤ x.s.size ∧ iv = .int .i64 i ∧ nv = .int .u64 m ∧ m < 2 ^ (7 * i) ∧ rdU x.s 0 0 = rdU x.s i m) (fun _ iv _ => 10 - (intOf iv).toNat)
    case atStart => exact ⟨by trivial, 0, 0, by omega, by omega, by simp, by simp, by simp, rfl⟩
    case round =>
      obtain ⟨rfl, i, m, hi, his, rfl, rfl, hm, hrd⟩ := hrel
      have RD := Lib.hid hrd
      have HM := Lib.hid hm
      clear hrd hm
      by_cases hin : i < 10 ∧ i < x.s.size
      · obtain ⟨hi1, hi2⟩ := hin
        have hb8 := byteAt_lt x.s i
        have hbe := byteAt_eq x.s i hi2
        have g0 : ((i : Int) == (x.s.size : Int)) = false := by rw [beq_eq_false_iff_ne]; omega
        have j1 : (i : Int) < x.s.size := by omega
        rw [hbe] at hb8
        have hand := and127b x.s[i].toNat hb8
        have BB := Lib.hid (@rdU_bad x.s i m)
        have BE := Lib.hid (@rdU_end x.s i m ⟨hi1, hi2⟩)
        have BG := Lib.hid (@rdU_go x.s i m ⟨hi1, hi2⟩)
        rw [hbe] at BB BE BG
        have VAL := Lib.hid (fun h : i < 9 ∨ (i = 9 ∧ x.s[i].toNat ≤ 1) => rd_val i m x.s[i].toNat h HM.out hb8)
        clear hbe
        rcases (show (i = 0 ∧ x.s[i].toNat = 0) ∨ (i ≠ 9 ∧ x.s[i].toNat ≠ 0) ∨ (i = 9 ∧ x.s[i].toNat = 1) ∨ (i = 9 ∧ 1 < x.s[i].toNat) ∨ (i ≠ 0 ∧ x.s[i].toNat = 0) by omega) with ⟨h9, hc⟩ | ⟨h9, hc⟩ | ⟨h9, hc⟩ | ⟨h9, hc⟩ | ⟨h9, hc⟩
        · have g9 : ((i : Int) == 9) = false := by rw [beq_eq_false_iff_ne]; omega
          have gi : decide ((0 : Int) < (i : Int)) = false := decide_eq_false (by omega)
          have gd : decide ((1 : Int) < (x.s[i].toNat : Int)) = false := decide_eq_false (by omega)
          obtain ⟨V1, V2, V3⟩ := VAL.out (by omega)
          clear V2
          have hc8 : x.s[i].toNat < 128 := by omega
          have EQ := Lib.hid (RD.out.trans (BE.out (by omega) hc8))
          have V := Lib.hid (uV_some BD.out EQ.out)
          have N := Lib.hid (uN_some BD.out EQ.out)
          have hmod : x.s[i].toNat % 128 = x.s[i].toNat := by omega
          rw [hmod] at V3
          have V4 := Lib.hid V3
          clear hmod V3
          have HC := Lib.hid hc
          clear hc gd
          obtain rfl := h9
          obtain rfl : m = 0 := by have := HM.out; omega
          go_wp2_with fail
          go_ret
          refine ⟨by rw [V.out, HC.out]; rfl, ?_, (Keep.same (fun k => k = b) wr).set (p := ⟨b, 0, none⟩) (.inl rfl) _⟩
          rw [N.out]
          have := H.out.put 0 (.string (x.s.extract (0 + 1) x.s.size))
          simpa [Rd.cs, Rd.from_, BD.out] using this
        · have g9 : ((i : Int) == 9) = false := by rw [beq_eq_false_iff_ne]; omega
          have gc : ((x.s[i].toNat : Int) == 0) = false := by rw [beq_eq_false_iff_ne]; omega
          obtain ⟨V1, V2, V3⟩ := VAL.out (by omega)
          clear V2
          by_cases hc8 : x.s[i].toNat < 128
          · have EQ := Lib.hid (RD.out.trans (BE.out (by omega) hc8))
            have V := Lib.hid (uV_some BD.out EQ.out)
            have N := Lib.hid (uN_some BD.out EQ.out)
            have hmod : x.s[i].toNat % 128 = x.s[i].toNat := by omega
            rw [hmod] at V3
            have V4 := Lib.hid V3
            clear hmod V3 h9 hc
            go_wp2_with fail
            go_ret
            refine ⟨by rw [V.out, V4.out]; rfl, ?_, (Keep.same (fun k => k = b) wr).set (p := ⟨b, 0, none⟩) (.inl rfl) _⟩
            rw [N.out]
            have := H.out.put 0 (.string (x.s.extract (i + 1) x.s.size))
            simpa [Rd.cs, Rd.from_, BD.out] using this
          · have EQ := Lib.hid (RD.out.trans (BG.out (by omega) hc8))
            have V4 := Lib.hid V3
            have hle : m + x.s[i].toNat % 128 * 2 ^ (7 * i) < 2 ^ (7 * (i + 1)) := by
              have h1 := HM.out
              have h2 : x.s[i].toNat % 128 * 2 ^ (7 * i) ≤ 127 * 2 ^ (7 * i) := Nat.mul_le_mul_right _ (by omega)
              rw [show 7 * (i + 1) = 7 * i + 7 by omega, Nat.pow_add]
              omega
            have LE := Lib.hid hle
            clear V3 hle h9 hc
            go_wp2_with fail
            go_roundw
            case rel => exact ⟨by trivial, i + 1, m + x.s[i].toNat % 128 * 2 ^ (7 * i), by omega, by omega, by go_num, by rw [V4.out], LE.out, EQ.out⟩
            case measure => simp [intOf]; omega
        · have g9 : ((i : Int) == 9) = true := by rw [beq_iff_eq]; omega
          have gc : ((x.s[i].toNat : Int) == 0) = false := by rw [beq_eq_false_iff_ne]; omega
          have gd : decide ((1 : Int) < (x.s[i].toNat : Int)) = false := decide_eq_false (by omega)
          obtain ⟨V1, V2, V3⟩ := VAL.out (by omega)
          clear V2
          have hc8 : x.s[i].toNat < 128 := by omega
          have EQ := Lib.hid (RD.out.trans (BE.out (by omega) hc8))
          have V := Lib.hid (uV_some BD.out EQ.out)
          have N := Lib.hid (uN_some BD.out EQ.out)
          have hmod : x.s[i].toNat % 128 = x.s[i].toNat := by omega
          rw [hmod] at V3
          have V4 := Lib.hid V3
          clear hmod V3 h9 hc
          go_wp2_with fail
          go_ret
          refine ⟨by rw [V.out, V4.out]; rfl, ?_, (Keep.same (fun k => k = b) wr).set (p := ⟨b, 0, none⟩) (.inl rfl) _⟩
          rw [N.out]
          have := H.out.put 0 (.string (x.s.extract (i + 1) x.s.size))
          simpa [Rd.cs, Rd.from_, BD.out] using this
        · have g9 : ((i : Int) == 9) = true := by rw [beq_iff_eq]; omega
          have gc : ((x.s[i].toNat : Int) == 0) = false := by rw [beq_eq_false_iff_ne]; omega
          have gd : decide ((1 : Int) < (x.s[i].toNat : Int)) = true := decide_eq_true (by omega)
          have EQ := Lib.hid (RD.out.trans (BB.out (by omega)))
          clear h9 hc
          have V := Lib.hid (uV_none BD.out EQ.out)
          have N := Lib.hid (uN_none BD.out EQ.out)
          go_wp2_with fail
          refine (fail_calls _ _ _ H.out).mono ?_
          rintro e w2 ⟨rfl, hb2, hk2⟩
          have B2 := Lib.hid hb2
          have K2 := Lib.hid hk2
          clear hb2 hk2
          go_wp2_with fail
          go_ret
          exact ⟨by rw [V.out]; rfl, by rw [N.out]; exact B2.out, K2.out⟩
        · have gc : ((x.s[i].toNat : Int) == 0) = true := by rw [beq_iff_eq]; omega
          have gi : decide (0 < i) = true := decide_eq_true (by omega)
          have gd : decide ((1 : Int) < (x.s[i].toNat : Int)) = false := decide_eq_false (by omega)
          by_cases h99 : i = 9
          · have g9 : ((i : Int) == 9) = true := by rw [beq_iff_eq]; omega
            have EQ := Lib.hid (RD.out.trans (BB.out (by omega)))
            clear h9 hc h99
            have V := Lib.hid (uV_none BD.out EQ.out)
            have N := Lib.hid (uN_none BD.out EQ.out)
            go_wp2_with fail
            refine (fail_calls _ _ _ H.out).mono ?_
            rintro e w2 ⟨rfl, hb2, hk2⟩
            have B2 := Lib.hid hb2
            have K2 := Lib.hid hk2
            clear hb2 hk2
            go_wp2_with fail
            go_ret
            exact ⟨by rw [V.out]; rfl, by rw [N.out]; exact B2.out, K2.out⟩
          · have g9 : ((i : Int) == 9) = false := by rw [beq_eq_false_iff_ne]; omega
            have EQ := Lib.hid (RD.out.trans (BB.out (by omega)))
            clear h9 hc h99
            have V := Lib.hid (uV_none BD.out EQ.out)
            have N := Lib.hid (uN_none BD.out EQ.out)
            go_wp2_with fail
            refine (fail_calls _ _ _ H.out).mono ?_
            rintro e w2 ⟨rfl, hb2, hk2⟩
            have B2 := Lib.hid hb2
            have K2 := Lib.hid hk2
            clear hb2 hk2
            go_wp2_with fail
            go_ret
            exact ⟨by rw [V.out]; rfl, by rw [N.out]; exact B2.out, K2.out⟩
      · have EQ := Lib.hid (RD.out.trans (rdU_out hin))
        by_cases hi10 : i < 10
        · have g0 : ((i : Int) == (x.s.size : Int)) = true := by rw [beq_iff_eq]; omega
          have V := Lib.hid (uV_none BD.out EQ.out)
          have N := Lib.hid (uN_none BD.out EQ.out)
          go_wp2_with fail
          refine (fail_calls _ _ _ H.out).mono ?_
          rintro e w2 ⟨rfl, hb2, hk2⟩
          have B2 := Lib.hid hb2
          have K2 := Lib.hid hk2
          clear hb2 hk2
          go_wp2_with fail
          go_ret
          exact ⟨by rw [V.out]; rfl, by rw [N.out]; exact B2.out, K2.out⟩
        · have V := Lib.hid (uV_none BD.out EQ.out)
          have N := Lib.hid (uN_none BD.out EQ.out)
          go_wp2_with fail
          refine (fail_calls _ _ _ H.out).mono ?_
          rintro e w2 ⟨rfl, hb2, hk2⟩
          have B2 := Lib.hid hb2
          have K2 := Lib.hid hk2
          clear hb2 hk2
          go_wp2_with fail
          go_ret
          exact ⟨by rw [V.out]; rfl, by rw [N.out]; exact B2.out, K2.out⟩
set_option maxRecDepth 100000 in
set_option maxHeartbeats 1600000 in
theorem rrdu_calls (w : World) (b : Nat) (x : Rd) (h : Blk w b 44 x.cs) : Calls Try.prog 28 #[.pointer (some ⟨b, 0, none⟩)] w (Turns w b 44 (.int .u64 (uV x)) (uN x).cs) := by
  have hu := Try.underlying44
  have H := Lib.hid h
  have hc0 := h.cell 0
  have hc1 := h.cell 1
  have hf0 := h.free 0
  have hf1 := h.free 1
  simp only [Rd.cs] at hc0 hc1
  clear h
  cases hbad : x.bad with
  | true =>
    rw [hbad] at hc1
    have V := Lib.hid (uV_bad hbad)
    have N := Lib.hid (uN_bad hbad)
    have BD := Lib.hid hbad
    clear hbad
    by_cases hz : 0 < x.s.size
    · have j1 : (0 : Int) < x.s.size := by omega
      go_enter Try.func28, Try.ntmps28
      go_wp2_with fail
      go_loopw [3, 4] (fun nv iv wr => wr = w ∧ iv = .int .i64 0) (fun _ iv _ => 0)
      case atStart => exact ⟨by trivial, by simp⟩
      case round =>
        obtain ⟨rfl, rfl⟩ := hrel
        go_wp2_with fail
        go_ret
        refine ⟨by rw [V.out]; rfl, ?_, (Keep.same (fun k => k = b) wr).set (p := ⟨b, 1, none⟩) (.inl rfl) _⟩
        rw [N.out]
        have := H.out.put 1 (.bool true)
        simpa [Rd.cs, BD.out] using this
    · have j1 : ¬ (0 : Int) < x.s.size := by omega
      go_enter Try.func28, Try.ntmps28
      go_wp2_with fail
      go_loopw [3, 4] (fun nv iv wr => wr = w ∧ iv = .int .i64 0) (fun _ iv _ => 0)
      case atStart => exact ⟨by trivial, by simp⟩
      case round =>
        obtain ⟨rfl, rfl⟩ := hrel
        go_wp2_with fail
        go_ret
        refine ⟨by rw [V.out]; rfl, ?_, (Keep.same (fun k => k = b) wr).set (p := ⟨b, 1, none⟩) (.inl rfl) _⟩
        rw [N.out]
        have := H.out.put 1 (.bool true)
        simpa [Rd.cs, BD.out] using this
  | false =>
    rw [hbad] at hc1
    have BD := Lib.hid hbad
    clear hbad
    go_enter Try.func28, Try.ntmps28
    go_wp2_with fail
    go_loopw [3, 4] (fun nv iv wr => wr = w ∧ ∃ i m : Nat, i ≤ 10 ∧ i ≤ x.s.size ∧ iv = .int .i64 i ∧ nv = .int .u64 m ∧ m < 2 ^ (7 * i) ∧ rdU x.s 0 0 = rdU x.s i m) (fun _ iv _ => 10 - (intOf iv).toNat)
    case atStart => exact ⟨by trivial, 0, 0, by omega, by omega, by simp, by simp, by simp, rfl⟩
    case round =>
      obtain ⟨rfl, i, m, hi, his, rfl, rfl, hm, hrd⟩ := hrel
      have RD := Lib.hid hrd
      have HM := Lib.hid hm
      clear hrd hm
      by_cases hin : i < 10 ∧ i < x.s.size
      · obtain ⟨hi1, hi2⟩ := hin
        have hb8 := byteAt_lt x.s i
        have hbe := byteAt_eq x.s i hi2
        have g0 : ((i : Int) == (x.s.size : Int)) = false := by rw [beq_eq_false_iff_ne]; omega
        have j1 : (i : Int) < x.s.size := by omega
        rw [hbe] at hb8
        have hand := and127 x.s[i].toNat (by omega)
        have BB := Lib.hid (@rdU_bad x.s i m)
        have BE := Lib.hid (@rdU_end x.s i m ⟨hi1, hi2⟩)
        have BG := Lib.hid (@rdU_go x.s i m ⟨hi1, hi2⟩)
        rw [hbe] at BB BE BG
        have VAL := Lib.hid (fun h : i < 9 ∨ (i = 9 ∧ x.s[i].toNat ≤ 1) => rd_val i m x.s[i].toNat h HM.out hb8)
        clear hbe
        rcases (show (i = 0 ∧ x.s[i].toNat = 0) ∨ (i ≠ 9 ∧ x.s[i].toNat ≠ 0) ∨ (i = 9 ∧ x.s[i].toNat = 1) ∨ (i = 9 ∧ 1 < x.s[i].toNat) ∨ (i ≠ 0 ∧ x.s[i].toNat = 0) by omega) with ⟨h9, hc⟩ | ⟨h9, hc⟩ | ⟨h9, hc⟩ | ⟨h9, hc⟩ | ⟨h9, hc⟩
        · have g9 : ((i : Int) == 9) = false := by rw [beq_eq_false_iff_ne]; omega
          have gi : decide ((0 : Int) < (i : Int)) = false := decide_eq_false (by omega)
          have gd : decide ((1 : Int) < (x.s[i].toNat : Int)) = false := decide_eq_false (by omega)
          obtain ⟨V1, V2, V3⟩ := VAL.out (by omega)
          clear V2
          have hc8 : x.s[i].toNat < 128 := by omega
          have EQ := Lib.hid (RD.out.trans (BE.out (by omega) hc8))
          have V := Lib.hid (uV_some BD.out EQ.out)
          have N := Lib.hid (uN_some BD.out EQ.out)
          have hmod : x.s[i].toNat % 128 = x.s[i].toNat := by omega
          rw [hmod] at V3
          have V4 := Lib.hid V3
          clear hmod V3
          have HC := Lib.hid hc
          clear hc gd
          obtain rfl := h9
          obtain rfl : m = 0 := by have := HM.out; omega
          go_wp2_with fail
          go_ret
          refine ⟨by rw [V.out, HC.out]; rfl, ?_, (Keep.same (fun k => k = b) wr).set (p := ⟨b, 0, none⟩) (.inl rfl) _⟩
          rw [N.out]
          have := H.out.put 0 (.string (x.s.extract (0 + 1) x.s.size))
          simpa [Rd.cs, Rd.from_, BD.out] using this
        · have g9 : ((i : Int) == 9) = false := by rw [beq_eq_false_iff_ne]; omega
          have gc : ((x.s[i].toNat : Int) == 0) = false := by rw [beq_eq_false_iff_ne]; omega
          obtain ⟨V1, V2, V3⟩ := VAL.out (by omega)
          clear V2
          by_cases hc8 : x.s[i].toNat < 128
          · have EQ := Lib.hid (RD.out.trans (BE.out (by omega) hc8))
            have V := Lib.hid (uV_some BD.out EQ.out)
            have N := Lib.hid (uN_some BD.out EQ.out)
            have hmod : x.s[i].toNat % 128 = x.s[i].toNat := by omega
            rw [hmod] at V3
            have V4 := Lib.hid V3
            clear hmod V3 h9 hc
            go_wp2_with fail
            go_ret
            refine ⟨by rw [V.out, V4.out]; rfl, ?_, (Keep.same (fun k => k = b) wr).set (p := ⟨b, 0, none⟩) (.inl rfl) _⟩
            rw [N.out]
            have := H.out.put 0 (.string (x.s.extract (i + 1) x.s.size))
            simpa [Rd.cs, Rd.from_, BD.out] using this
          · have EQ := Lib.hid (RD.out.trans (BG.out (by omega) hc8))
            have V4 := Lib.hid V3
            have hle : m + x.s[i].toNat % 128 * 2 ^ (7 * i) < 2 ^ (7 * (i + 1)) := by
              have h1 := HM.out
              have h2 : x.s[i].toNat % 128 * 2 ^ (7 * i) ≤ 127 * 2 ^ (7 * i) := Nat.mul_le_mul_right _ (by omega)
              rw [show 7 * (i + 1) = 7 * i + 7 by omega, Nat.pow_add]
              omega
            have LE := Lib.hid hle
            clear V3 hle h9 hc
            go_wp2_with fail
            go_roundw
            case rel => exact ⟨by trivial, i + 1, m + x.s[i].toNat % 128 * 2 ^ (7 * i), by omega, by omega, by go_num, by rw [V4.out], LE.out, EQ.out⟩
            case measure => simp [intOf]; omega
        · have g9 : ((i : Int) == 9) = true := by rw [beq_iff_eq]; omega
          have gc : ((x.s[i].toNat : Int) == 0) = false := by rw [beq_eq_false_iff_ne]; omega
          have gd : decide ((1 : Int) < (x.s[i].toNat : Int)) = false := decide_eq_false (by omega)
          obtain ⟨V1, V2, V3⟩ := VAL.out (by omega)
          clear V2
          have hc8 : x.s[i].toNat < 128 := by omega
          have EQ := Lib.hid (RD.out.trans (BE.out (by omega) hc8))
          have V := Lib.hid (uV_some BD.out EQ.out)
          have N := Lib.hid (uN_some BD.out EQ.out)
          have hmod : x.s[i].toNat % 128 = x.s[i].toNat := by omega
          rw [hmod] at V3
          have V4 := Lib.hid V3
          clear hmod V3 h9 hc
          go_wp2_with fail
          go_ret
          refine ⟨by rw [V.out, V4.out]; rfl, ?_, (Keep.same (fun k => k = b) wr).set (p := ⟨b, 0, none⟩) (.inl rfl) _⟩
          rw [N.out]
          have := H.out.put 0 (.string (x.s.extract (i + 1) x.s.size))
          simpa [Rd.cs, Rd.from_, BD.out] using this
        · have g9 : ((i : Int) == 9) = true := by rw [beq_iff_eq]; omega
          have gc : ((x.s[i].toNat : Int) == 0) = false := by rw [beq_eq_false_iff_ne]; omega
          have gd : decide ((1 : Int) < (x.s[i].toNat : Int)) = true := decide_eq_true (by omega)
          have EQ := Lib.hid (RD.out.trans (BB.out (by omega)))
          clear h9 hc
          have V := Lib.hid (uV_none BD.out EQ.out)
          have N := Lib.hid (uN_none BD.out EQ.out)
          go_wp2_with fail
          go_ret
          refine ⟨by rw [V.out]; rfl, ?_, (Keep.same (fun k => k = b) wr).set (p := ⟨b, 1, none⟩) (.inl rfl) _⟩
          rw [N.out]
          have := H.out.put 1 (.bool true)
          simpa [Rd.cs, Rd.no] using this
        · have gc : ((x.s[i].toNat : Int) == 0) = true := by rw [beq_iff_eq]; omega
          have gi : decide (0 < i) = true := decide_eq_true (by omega)
          have gd : decide ((1 : Int) < (x.s[i].toNat : Int)) = false := decide_eq_false (by omega)
          by_cases h99 : i = 9
          · have g9 : ((i : Int) == 9) = true := by rw [beq_iff_eq]; omega
            have EQ := Lib.hid (RD.out.trans (BB.out (by omega)))
            clear h9 hc h99
            have V := Lib.hid (uV_none BD.out EQ.out)
            have N := Lib.hid (uN_none BD.out EQ.out)
            go_wp2_with fail
            go_ret
            refine ⟨by rw [V.out]; rfl, ?_, (Keep.same (fun k => k = b) wr).set (p := ⟨b, 1, none⟩) (.inl rfl) _⟩
            rw [N.out]
            have := H.out.put 1 (.bool true)
            simpa [Rd.cs, Rd.no] using this
          · have g9 : ((i : Int) == 9) = false := by rw [beq_eq_false_iff_ne]; omega
            have EQ := Lib.hid (RD.out.trans (BB.out (by omega)))
            clear h9 hc h99
            have V := Lib.hid (uV_none BD.out EQ.out)
            have N := Lib.hid (uN_none BD.out EQ.out)
            go_wp2_with fail
            go_ret
            refine ⟨by rw [V.out]; rfl, ?_, (Keep.same (fun k => k = b) wr).set (p := ⟨b, 1, none⟩) (.inl rfl) _⟩
            rw [N.out]
            have := H.out.put 1 (.bool true)
            simpa [Rd.cs, Rd.no] using this
      · have EQ := Lib.hid (RD.out.trans (rdU_out hin))
        by_cases hi10 : i < 10
        · have g0 : ((i : Int) == (x.s.size : Int)) = true := by rw [beq_iff_eq]; omega
          have V := Lib.hid (uV_none BD.out EQ.out)
          have N := Lib.hid (uN_none BD.out EQ.out)
          go_wp2_with fail
          go_ret
          refine ⟨by rw [V.out]; rfl, ?_, (Keep.same (fun k => k = b) wr).set (p := ⟨b, 1, none⟩) (.inl rfl) _⟩
          rw [N.out]
          have := H.out.put 1 (.bool true)
          simpa [Rd.cs, Rd.no] using this
        · have V := Lib.hid (uV_none BD.out EQ.out)
          have N := Lib.hid (uN_none BD.out EQ.out)
          go_wp2_with fail
          go_ret
          refine ⟨by rw [V.out]; rfl, ?_, (Keep.same (fun k => k = b) wr).set (p := ⟨b, 1, none⟩) (.inl rfl) _⟩
          rw [N.out]
          have := H.out.put 1 (.bool true)
          simpa [Rd.cs, Rd.no] using this
end Go.Proofs.Ytjojibgihoebaaa.A
