/-
  The readers' others.
-/
import Derived.Test.YtjojibgihoebaaaC
namespace Go.Proofs.Ytjojibgihoebaaa.A
open Go.RowKit Go.Proofs.Ytjojibgihoebaaa.U
set_option linter.unusedVariables false
set_option linter.unusedSimpArgs false

theorem of_calls (w : World) (s : ByteArray) : Calls Try.prog 24 #[.string s] w (fun e w' => e = .returned (.pointer (some ⟨w.heap.size, 0, none⟩)) ∧ w' = w.alloc (.cells #[.string s, .bool false] 97)) := by
  go_enter Try.func24, Try.ntmps24
  go_wp2_with fail
  go_ret
  exact ⟨rfl, rfl⟩
theorem bits_xori {a b : Int} (x y : BitVec 64) (hx : BitVec.ofInt 64 a = x) (hy : BitVec.ofInt 64 b = y) : bits .xor .i64 a b = IntKind.i64.wrap ((x ^^^ y).toNat : Int) := by
  subst hx hy
  rfl
theorem unzig_even {u : Nat} (h : u % 2 = 0) (hu : u < 18446744073709551616) : bits .xor .i64 ((u / 2 : Nat) : Int) 0 = unzig u := by
  rw [bits_xori (BitVec.ofNat 64 (u / 2)) 0#64 (BitVec.ofInt_natCast ..) rfl, BitVec.xor_zero, BitVec.toNat_ofNat, Nat.mod_eq_of_lt (show u / 2 < 2 ^ 64 by omega), IntKind.wrap_i64]
  unfold unzig
  rw [if_pos h]
  omega
theorem unzig_odd {u : Nat} (h : u % 2 = 1) (hu : u < 18446744073709551616) : bits .xor .i64 ((u / 2 : Nat) : Int) (-1) = unzig u := by
  rw [bits_xori (BitVec.ofNat 64 (u / 2)) (BitVec.allOnes 64) (BitVec.ofInt_natCast ..) rfl, BitVec.xor_allOnes, BitVec.toNat_not, BitVec.toNat_ofNat, Nat.mod_eq_of_lt (show u / 2 < 2 ^ 64 by omega), IntKind.wrap_i64]
  unfold unzig
  rw [if_neg (by omega)]
  omega
theorem and1 (n : Nat) (h : n < 18446744073709551616) : bits .and .u64 (n : Int) 1 = ((n % 2 : Nat) : Int) := by
  have h1 := (bits_nat .u64 64 (by decide) (fun n h0 h1 => by rw [IntKind.wrap_u64]; omega) n 1 (by omega) (by omega)).1
  rw [Nat.and_one_is_mod] at h1
  exact h1
set_option maxRecDepth 100000 in
theorem rdi_calls (w : World) (b : Nat) (x : Rd) (h : Blk w b 97 x.cs) : Calls Try.prog 25 #[.pointer (some ⟨b, 0, none⟩)] w (Turns w b 97 (.int .i64 (iV x)) (uN x).cs) := by
  have H := Lib.hid (rdu_calls w b x h)
  have hlt := uV_lt x
  have ha := and1 (uV x) hlt
  have I := Lib.hid (show iV x = unzig (uV x) from rfl)
  generalize uV x = u at *
  clear h
  rcases (show u % 2 = 0 ∨ u % 2 = 1 by omega) with h2 | h2
  · have Z := Lib.hid (unzig_even h2 hlt)
    rw [h2] at ha
    clear h2
    go_enter Try.func25, Try.ntmps25
    go_wp2_with fail
    refine H.out.mono ?_
    rintro e w2 ⟨rfl, hb2, hk2⟩
    have B2 := Lib.hid hb2
    have K2 := Lib.hid hk2
    clear hb2 hk2
    go_wp2_with fail
    go_ret
    refine ⟨?_, B2.out, K2.out⟩
    rw [I.out, ← Z.out]
    rfl
  · have Z := Lib.hid (unzig_odd h2 hlt)
    rw [h2] at ha
    clear h2
    go_enter Try.func25, Try.ntmps25
    go_wp2_with fail
    refine H.out.mono ?_
    rintro e w2 ⟨rfl, hb2, hk2⟩
    have B2 := Lib.hid hb2
    have K2 := Lib.hid hk2
    clear hb2 hk2
    go_wp2_with fail
    go_ret
    refine ⟨?_, B2.out, K2.out⟩
    rw [I.out, ← Z.out]
    rfl
theorem runzig_odd {u : Nat} (h : u % 2 = 1) (hu : u < 18446744073709551616) : wrap64 (bits .xor .u64 IntKind.u64.max ((u / 2 : Nat) : Int)) = unzig u := by
  have e2 : IntKind.u64.max = ((18446744073709551615 : Nat) : Int) := by rfl
  rw [e2, bits_xor64 (by omega) (by omega), Nat.xor_comm, flip64 (by omega)]
  unfold unzig wrap64
  rw [if_neg (by omega)]
  omega
set_option maxRecDepth 100000 in
theorem rrdi_calls (w : World) (b : Nat) (x : Rd) (h : Blk w b 44 x.cs) : Calls Try.prog 26 #[.pointer (some ⟨b, 0, none⟩)] w (Turns w b 44 (.int .i64 (iV x)) (uN x).cs) := by
  have H := Lib.hid (rrdu_calls w b x h)
  have hlt := uV_lt x
  have ha := and1 (uV x) hlt
  have I := Lib.hid (show iV x = unzig (uV x) from rfl)
  generalize uV x = u at *
  clear h
  rcases (show u % 2 = 0 ∨ u % 2 = 1 by omega) with h2 | h2
  · have Z := Lib.hid (show unzig u = ((u / 2 : Nat) : Int) by unfold unzig; rw [if_pos h2])
    rw [h2] at ha
    clear h2
    go_enter Try.func26, Try.ntmps26
    go_wp2_with fail
    refine H.out.mono ?_
    rintro e w2 ⟨rfl, hb2, hk2⟩
    have B2 := Lib.hid hb2
    have K2 := Lib.hid hk2
    clear hb2 hk2
    go_wp2_with fail
    go_ret
    refine ⟨?_, B2.out, K2.out⟩
    rw [I.out, Z.out]
    rfl
  · have Z := Lib.hid (runzig_odd h2 hlt)
    rw [h2] at ha
    clear h2
    go_enter Try.func26, Try.ntmps26
    go_wp2_with fail
    refine H.out.mono ?_
    rintro e w2 ⟨rfl, hb2, hk2⟩
    have B2 := Lib.hid hb2
    have K2 := Lib.hid hk2
    clear hb2 hk2
    go_wp2_with fail
    go_ret
    refine ⟨?_, B2.out, K2.out⟩
    rw [I.out, ← Z.out]
    rfl
theorem rdu_none (w : World) : Calls Try.prog 27 #[.pointer none] w (fun e w' => e = .returned (.int .u64 0) ∧ w' = w) := by
  go_enter Try.func27, Try.ntmps27
  go_wp2_with fail
  go_ret
  exact ⟨rfl, rfl⟩
theorem rdi_none (w : World) : Calls Try.prog 25 #[.pointer none] w (fun e w' => e = .returned (.int .i64 0) ∧ w' = w) := by
  have ha : bits .and .u64 0 1 = 0 := by rfl
  have hx : bits .xor .i64 0 0 = 0 := by rfl
  go_enter Try.func25, Try.ntmps25
  go_wp2_with fail
  refine (rdu_none _).mono ?_
  rintro e w' ⟨rfl, rfl⟩
  go_wp2_with fail
  go_ret
  exact ⟨rfl, rfl⟩
theorem rdt_none (w : World) : Calls Try.prog 29 #[.pointer none] w (fun e w' => e = .returned (.string ByteArray.empty) ∧ w' = w) := by
  go_enter Try.func29, Try.ntmps29
  go_wp2_with fail
  refine (rdu_none _).mono ?_
  rintro e w' ⟨rfl, rfl⟩
  go_wp2_with fail
  go_ret
  exact ⟨rfl, rfl⟩
theorem rdd_none (w : World) : Calls Try.prog 31 #[.pointer none] w (fun e w' => e = .returned (.int .i64 2) ∧ w' = w) := by
  go_enter Try.func31, Try.ntmps31
  go_wp2_with fail
  go_ret
  exact ⟨rfl, rfl⟩
end Go.Proofs.Ytjojibgihoebaaa.A
