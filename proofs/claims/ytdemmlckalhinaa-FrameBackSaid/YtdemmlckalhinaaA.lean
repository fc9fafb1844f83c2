/-
  The sum: what it is as a number; the contracts of both.
-/
import Derived.Test.YtdemmlckalhinaaH
namespace Go.Proofs.Ytdemmlckalhinaa.A
open Go.RowKit Go.Proofs.Ytdemmlckalhinaa.U
set_option linter.unusedVariables false
set_option linter.unusedSimpArgs false

def stepN (r : Nat) : Nat := if r % 2 = 1 then (r / 2) ^^^ 3988292384 else r / 2
def roundsN : Nat → Nat → Nat
  | 0, r => r
  | k + 1, r => stepN (roundsN k r)
def byteN (r c : Nat) : Nat := roundsN 8 (r ^^^ c)
def crcN (l : List UInt8) : Nat := l.foldl (fun r c => byteN r c.toNat) 4294967295
def sumS (s : ByteArray) : Nat := 4294967295 - crcN s.data.toList

theorem xor_lt {a b : Nat} (ha : a < 4294967296) (hb : b < 4294967296) : a ^^^ b < 4294967296 := Nat.xor_lt_two_pow (n := 32) ha hb
theorem bits_xor32 {a b : Nat} (ha : a < 4294967296) (hb : b < 4294967296) : bits .xor .u32 a b = ((a ^^^ b : Nat) : Int) := by
  have h := xor_lt ha hb
  simp only [bits, BitVec.ofInt_natCast, BitVec.toNat_xor, BitVec.toNat_ofNat]
  rw [show IntKind.u32.bits = 32 from rfl, Nat.mod_eq_of_lt (show a < 2 ^ 32 by omega), Nat.mod_eq_of_lt (show b < 2 ^ 32 by omega), IntKind.wrap_u32]
  omega
theorem bits_and1 {a : Nat} (ha : a < 4294967296) : bits .and .u32 a 1 = ((a % 2 : Nat) : Int) := by
  have := (bits_nat .u32 32 (by decide) (fun n h0 h1 => by rw [IntKind.wrap_u32]; omega) a 1 (by omega) (by omega)).1
  rw [Nat.and_one_is_mod] at this
  exact this
theorem bits_flip32 {r : Nat} (h : r < 4294967296) : bits .xor .u32 IntKind.u32.max r = ((4294967295 - r : Nat) : Int) := by
  have e : (4294967295 ^^^ r : Nat) = 4294967295 - r := by
    have h1 : (BitVec.allOnes 32 ^^^ BitVec.ofNat 32 r).toNat = 4294967295 ^^^ r := by
      rw [BitVec.toNat_xor, BitVec.toNat_ofNat, Nat.mod_eq_of_lt (show r < 2 ^ 32 by omega)]; rfl
    rw [← h1, BitVec.xor_comm, BitVec.xor_allOnes, BitVec.toNat_not, BitVec.toNat_ofNat, Nat.mod_eq_of_lt (show r < 2 ^ 32 by omega)]
  have := bits_xor32 (a := 4294967295) (by omega) h
  rw [e] at this
  exact this
theorem wrap_small (n : Nat) (h : n ≤ 4294967295 := by omega) : wrap64 (n : Int) = n := by unfold wrap64; omega
theorem stepN_lt {r : Nat} (h : r < 4294967296) : stepN r < 4294967296 := by
  unfold stepN
  split
  · exact xor_lt (by omega) (by omega)
  · omega
theorem roundsN_lt {r : Nat} (h : r < 4294967296) : ∀ k, roundsN k r < 4294967296
  | 0 => h
  | k + 1 => stepN_lt (roundsN_lt h k)
theorem byteN_lt {r c : Nat} (h : r < 4294967296) (hc : c < 256) : byteN r c < 4294967296 := roundsN_lt (xor_lt h (by omega)) 8
theorem crc_lt (l : List UInt8) : ∀ r, r < 4294967296 → l.foldl (fun r c => byteN r c.toNat) r < 4294967296 := by
  induction l with
  | nil => intro r h; exact h
  | cons c l ih => intro r h; exact ih _ (byteN_lt h (UInt8.toNat_lt c))
theorem crcN_lt (l : List UInt8) : crcN l < 4294967296 := crc_lt l _ (by omega)
theorem crcN_snoc (l : List UInt8) (c : UInt8) : crcN (l ++ [c]) = byteN (crcN l) c.toNat := by unfold crcN; rw [List.foldl_append]; rfl

set_option maxRecDepth 100000 in
set_option maxHeartbeats 800000 in
theorem rsum_calls (w : World) (s : ByteArray) (hs : s.size ≤ 100000000) : Calls Try.prog 11 #[.string s] w (Pure w (.int .i64 (sumS s))) := by
  go_enter Try.func11, Try.ntmps11
  go_wp2_with fail
  go_loopw [3, 4] (fun v i wr => wr = w ∧ ∃ k : Nat, k ≤ s.size ∧ i = .int .i64 k ∧ ∃ r : Nat, r < 4294967296 ∧ r = crcN (s.data.toList.take k) ∧ v = .int .u32 r) (fun _ i _ => s.size - (intOf i).toNat)
  case atStart => exact ⟨rfl, 0, Nat.zero_le _, rfl, 4294967295, by omega, by simp [crcN], rfl⟩
  case round =>
    obtain ⟨rfl, k, hk, rfl, r, hr, hcr, rfl⟩ := hrel
    have HC := Lib.hid hcr
    clear hcr
    by_cases hlt : k < s.size
    · have hc := UInt8.toNat_lt s[k]
      have hx := bits_xor32 hr (show s[k].toNat < 4294967296 by omega)
      have hm : ((s[k].toNat : Nat) : Int) % 4294967296 = (s[k].toNat : Int) := by omega
      have hl := xor_lt hr (show s[k].toNat < 4294967296 by omega)
      have HX := Lib.hid (show r ^^^ s[k].toNat = r ^^^ s[k].toNat from rfl)
      go_wp2_with fail
      generalize hq : r ^^^ s[k].toNat = q at *
      have HQ := Lib.hid hq
      clear hx hq HX
      go_loopw [3, 5] (fun v i wr' => wr' = wr ∧ ∃ j : Nat, j ≤ 8 ∧ i = .int .i64 j ∧ v = .int .u32 ((roundsN j q : Nat) : Int)) (fun _ i _ => 8 - (intOf i).toNat)
      case atStart => exact ⟨rfl, 0, by omega, by simp, by simp [roundsN]⟩
      case round =>
        obtain ⟨rfl, j, hj, rfl, rfl⟩ := hrel
        have hrl := roundsN_lt hl j
        have HR := Lib.hid (show roundsN (j + 1) q = stepN (roundsN j q) from rfl)
        generalize hz : roundsN j q = z at *
        have HZ := Lib.hid hz
        clear hz
        by_cases hj8 : j < 8
        · have ha := bits_and1 hrl
          by_cases ho : z % 2 = 1
          · rw [ho] at ha
            have hx2 : bits .xor .u32 ((z : Int) / 2) 3988292384 = ((z / 2 ^^^ 3988292384 : Nat) : Int) := bits_xor32 (a := z / 2) (b := 3988292384) (by omega) (by omega)
            have hst : stepN z = z / 2 ^^^ 3988292384 := by unfold stepN; rw [if_pos ho]
            have HS := Lib.hid hst
            clear hst
            go_wp2_with fail
            go_roundw
            case rel => exact ⟨by trivial, j + 1, by omega, by go_num, by rw [HR.out, HS.out]⟩
            case measure => simp [intOf]; omega
          · have ho0 : z % 2 = 0 := by omega
            rw [ho0] at ha
            have hst : stepN z = z / 2 := by unfold stepN; rw [if_neg ho]
            have HS := Lib.hid hst
            clear hst
            go_wp2_with fail
            go_roundw
            case rel => exact ⟨by trivial, j + 1, by omega, by go_num, by rw [HR.out, HS.out]; simp⟩
            case measure => simp [intOf]; omega
        · obtain rfl : j = 8 := by omega
          have HB := Lib.hid (show (s.data.toList.take (k + 1)) = s.data.toList.take k ++ [s[k]] by
            rw [List.take_succ_eq_append_getElem (by simpa using hlt)]; rfl)
          go_wp2_with fail
          go_roundw
          case rel => exact ⟨by trivial, k + 1, by omega, by go_num, z, hrl, by rw [HB.out, crcN_snoc, ← HC.out, ← HZ.out, ← HQ.out]; rfl, rfl⟩
          case measure => simp [intOf]; omega
    · obtain rfl : k = s.size := by omega
      have hf : s.data.toList.take s.size = s.data.toList := List.take_of_length_le (by simp)
      rw [hf] at HC
      have HF := Lib.hid (show sumS s = 4294967295 - r by unfold sumS; rw [HC.out])
      have hfl := bits_flip32 hr
      have hwr := wrap_small (4294967295 - r)
      go_wp2_with fail
      go_ret
      refine ⟨?_, Drew.same _⟩
      rw [HF.out]
      simp

theorem bits_poly0 : bits .and .u32 3988292384 0 = 0 := by rfl
theorem bits_poly1 : bits .and .u32 3988292384 4294967295 = 3988292384 := by rfl
set_option maxRecDepth 100000 in
set_option maxHeartbeats 800000 in
theorem sum_calls (w : World) (s : ByteArray) (hs : s.size ≤ 100000000) : Calls Try.prog 10 #[.string s] w (fun e w' => e = .returned (.int .i64 (sumS s)) ∧ Keep Nothing w w') := by
  have hcv := run_bytes_of_string (P := Try.prog) w 9 40 5 s Try.underlying9 Try.underlying40 Try.underlying5
  generalize grownCap w s.size 0 5 = c at *
  have hcell : ∀ i, (h : i < s.size) → (w.drew.alloc (.cells (bytesRow s c) 5 ((bytesRow s c).size, (bytesRow s c).size + 1))).cell? ⟨w.heap.size, i, none⟩ = some (.int .u8 (s[i].toNat : Int)) := fun i hi => by
    rw [cell_of_row _ w.heap.size i (bytesRow s c) 5 _ (heap_alloc_new w.drew _)]
    exact bytesRow_at s c i hi
  have K0 := Lib.hid ((Keep.same Nothing w).drew.alloc (.cells (bytesRow s c) 5 ((bytesRow s c).size, (bytesRow s c).size + 1)))
  have HW := Lib.hid hcell
  clear hcell
  have h40 := Try.underlying40
  go_enter Try.func10, Try.ntmps10
  generalize w.drew.alloc (.cells (bytesRow s c) 5 ((bytesRow s c).size, (bytesRow s c).size + 1)) = w1 at *
  go_wp2_with fail
  go_loopw [3, 9] (fun v i wr => wr = w1 ∧ ∃ k : Nat, k ≤ s.size ∧ i = .int .i64 k ∧ ∃ r : Nat, r < 4294967296 ∧ r = crcN (s.data.toList.take k) ∧ v = .int .u32 r) (fun _ i _ => s.size - (intOf i).toNat)
  case atStart => exact ⟨by trivial, 0, Nat.zero_le _, by simp, 4294967295, by omega, by simp [crcN], by simp⟩
  case round =>
    obtain ⟨rfl, k, hk, rfl, r, hr, hcr, rfl⟩ := hrel
    have HC := Lib.hid hcr
    clear hcr
    by_cases hlt : k < s.size
    · have hc0 := HW.out k hlt
      have hc := UInt8.toNat_lt s[k]
      have hx := bits_xor32 hr (show s[k].toNat < 4294967296 by omega)
      have hm : ((s[k].toNat : Nat) : Int) % 4294967296 = (s[k].toNat : Int) := by omega
      have hl := xor_lt hr (show s[k].toNat < 4294967296 by omega)
      go_wp2_with fail
      generalize hq : r ^^^ s[k].toNat = q at *
      have HQ := Lib.hid hq
      clear hx hq
      go_loopw [3, 17] (fun v i wr' => wr' = wr ∧ ∃ j : Nat, j ≤ 8 ∧ i = .int .i64 j ∧ v = .int .u32 ((roundsN j q : Nat) : Int)) (fun _ i _ => 8 - (intOf i).toNat)
      case atStart => exact ⟨by trivial, 0, by omega, by simp, by simp [roundsN]⟩
      case round =>
        obtain ⟨rfl, j, hj, rfl, rfl⟩ := hrel
        have hrl := roundsN_lt hl j
        have HR := Lib.hid (show roundsN (j + 1) q = stepN (roundsN j q) from rfl)
        generalize hz : roundsN j q = z at *
        have HZ := Lib.hid hz
        clear hz
        by_cases hj8 : j < 8
        · have ha := bits_and1 hrl
          by_cases ho : z % 2 = 1
          · rw [ho] at ha
            have hx2 : bits .xor .u32 ((z : Int) / 2) 3988292384 = ((z / 2 ^^^ 3988292384 : Nat) : Int) := bits_xor32 (a := z / 2) (b := 3988292384) (by omega) (by omega)
            have hst : stepN z = z / 2 ^^^ 3988292384 := by unfold stepN; rw [if_pos ho]
            have HS := Lib.hid hst
            have hp1 := bits_poly1
            clear hst
            go_wp2_with fail
            go_roundw
            case rel => exact ⟨by trivial, j + 1, by omega, by go_num, by rw [HR.out, HS.out]⟩
            case measure => simp [intOf]; omega
          · have ho0 : z % 2 = 0 := by omega
            rw [ho0] at ha
            have hx2 : bits .xor .u32 ((z : Int) / 2) 0 = ((z / 2 ^^^ 0 : Nat) : Int) := bits_xor32 (a := z / 2) (b := 0) (by omega) (by omega)
            rw [Nat.xor_zero] at hx2
            have hst : stepN z = z / 2 := by unfold stepN; rw [if_neg ho]
            have HS := Lib.hid hst
            have hp0 := bits_poly0
            clear hst
            go_wp2_with fail
            go_roundw
            case rel => exact ⟨by trivial, j + 1, by omega, by go_num, by rw [HR.out, HS.out]; try simp⟩
            case measure => simp [intOf]; omega
        · obtain rfl : j = 8 := by omega
          have HB := Lib.hid (show (s.data.toList.take (k + 1)) = s.data.toList.take k ++ [s[k]] by
            rw [List.take_succ_eq_append_getElem (by simpa using hlt)]; rfl)
          go_wp2_with fail
          go_roundw
          case rel => exact ⟨by trivial, k + 1, by omega, by go_num, z, hrl, by rw [HB.out, crcN_snoc, ← HC.out, ← HZ.out, ← HQ.out]; rfl, rfl⟩
          case measure => simp [intOf]; omega
    · obtain rfl : k = s.size := by omega
      have hf : s.data.toList.take s.size = s.data.toList := List.take_of_length_le (by simp)
      rw [hf] at HC
      have HF := Lib.hid (show sumS s = 4294967295 - r by unfold sumS; rw [HC.out])
      have hfl := bits_flip32 hr
      have hwr := wrap_small (4294967295 - r)
      go_wp2_with fail
      go_ret
      refine ⟨?_, K0.out⟩
      rw [HF.out]
      simp
end Go.Proofs.Ytdemmlckalhinaa.A
