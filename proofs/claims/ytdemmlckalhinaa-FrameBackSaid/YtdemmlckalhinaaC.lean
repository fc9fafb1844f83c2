/-
  Numbers out of four bytes.
-/
import Derived.Test.YtdemmlckalhinaaB
namespace Go.Proofs.Ytdemmlckalhinaa.A
open Go.RowKit Go.Proofs.Ytdemmlckalhinaa.U
set_option linter.unusedVariables false
set_option linter.unusedSimpArgs false

def numK (c : Nat → Nat) : Nat → Nat
  | 0 => 0
  | j + 1 => numK c j + c j * 256 ^ j
theorem numK_lt {c : Nat → Nat} (h : ∀ i, c i < 256) : ∀ j, numK c j < 256 ^ j
  | 0 => by simp [numK]
  | j + 1 => by
    have h1 := numK_lt h j
    have h2 := h j
    have h3 : c j * 256 ^ j ≤ 255 * 256 ^ j := Nat.mul_le_mul_right _ (by omega)
    rw [numK, Nat.pow_succ]
    omega
theorem num_or {a c j : Nat} (ha : a < 256 ^ j) (hc : c < 256) (hj : j < 4) : bits .or .i64 a ((c * 256 ^ j : Nat) : Int) = ((a + c * 256 ^ j : Nat) : Int) := by
  have hp : (256 : Nat) ^ j = 2 ^ (8 * j) := by rw [show (256 : Nat) = 2 ^ 8 from rfl, ← Nat.pow_mul]
  have hle : (256 : Nat) ^ j ≤ 16777216 := by rcases (show j = 0 ∨ j = 1 ∨ j = 2 ∨ j = 3 by omega) with rfl | rfl | rfl | rfl <;> simp
  have hm : c * 256 ^ j ≤ 255 * 16777216 := Nat.mul_le_mul (by omega) hle
  have := (bits_nat .i64 40 (by decide) (fun n h0 h1 => by rw [IntKind.wrap_i64]; omega) a (c * 256 ^ j) (by omega) (by omega)).2
  rw [this, Nat.or_comm]
  rw [hp] at ha ⊢
  rw [Nat.mul_comm, ← Nat.two_pow_add_eq_or_of_lt ha, Nat.add_comm]

set_option maxRecDepth 100000 in
theorem get_calls (w : World) (b : Nat) (cs : Array Value) (at_ : Nat) (c : Nat → Nat) (hb : Blk w b 44 cs) (hc : cs.size = 8) (ha : at_ ≤ 4) (hcs : ∀ i, i < 4 → cs[at_ + i]? = some (.int .u8 ((c i : Nat) : Int))) (h8 : ∀ i, c i < 256) :
    Calls Try.prog 19 #[.pointer (some ⟨b, 0, none⟩), .int .i64 at_] w (Pure w (.int .i64 ((numK c 4 : Nat) : Int))) := by
  have hu44 := Try.underlying44
  have HB := Lib.hid hb
  have HC := Lib.hid hcs
  clear hb hcs
  go_enter Try.func19, Try.ntmps19
  go_wp2_with fail
  go_loopw [5, 7] (fun n v wr => wr = w ∧ ∃ j : Nat, j ≤ 4 ∧ v = .int .i64 j ∧ n = .int .i64 ((numK c j : Nat) : Int)) (fun _ v _ => 4 - (intOf v).toNat)
  case atStart => exact ⟨by trivial, 0, by omega, by simp, by simp [numK]⟩
  case round =>
    obtain ⟨rfl, j, hj, rfl, rfl⟩ := hrel
    by_cases hj4 : j < 4
    · have hcell := HB.out.cell (at_ + j)
      rw [HC.out j hj4] at hcell
      have hlt := numK_lt h8 j
      have hor := num_or hlt (h8 j) hj4
      have HN := Lib.hid (show numK c (j + 1) = numK c j + c j * 256 ^ j from rfl)
      have hlo : (0 : Int) ≤ (at_ : Int) + j := by omega
      have hhi : (at_ : Int) + j < 8 := by omega
      have hidx : ((at_ : Int) + j).toNat = at_ + j := by omega
      have hww : wrap64 (wrap64 (c j : Int) * 2 ^ (8 * j)) = ((c j * 256 ^ j : Nat) : Int) := by
        have hcj := h8 j
        rcases (show j = 0 ∨ j = 1 ∨ j = 2 ∨ j = 3 by omega) with rfl | rfl | rfl | rfl <;> simp [wrap64] <;> omega
      have HW := Lib.hid hww
      have HO := Lib.hid hor
      clear hww hor
      generalize numK c j = z at *
      go_wp2_with fail
      go_roundw
      case rel => exact ⟨by trivial, j + 1, by omega, by go_num, by rw [HN.out, HW.out, HO.out]⟩
      case measure => simp [intOf]; omega
    · obtain rfl : j = 4 := by omega
      generalize numK c 4 = z at *
      go_wp2_with fail
      go_ret
      exact ⟨rfl, Drew.same _⟩
def byteAt (s : ByteArray) (i : Nat) : Nat := (s.data.toList.getD i 0).toNat
theorem byteAt_lt (s : ByteArray) (i : Nat) : byteAt s i < 256 := UInt8.toNat_lt _
theorem byteAt_eq (s : ByteArray) (i : Nat) (h : i < s.size) : byteAt s i = s[i].toNat := by
  unfold byteAt
  rw [List.getD_eq_getElem?_getD, List.getElem?_eq_getElem (by simpa using h)]
  rfl
def numS (s : ByteArray) : Nat := numK (byteAt s) 4
theorem numS_lt (s : ByteArray) : numS s < 4294967296 := numK_lt (byteAt_lt s) 4
theorem num_wrap (a b c d : Nat) (ha : a < 256) (hb : b < 256) (hc : c < 256) (hd : d < 256) :
    ((0 + a * 256 ^ 0 + b * 256 ^ 1 + c * 256 ^ 2 + d * 256 ^ 3 : Nat) : Int) = wrap64 (wrap64 (wrap64 (wrap64 (a : Int) + wrap64 (wrap64 (b : Int) * 256)) + wrap64 (wrap64 (c : Int) * 65536)) + wrap64 (wrap64 (d : Int) * 16777216)) := by
  have e1 : (b : Int) * 256 = ((b * 256 : Nat) : Int) := by omega
  have e2 : (c : Int) * 65536 = ((c * 65536 : Nat) : Int) := by omega
  have e3 : (d : Int) * 16777216 = ((d * 16777216 : Nat) : Int) := by omega
  rw [wrap_small a, wrap_small b, wrap_small c, wrap_small d, e1, e2, e3, wrap_small (b * 256), wrap_small (c * 65536), wrap_small (d * 16777216)]
  rw [← Int.natCast_add, wrap_small (a + b * 256), ← Int.natCast_add, wrap_small (a + b * 256 + c * 65536), ← Int.natCast_add, wrap_small (a + b * 256 + c * 65536 + d * 16777216)]
  congr 1
  omega
theorem number_calls (w : World) (s : ByteArray) (hs : 4 ≤ s.size) : Calls Try.prog 20 #[.string s] w (Pure w (.int .i64 ((numS s : Nat) : Int))) := by
  have HN := Lib.hid (show ((numS s : Nat) : Int) = wrap64 (wrap64 (wrap64 (wrap64 (s[0].toNat : Int) + wrap64 (wrap64 (s[1].toNat : Int) * 256)) + wrap64 (wrap64 (s[2].toNat : Int) * 65536)) + wrap64 (wrap64 (s[3].toNat : Int) * 16777216)) by
    rw [← byteAt_eq s 0, ← byteAt_eq s 1, ← byteAt_eq s 2, ← byteAt_eq s 3]
    exact num_wrap _ _ _ _ (byteAt_lt s 0) (byteAt_lt s 1) (byteAt_lt s 2) (byteAt_lt s 3))
  have h0 : (0 : Int) < s.size := by omega
  have h1 : (1 : Int) < s.size := by omega
  have h2 : (2 : Int) < s.size := by omega
  have h3 : (3 : Int) < s.size := by omega
  have n0 : 0 < s.size := by omega
  have n1 : 1 < s.size := by omega
  have n2 : 2 < s.size := by omega
  have n3 : 3 < s.size := by omega
  have HSS := Lib.hid hs
  go_enter Try.func20, Try.ntmps20
  go_wp2_with fail
  go_quiet (fail)
  go_wp2_with fail
  go_ret
  exact ⟨by rw [HN.out]; rfl, (Drew.same _).more _⟩
end Go.Proofs.Ytdemmlckalhinaa.A
