/-
  Numbers in four bytes.
-/
import Derived.Test.YtdemmlckalhinaaA
namespace Go.Proofs.Ytdemmlckalhinaa.A
open Go.RowKit Go.Proofs.Ytdemmlckalhinaa.U
set_option linter.unusedVariables false
set_option linter.unusedSimpArgs false

def b8 (n j : Nat) : Nat := n / 256 ^ j % 256
def putK (cs : Array Value) (at_ n : Nat) : Nat → Array Value
  | 0 => cs
  | j + 1 => (putK cs at_ n j).setIfInBounds (at_ + j) (.int .u8 ((b8 n j : Nat) : Int))

theorem shr_at (n j : Nat) (hj : j < 4) (hn : n < 4294967296) : ((n : Int) / 2 ^ (8 * j)) % 256 = ((b8 n j : Nat) : Int) := by
  unfold b8
  rcases (show j = 0 ∨ j = 1 ∨ j = 2 ∨ j = 3 by omega) with rfl | rfl | rfl | rfl <;> simp <;> omega
set_option maxRecDepth 100000 in
theorem put_calls (w : World) (b : Nat) (cs : Array Value) (at_ n : Nat) (hb : Blk w b 44 cs) (hc : cs.size = 8) (ha : at_ ≤ 4) (hn : n < 4294967296) :
    Calls Try.prog 17 #[.pointer (some ⟨b, 0, none⟩), .int .i64 at_, .int .i64 n] w (fun e w' => e = .returned (.tuple #[]) ∧ Blk w' b 44 (putK cs at_ n 4) ∧ Keep (fun k => k = b) w w') := by
  have hu44 := Try.underlying44
  have HB := Lib.hid hb
  clear hb
  go_enter Try.func17, Try.ntmps17
  go_wp2_with fail
  go_loopw [7] (fun v wr => ∃ j : Nat, j ≤ 4 ∧ v = .int .i64 j ∧ Blk wr b 44 (putK cs at_ n j) ∧ (putK cs at_ n j).size = 8 ∧ Keep (fun k => k = b) w wr) (fun v _ => 4 - (intOf v).toNat)
  case atStart => exact ⟨0, by omega, by simp, HB.out, hc, Keep.same _ _⟩
  case round =>
    obtain ⟨j, hj, rfl, hbk, hsz, hkp⟩ := hrel
    have HBK := Lib.hid hbk
    have HKP := Lib.hid hkp
    by_cases hj4 : j < 4
    · obtain ⟨u, hu⟩ : ∃ u, (putK cs at_ n j)[at_ + j]? = some u := ⟨_, Array.getElem?_eq_getElem (by omega)⟩
      have hcell := hbk.cell (at_ + j)
      rw [hu] at hcell
      have hfree := hbk.free (at_ + j)
      have hw1 : IntKind.i64.wrap ((at_ : Int) + j) = (at_ : Int) + j := by rw [IntKind.wrap_i64]; omega
      have hw2 : IntKind.i64.wrap (8 * (j : Int)) = 8 * (j : Int) := by rw [IntKind.wrap_i64]; omega
      have hlo : (0 : Int) ≤ (at_ : Int) + j := by omega
      have hhi : (at_ : Int) + j < 8 := by omega
      have hidx : ((at_ : Int) + j).toNat = at_ + j := by omega
      have hsh : IntKind.u8.wrap ((n : Int) / 2 ^ (8 * (j : Int)).toNat) = ((b8 n j : Nat) : Int) := by
        rw [IntKind.wrap_u8, show (8 * (j : Int)).toNat = 8 * j by omega]
        exact shr_at n j hj4 hn
      have hpk : putK cs at_ n (j + 1) = (putK cs at_ n j).setIfInBounds (at_ + j) (.int .u8 ((b8 n j : Nat) : Int)) := rfl
      have HP := Lib.hid hpk
      clear hu hbk hkp hpk
      go_wp2_with fail
      refine region_tail 11 (by kernel_rfl) (by kernel_rfl) ?_
      simp only [List.take_succ_cons, List.take_zero, List.drop_succ_cons, List.drop_zero]
      repeat still_step
      refine wpStill_nil ?_
      clear hw1 hw2 hsh
      go_wp2_with fail
      go_roundw
      case rel =>
        refine ⟨j + 1, by omega, by go_num, ?_, by rw [HP.out]; simpa using hsz, ?_⟩
        · rw [HP.out]; exact (HBK.out.drew).put _ _
        · exact (HKP.out.drew).set (.inl rfl) _
      case measure => simp [intOf]; omega
    · obtain rfl : j = 4 := by omega
      go_wp2_with fail
      go_end0
      exact ⟨rfl, HBK.out, HKP.out⟩
def leL (n : Nat) : List UInt8 := [UInt8.ofNat (n % 256), UInt8.ofNat (n / 256 % 256), UInt8.ofNat (n / 65536 % 256), UInt8.ofNat (n / 16777216)]
def le4 (n : Nat) : ByteArray := ⟨(leL n).toArray⟩
theorem four_calls (w : World) (n : Nat) (hn : n < 4294967296) :
    Calls Try.prog 18 #[.int .i64 n] w (fun e w' => e = .returned (.string (le4 n)) ∧ Keep Nothing w w') := by
  have hcv := run_convert_bytes_back (P := Try.prog) (w.alloc (.cells #[.int .u8 (n % 256), .int .u8 (n / 256 % 256), .int .u8 (n / 65536 % 256), .int .u8 (n / 16777216)] 5)) 40 9 5 ⟨w.heap.size, 0, none⟩ 4 (leL n) Try.underlying40 Try.underlying5 Try.underlying9 (by
    intro j hj
    rw [addAt, (Blk.fresh w 5 _).cell]
    simp only [leL, List.length_cons, List.length_nil] at hj
    rcases (show j = 0 ∨ j = 1 ∨ j = 2 ∨ j = 3 by omega) with rfl | rfl | rfl | rfl <;> simp [leL] <;> omega)
  have e4 : (leL n).length = 4 := rfl
  rw [e4] at hcv
  have HL := Lib.hid (show (⟨(leL n).toArray⟩ : ByteArray) = le4 n from rfl)
  generalize (⟨(leL n).toArray⟩ : ByteArray) = z at *
  go_enter Try.func18, Try.ntmps18
  go_wp2
  go_ret
  exact ⟨by rw [HL.out]; rfl, (Keep.same Nothing w).alloc _⟩
end Go.Proofs.Ytdemmlckalhinaa.A
