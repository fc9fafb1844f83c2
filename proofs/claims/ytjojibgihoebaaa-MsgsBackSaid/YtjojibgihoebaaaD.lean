/-
  The reference's texts.
-/
import Derived.Test.YtjojibgihoebaaaB
namespace Go.Proofs.Ytjojibgihoebaaa.A
open Go.RowKit Go.Proofs.Ytjojibgihoebaaa.U
set_option linter.unusedVariables false
set_option linter.unusedSimpArgs false

theorem cat (w : World) (a b : ByteArray) (h : a.size + b.size ≤ 9223372036854775807) : (Op.stringOp .add a b).run Try.prog w = .ok (.string (a ++ b)) w := by
  have h1 : ¬ (((a.size + b.size : Nat) : Int) > IntKind.i64.max) := by rw [IntKind.max_i64]; omega
  unfold Op.stringOp
  simp only [if_neg h1]
  rfl
def u64S (n : Nat) : ByteArray := ofL (u64L n)
def intS (n : Int) : ByteArray := u64S (zig n)
def textS (s : ByteArray) : ByteArray := u64S s.size ++ s
theorem u64S_size (n : Nat) (h : n < 18446744073709551616) : (u64S n).size ≤ 10 := u64L_len10 n h
theorem and127 (n : Nat) (h : n < 18446744073709551616) : bits .and .u64 (n : Int) 127 = ((n % 128 : Nat) : Int) := by
  have h1 := (bits_nat .u64 64 (by decide) (fun n h0 h1 => by rw [IntKind.wrap_u64]; omega) n 127 (by omega) (by omega)).1
  have e : (n &&& 127 : Nat) = n % 128 := by
    have := Nat.and_two_pow_sub_one_eq_mod n 7
    simpa using this
  rw [e] at h1
  exact h1
theorem or128b_all : ∀ m, m < 128 → (m ||| 128 : Nat) = 128 + m := by decide +kernel
theorem or128b (n : Nat) : bits .or .u8 ((n : Int) % 128) 128 = ((128 + n % 128 : Nat) : Int) := by
  have h := (bits_nat .u8 8 (by decide) (fun n h0 h1 => by rw [IntKind.wrap_u8]; omega) (n % 128) 128 (by omega) (by omega)).2
  rw [or128b_all _ (by omega)] at h
  have e2 : ((n % 128 : Nat) : Int) = (n : Int) % 128 := by omega
  rw [e2] at h
  exact h
set_option maxRecDepth 100000 in
theorem ru64_calls (w : World) (n : Nat) (hn : n < 18446744073709551616) : Calls Try.prog 52 #[.int .u64 n] w (fun e w' => e = .returned (.string (u64S n)) ∧ Keep Nothing w w') := by
  have h10 := u64L_len10 n hn
  go_enter Try.func52, Try.ntmps52
  go_wp2_with fail
  go_loopw [0, 3] (fun x bv wr => ∃ (m : Nat) (M : List UInt8) (A : Option Addr) (c : Nat), x = .int .u64 m ∧ m ≤ n ∧ u64L n = M ++ u64L m ∧ bv = .slice A M.length c ∧ Row wr 5 1 (.slice A M.length c) M.length (bytesV M) ∧ Keep Nothing w wr ∧ (∀ g, (Value.slice A M.length c).ownBlock = some g → w.heap.size ≤ g)) (fun x _ _ => (intOf x).toNat)
  case atStart => exact ⟨n, [], none, 0, rfl, Nat.le_refl _, rfl, rfl, Row.nil _ 5 1, Keep.same _ _, fun g hg => by simp [Value.ownBlock] at hg⟩
  case round =>
    obtain ⟨m, M, A, c, rfl, hm, hu, rfl, hr, hk, ho⟩ := hrel
    have hML : M.length ≤ 10 := by
      have := congrArg List.length hu
      rw [List.length_append] at this
      omega
    have U := Lib.hid hu
    have R := Lib.hid hr
    have K := Lib.hid hk
    have O := Lib.hid ho
    clear hu hr hk ho h10
    by_cases hbig : 127 < m
    · have ha := and127 m (by omega)
      have hor := or128b m
      have hw8 : ((m : Int) % 128) % 256 = (m : Int) % 128 := by omega
      go_wp2_with (at_builtin; refine wpList_app _ rfl E89 (.tmp 6) (.tmp 11) rfl (R.out.alloc _) (Src.one wr (.int .u8 ((128 + m % 128 : Nat) : Int)) 5) 1 rfl rfl (by simp [Value.oneCell']) (by unfold maxLen; omega) (by omega) ?_)
      intro v2 w2 hr2 hg2 hl2
      obtain ⟨A2, c2, rfl, _, _⟩ := hr2.form
      have K2 := Lib.hid ((K.out.alloc (.cells #[.int .u8 ((128 + m % 128 : Nat) : Int)] 5)).grown hg2 (fun i hi => .inr (O.out i hi)))
      have hsz := K.out.size
      have O2 := Lib.hid (show ∀ g, (Value.slice A2 (M.length + 1) c2).ownBlock = some g → w.heap.size ≤ g by
        intro g hg
        rcases hl2 with h | h
        · rw [h] at hg; exact O.out g hg
        · rw [h] at hg; injection hg with hg; omega)
      have e : bytesV [UInt8.ofNat (128 + m % 128)] = [.int .u8 ((128 + m % 128 : Nat) : Int)] := by simp [bytesV]; omega
      replace hr2 : Row w2 5 1 (.slice A2 (M.length + 1) c2) (M.length + 1) (bytesV (M ++ [UInt8.ofNat (128 + m % 128)])) := by rw [bytesV_app, e]; exact hr2
      have e5 : (M ++ [UInt8.ofNat (128 + m % 128)]).length = M.length + 1 := by simp
      rw [← e5] at hr2 O2
      have R2 := Lib.hid hr2
      clear hr2 hg2 hl2 e
      go_wp2_with fail
      go_roundw
      case rel => exact ⟨m / 128, M ++ [UInt8.ofNat (128 + m % 128)], A2, c2, by go_num, by omega, by rw [U.out, u64L_big (by omega)]; simp, by rw [e5], R2.out, K2.out, O2.out⟩
      case measure => simp [intOf]; omega
    · have hlt : m < 128 := by omega
      have hw8 : (m : Int) % 256 = (m : Int) := by omega
      go_wp2_with (at_builtin; refine wpList_app _ rfl E89 (.tmp 15) (.tmp 18) rfl (R.out.alloc _) (Src.one wr (.int .u8 (m : Int)) 5) 1 rfl rfl (by simp [Value.oneCell']) (by unfold maxLen; omega) (by omega) ?_)
      intro v2 w2 hr2 hg2 hl2
      obtain ⟨A2, c2, rfl, _, _⟩ := hr2.form
      have K2 := Lib.hid ((K.out.alloc (.cells #[.int .u8 (m : Int)] 5)).grown hg2 (fun i hi => .inr (O.out i hi)))
      have e : bytesV [UInt8.ofNat m] = [.int .u8 (m : Int)] := by simp [bytesV]; omega
      replace hr2 : Row w2 5 1 (.slice A2 (M.length + 1) c2) (M.length + 1) (bytesV (M ++ [UInt8.ofNat m])) := by rw [bytesV_app, e]; exact hr2
      have hcv := back_bytes (by simp) hr2 (by omega)
      rw [show ofL (M ++ [UInt8.ofNat m]) = u64S n by unfold u64S; rw [U.out, u64L_small hlt]] at hcv
      clear hr2 hg2 hl2 e
      go_wp2_with fail
      go_ret
      exact ⟨rfl, K2.out⟩
theorem rzig_pos {n : Int} (hn : I64 n) (h : 0 ≤ n) : ((zig n : Nat) : Int) = n * 2 := by
  unfold zig; rw [if_pos h]; omega
theorem rzig_neg {n : Int} (hn : I64 n) (h : n < 0) : ((zig n : Nat) : Int) = bits .xor .u64 IntKind.u64.max (IntKind.u64.wrap (IntKind.u64.wrap n * 2)) := by
  have hz := zig_lt hn.1 hn.2
  have e0 : 18446744073709551615 - zig n = (18446744073709551616 + 2 * n).toNat := by unfold zig; rw [if_neg (by omega)]; have := hn.1; omega
  have e1 : IntKind.u64.wrap (IntKind.u64.wrap n * 2) = ((18446744073709551615 - zig n : Nat) : Int) := by
    rw [e0, IntKind.wrap_u64, IntKind.wrap_u64]; have := hn.1; omega
  have e2 : IntKind.u64.max = ((18446744073709551615 : Nat) : Int) := by rfl
  rw [e1, e2, bits_xor64 (by omega) (by omega), Nat.xor_comm, flip64 (by omega)]
  congr 1
  omega
theorem rint_calls (w : World) (n : Int) (hn : I64 n) : Calls Try.prog 51 #[.int .i64 n] w (fun e w' => e = .returned (.string (intS n)) ∧ Keep Nothing w w') := by
  have H := ru64_calls w (zig n) (zig_lt hn.1 hn.2)
  by_cases h0 : 0 ≤ n
  · rw [rzig_pos hn h0] at H
    have HH := Lib.hid H
    clear H
    go_enter Try.func51, Try.ntmps51
    go_wp2_with fail
    refine HH.out.mono ?_
    rintro e w1 ⟨rfl, hk⟩
    have K := Lib.hid hk
    clear hk
    go_wp2_with fail
    go_ret
    exact ⟨rfl, K.out⟩
  · rw [rzig_neg hn (by omega)] at H
    have HH := Lib.hid H
    clear H
    go_enter Try.func51, Try.ntmps51
    go_wp2_with fail
    refine HH.out.mono ?_
    rintro e w1 ⟨rfl, hk⟩
    have K := Lib.hid hk
    clear hk
    go_wp2_with fail
    go_ret
    exact ⟨rfl, K.out⟩
theorem rtext_calls (w : World) (s : ByteArray) (hs : s.size ≤ 140737488355328) : Calls Try.prog 53 #[.string s] w (fun e w' => e = .returned (.string (textS s)) ∧ Keep Nothing w w') := by
  have H := Lib.hid (ru64_calls w s.size (by omega))
  have h1 := u64S_size s.size (by omega)
  have hcv : (s.size : Int) % 18446744073709551616 = s.size := by omega
  have hcat := fun w => cat w (u64S s.size) s (by omega)
  go_enter Try.func53, Try.ntmps53
  go_wp2_with fail
  refine H.out.mono ?_
  rintro e w1 ⟨rfl, hk⟩
  have K := Lib.hid hk
  clear hk
  go_wp2_with fail
  go_ret
  exact ⟨rfl, K.out⟩
end Go.Proofs.Ytjojibgihoebaaa.A
