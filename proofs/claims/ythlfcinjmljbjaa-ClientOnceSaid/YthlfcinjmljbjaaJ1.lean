/-
  Numbers, texts, commands, entries and messages as the reference writes them. Printed by port_once.py out of lcod's texts.
-/
import Derived.Test.YthlfcinjmljbjaaT1
import Derived.Test.YthlfcinjmljbjaaS7
import Derived.Test.YthlfcinjmljbjaaS8
import Derived.Test.YthlfcinjmljbjaaQ
import Derived.Test.YthlfcinjmljbjaaF0
import Derived.Deep.RegionHeld3
import Derived.Laws.Rows
namespace Go.Proofs.Ythlfcinjmljbjaa.A
open Go.RowKit Go.Proofs.Ythlfcinjmljbjaa.U
set_option linter.unusedVariables false
set_option linter.unusedSimpArgs false
set_option maxRecDepth 100000

/-- A number from 0 on as bytes. -/
def u64L (n : Nat) : List UInt8 := if h : n < 128 then [UInt8.ofNat n] else UInt8.ofNat (128 + n % 128) :: u64L (n / 128)
termination_by n
decreasing_by omega
theorem u64L_small {n : Nat} (h : n < 128) : u64L n = [UInt8.ofNat n] := by
  unfold u64L; rw [dif_pos h]
theorem u64L_big {n : Nat} (h : ¬ n < 128) : u64L n = UInt8.ofNat (128 + n % 128) :: u64L (n / 128) := by
  conv => lhs; unfold u64L
  rw [dif_neg h]
theorem u64L_pos (n : Nat) : 0 < (u64L n).length := by
  by_cases h : n < 128
  · rw [u64L_small h]; simp
  · rw [u64L_big h]; simp
theorem u64L_len : ∀ (k n : Nat), n < 128 ^ k → 0 < k → (u64L n).length ≤ k
  | 0, n, h, h0 => absurd h0 (by omega)
  | 1, n, h, _ => by rw [u64L_small (by simpa using h)]; simp
  | k + 2, n, h, _ => by
    by_cases h1 : n < 128
    · rw [u64L_small h1]; simp
    · rw [u64L_big h1, List.length_cons]
      have := u64L_len (k + 1) (n / 128) (by rw [Nat.div_lt_iff_lt_mul (by omega)]; rwa [Nat.pow_succ] at h) (by omega)
      omega
theorem u64L_len10 (n : Nat) (h : n < 18446744073709551616) : (u64L n).length ≤ 10 := u64L_len 10 n (by omega) (by omega)

def byteAt (s : ByteArray) (i : Nat) : Nat := (s.data.toList.getD i 0).toNat
theorem byteAt_lt (s : ByteArray) (i : Nat) : byteAt s i < 256 := UInt8.toNat_lt _
theorem size_list (s : ByteArray) : s.data.toList.length = s.size := by simp
theorem byteAt_eq (s : ByteArray) (i : Nat) (h : i < s.size) : byteAt s i = s[i].toNat := by
  unfold byteAt
  rw [List.getD_eq_getElem?_getD, List.getElem?_eq_getElem (by simpa using h)]
  rfl
/-- A number from 0 on, read from place i on, n being read: the number, the place behind it. -/
def rdU (s : ByteArray) (i n : Nat) : Option (Nat × Nat) :=
  if h : i < 10 ∧ i < s.size then
    if (i = 9 ∧ 1 < byteAt s i) ∨ (byteAt s i = 0 ∧ 0 < i) then none
    else if byteAt s i < 128 then some (n + byteAt s i * 2 ^ (7 * i), i + 1)
    else rdU s (i + 1) (n + byteAt s i % 128 * 2 ^ (7 * i))
  else none
termination_by 10 - i
theorem rdU_out {s : ByteArray} {i n : Nat} (h : ¬ (i < 10 ∧ i < s.size)) : rdU s i n = none := by
  unfold rdU; rw [dif_neg h]
theorem rdU_bad {s : ByteArray} {i n : Nat} (h : (i = 9 ∧ 1 < byteAt s i) ∨ (byteAt s i = 0 ∧ 0 < i)) : rdU s i n = none := by
  unfold rdU
  by_cases h0 : i < 10 ∧ i < s.size
  · rw [dif_pos h0, if_pos h]
  · rw [dif_neg h0]
theorem rdU_end {s : ByteArray} {i n : Nat} (h : i < 10 ∧ i < s.size) (h1 : ¬ ((i = 9 ∧ 1 < byteAt s i) ∨ (byteAt s i = 0 ∧ 0 < i))) (h2 : byteAt s i < 128) : rdU s i n = some (n + byteAt s i * 2 ^ (7 * i), i + 1) := by
  unfold rdU; rw [dif_pos h, if_neg h1, if_pos h2]
theorem rdU_go {s : ByteArray} {i n : Nat} (h : i < 10 ∧ i < s.size) (h1 : ¬ ((i = 9 ∧ 1 < byteAt s i) ∨ (byteAt s i = 0 ∧ 0 < i))) (h2 : ¬ byteAt s i < 128) : rdU s i n = rdU s (i + 1) (n + byteAt s i % 128 * 2 ^ (7 * i)) := by
  conv => lhs; unfold rdU
  rw [dif_pos h, if_neg h1, if_neg h2]
theorem p7 : ∀ i, i < 10 → (i = 0 ∧ 2 ^ (7 * i) = 1) ∨ (i = 1 ∧ 2 ^ (7 * i) = 128) ∨ (i = 2 ∧ 2 ^ (7 * i) = 16384) ∨ (i = 3 ∧ 2 ^ (7 * i) = 2097152) ∨ (i = 4 ∧ 2 ^ (7 * i) = 268435456) ∨ (i = 5 ∧ 2 ^ (7 * i) = 34359738368) ∨ (i = 6 ∧ 2 ^ (7 * i) = 4398046511104) ∨ (i = 7 ∧ 2 ^ (7 * i) = 562949953421312) ∨ (i = 8 ∧ 2 ^ (7 * i) = 72057594037927936) ∨ (i = 9 ∧ 2 ^ (7 * i) = 9223372036854775808) := by decide
/-- What was written is read. -/
theorem rdU_of (s : ByteArray) (l : List UInt8) : ∀ (m i n : Nat), m * 2 ^ (7 * i) < 18446744073709551616 → i < 10 → (0 < i → 0 < m) → s.data.toList.drop i = u64L m ++ l →
    rdU s i n = some (n + m * 2 ^ (7 * i), i + (u64L m).length) := by
  intro m
  induction m using Nat.strongRecOn with
  | _ m ih =>
    intro i n hm hi h0 hs
    have hlen : i < s.size := by
      have := congrArg List.length hs
      rw [List.length_drop, size_list, List.length_append] at this
      have := u64L_pos m
      omega
    have hb : byteAt s i = ((u64L m ++ l).getD 0 0).toNat := by
      unfold byteAt
      rw [← hs, List.getD_eq_getElem?_getD, List.getD_eq_getElem?_getD, List.getElem?_drop]
      rfl
    by_cases h : m < 128
    · rw [u64L_small h] at hb hs ⊢
      have hb' : byteAt s i = m := by rw [hb]; simp; omega
      rw [rdU_end ⟨hi, hlen⟩ (by rw [hb']; rcases p7 i hi with ⟨rfl, h⟩ | ⟨rfl, h⟩ | ⟨rfl, h⟩ | ⟨rfl, h⟩ | ⟨rfl, h⟩ | ⟨rfl, h⟩ | ⟨rfl, h⟩ | ⟨rfl, h⟩ | ⟨rfl, h⟩ | ⟨rfl, h⟩ <;> omega) (by omega), hb']
      rfl
    · rw [u64L_big h] at hb hs ⊢
      have hb' : byteAt s i = 128 + m % 128 := by rw [hb]; simp; omega
      have hpow : 2 ^ (7 * (i + 1)) = 128 * 2 ^ (7 * i) := by rw [show 7 * (i + 1) = 7 * i + 7 by omega, Nat.pow_add]; omega
      have hmm : m % 128 + m / 128 * 128 = m := by omega
      have hi9 : i < 9 := by
        rcases Nat.lt_or_ge i 9 with h9 | h9
        · exact h9
        · obtain rfl : i = 9 := by omega
          omega
      have hsum : m % 128 * 2 ^ (7 * i) + m / 128 * (128 * 2 ^ (7 * i)) = m * 2 ^ (7 * i) := by
        rw [← Nat.mul_assoc, ← Nat.add_mul, hmm]
      rw [rdU_go ⟨hi, hlen⟩ (by omega) (by omega), hb', show (128 + m % 128) % 128 = m % 128 by omega]
      rw [ih (m / 128) (by omega) (i + 1) _ (by rw [hpow]; omega) (by omega) (by omega) (by
        have := congrArg (List.drop 1) hs
        rw [List.drop_drop, List.cons_append, List.drop_succ_cons, List.drop_zero] at this
        exact this)]
      rw [hpow, Nat.add_assoc, hsum, List.length_cons]
      congr 2
      omega
theorem rdU_written (s : ByteArray) (l : List UInt8) (m : Nat) (hm : m < 18446744073709551616) (hs : s.data.toList = u64L m ++ l) : rdU s 0 0 = some (m, (u64L m).length) := by
  have := rdU_of s l m 0 0 (by simpa using hm) (by omega) (by omega) (by simpa using hs)
  simpa using this
theorem rdU_lt {s : ByteArray} {i n m k : Nat} (h : rdU s i n = some (m, k)) : i < k ∧ k ≤ s.size ∧ k ≤ 10 := by
  induction hf : 10 - i using Nat.strongRecOn generalizing i n with
  | _ f ih =>
    by_cases h0 : i < 10 ∧ i < s.size
    · by_cases h1 : (i = 9 ∧ 1 < byteAt s i) ∨ (byteAt s i = 0 ∧ 0 < i)
      · rw [rdU_bad h1] at h; cases h
      · by_cases h2 : byteAt s i < 128
        · rw [rdU_end h0 h1 h2] at h
          injection h with h
          injection h with h3 h4
          omega
        · rw [rdU_go h0 h1 h2] at h
          have := ih (10 - (i + 1)) (by omega) h rfl
          omega
    · rw [rdU_out h0] at h; cases h
/-- What is read is what would be written. -/
theorem rdU_back {s : ByteArray} {i n m k : Nat} (h : rdU s i n = some (m, k)) (hn : n < 2 ^ (7 * i)) : ∃ q, m = n + q * 2 ^ (7 * i) ∧ m < 18446744073709551616 ∧ (0 < i → 0 < q) ∧ u64L q = (s.data.toList.drop i).take (k - i) := by
  induction hf : 10 - i using Nat.strongRecOn generalizing i n with
  | _ f ih =>
    have hlt := rdU_lt h
    by_cases h0 : i < 10 ∧ i < s.size
    · have hd : s.data.toList.drop i = UInt8.ofNat (byteAt s i) :: s.data.toList.drop (i + 1) := by
        rw [List.drop_eq_getElem_cons (by rw [size_list]; omega)]
        congr 1
        unfold byteAt
        rw [List.getD_eq_getElem?_getD, List.getElem?_eq_getElem (by rw [size_list]; omega)]
        simp
      have hb8 := byteAt_lt s i
      by_cases h1 : (i = 9 ∧ 1 < byteAt s i) ∨ (byteAt s i = 0 ∧ 0 < i)
      · rw [rdU_bad h1] at h; cases h
      · by_cases h2 : byteAt s i < 128
        · rw [rdU_end h0 h1 h2] at h
          injection h with h
          injection h with h3 h4
          subst h3 h4
          refine ⟨byteAt s i, rfl, ?_, by omega, ?_⟩
          · rcases p7 i h0.1 with ⟨rfl, h⟩ | ⟨rfl, h⟩ | ⟨rfl, h⟩ | ⟨rfl, h⟩ | ⟨rfl, h⟩ | ⟨rfl, h⟩ | ⟨rfl, h⟩ | ⟨rfl, h⟩ | ⟨rfl, h⟩ | ⟨rfl, h⟩ <;> (rw [h] at hn ⊢; omega)
          · rw [u64L_small h2, hd, show i + 1 - i = 1 by omega]; rfl
        · rw [rdU_go h0 h1 h2] at h
          have hpow : 2 ^ (7 * (i + 1)) = 128 * 2 ^ (7 * i) := by rw [show 7 * (i + 1) = 7 * i + 7 by omega, Nat.pow_add]; omega
          have hle : byteAt s i % 128 * 2 ^ (7 * i) ≤ 127 * 2 ^ (7 * i) := Nat.mul_le_mul_right _ (by omega)
          obtain ⟨q, e1, e2, e3, e4⟩ := ih (10 - (i + 1)) (by omega) h (by rw [hpow]; omega) rfl
          have hk := rdU_lt h
          refine ⟨byteAt s i % 128 + q * 128, ?_, e2, by have := e3 (by omega); omega, ?_⟩
          · rw [e1, hpow, Nat.add_mul, Nat.mul_assoc]; omega
          · have := e3 (by omega)
            rw [u64L_big (by omega), show (byteAt s i % 128 + q * 128) / 128 = q by omega, e4, hd, show k - i = (k - (i + 1)) + 1 by omega, List.take_succ_cons]
            congr 2
            omega
    · rw [rdU_out h0] at h; cases h
theorem rdU_wrote {s : ByteArray} {m k : Nat} (h : rdU s 0 0 = some (m, k)) : m < 18446744073709551616 ∧ u64L m = s.data.toList.take k := by
  obtain ⟨q, e1, e2, _, e4⟩ := rdU_back h (by omega)
  have : m = q := by simpa using e1
  subst this
  exact ⟨e2, by simpa using e4⟩
/-- A signed number as one from 0 on. -/
def zig (n : Int) : Nat := if 0 ≤ n then (2 * n).toNat else (-2 * n - 1).toNat
def unzig (u : Nat) : Int := if u % 2 = 0 then (u / 2 : Nat) else -((u / 2 : Nat) : Int) - 1
theorem unzig_zig (n : Int) : unzig (zig n) = n := by unfold unzig zig; split <;> split <;> omega
theorem zig_unzig (u : Nat) : zig (unzig u) = u := by unfold unzig zig; split <;> split <;> omega
theorem zig_lt {n : Int} (h : -9223372036854775808 ≤ n) (h' : n ≤ 9223372036854775807) : zig n < 18446744073709551616 := by unfold zig; split <;> omega
/-- A writing is no beginning of another one. -/
theorem u64L_begins {m k : Nat} (hm : m < 18446744073709551616) (hk : k < 18446744073709551616) (l : List UInt8) (h : u64L k = u64L m ++ l) : m = k := by
  have h1 := rdU_written ⟨(u64L k).toArray⟩ [] k hk (by simp)
  have h2 := rdU_written ⟨(u64L k).toArray⟩ l m hm (by simpa using h)
  rw [h1] at h2
  injection h2 with h2
  injection h2 with h2 _
  exact h2.symm
def bytesV (L : List UInt8) : List Value := L.map fun c => .int .u8 (c.toNat : Int)
theorem bytesV_app (L M : List UInt8) : bytesV (L ++ M) = bytesV L ++ bytesV M := by simp [bytesV]
theorem bytesV_len (L : List UInt8) : (bytesV L).length = L.length := by simp [bytesV]
theorem E89 : Elem Try.prog 95 5 1 1 (.int .u8 0) := ⟨Try.underlying95, by kernel_rfl, by rfl, by decide⟩
theorem strCells_bytes (s : ByteArray) : Lib.strCells s = bytesV s.data.toList := rfl
theorem bits_xor64 {a b : Nat} (ha : a < 18446744073709551616) (hb : b < 18446744073709551616) : bits .xor .u64 a b = ((a ^^^ b : Nat) : Int) := by
  have h : a ^^^ b < 18446744073709551616 := Nat.xor_lt_two_pow (n := 64) ha hb
  simp only [bits, BitVec.ofInt_natCast, BitVec.toNat_xor, BitVec.toNat_ofNat]
  rw [show IntKind.u64.bits = 64 from rfl, Nat.mod_eq_of_lt (show a < 2 ^ 64 by omega), Nat.mod_eq_of_lt (show b < 2 ^ 64 by omega), IntKind.wrap_u64]
  omega
theorem flip64 {r : Nat} (h : r < 18446744073709551616) : (r ^^^ 18446744073709551615 : Nat) = 18446744073709551615 - r := by
  have h1 : (BitVec.allOnes 64 ^^^ BitVec.ofNat 64 r).toNat = 18446744073709551615 ^^^ r := by
    rw [BitVec.toNat_xor, BitVec.toNat_ofNat, Nat.mod_eq_of_lt (show r < 2 ^ 64 by omega)]; rfl
  rw [Nat.xor_comm, ← h1, BitVec.xor_comm, BitVec.xor_allOnes, BitVec.toNat_not, BitVec.toNat_ofNat, Nat.mod_eq_of_lt (show r < 2 ^ 64 by omega)]
def ofL (L : List UInt8) : ByteArray := ⟨L.toArray⟩
theorem ofL_app (L M : List UInt8) : ofL (L ++ M) = ofL L ++ ofL M := by
  apply ByteArray.ext
  simp [ofL, ByteArray.data_append]
theorem ofL_size (L : List UInt8) : (ofL L).size = L.length := rfl
theorem ofL_list (s : ByteArray) : ofL s.data.toList = s := by
  apply ByteArray.ext
  simp [ofL]
set_option maxRecDepth 100000 in
theorem back_bytes {w : World} {n : Nat} {v : Value} {L : List UInt8} (hn : n = L.length) (hr : Row w 5 1 v n (bytesV L)) (hL : n ≤ 140737488355328) :
    (convert 95 9 v).run Try.prog w = .ok (.string (ofL L)) w := by
  subst hn
  obtain ⟨A, c, rfl, _, _⟩ := hr.form
  rcases hr.2 with ⟨h0, hl⟩ | ⟨g, o, cap, cur, hv, hb, h1, h2, h3, h4⟩
  · have hl0 : L = [] := List.eq_nil_of_length_eq_zero hl
    subst hl0
    injection h0 with e1 e2 e3
    subst e1 e3
    have hk9 := Try.underlying9
    have hk89 := Try.underlying95
    have hk5 := Try.underlying5
    simp [convert, run_underlying hk9, run_underlying hk89, run_underlying hk5, ofL, Conv.bytesToString]
    rfl
  · injection hv with e1 e2 e3
    subst e1
    exact run_convert_bytes_back (P := Try.prog) w 95 9 5 ⟨g, o, none⟩ c L Try.underlying95 Try.underlying5 Try.underlying9 (by
      intro j hj
      obtain ⟨ad, u, e, hu, hc⟩ := hr.src.at_ hj
      injection e with e
      subst e
      rw [hc, ← hu]
      simp [bytesV, hj])
theorem cat (w : World) (a b : ByteArray) (h : a.size + b.size ≤ 9223372036854775807) : (Op.stringOp .add a b).run Try.prog w = .ok (.string (a ++ b)) w := by
  have h1 : ¬ (((a.size + b.size : Nat) : Int) > IntKind.i64.max) := by rw [IntKind.max_i64]; omega
  unfold Op.stringOp
  simp only [if_neg h1]
  rfl
def u64S (n : Nat) : ByteArray := ofL (u64L n)
def intS (n : Int) : ByteArray := u64S (zig n)
def textS (s : ByteArray) : ByteArray := u64S s.size ++ s
theorem u64S_size (n : Nat) (h : n < 18446744073709551616) : (u64S n).size ≤ 10 := u64L_len10 n h
theorem and127 (n : Nat) (h : n < 18446744073709551616) : bits .and .u64 (n : Int) 127 = ((n % 128 : Nat) : Int) := by
  have h1 := (bits_nat .u64 64 (by decide) (fun n h0 h1 => by rw [IntKind.wrap_u64]; omega) n 127 (by omega) (by omega)).1
  have e : (n &&& 127 : Nat) = n % 128 := by
    have := Nat.and_two_pow_sub_one_eq_mod n 7
    simpa using this
  rw [e] at h1
  exact h1
theorem or128b_all : ∀ m, m < 128 → (m ||| 128 : Nat) = 128 + m := by decide +kernel
theorem or128b (n : Nat) : bits .or .u8 ((n : Int) % 128) 128 = ((128 + n % 128 : Nat) : Int) := by
  have h := (bits_nat .u8 8 (by decide) (fun n h0 h1 => by rw [IntKind.wrap_u8]; omega) (n % 128) 128 (by omega) (by omega)).2
  rw [or128b_all _ (by omega)] at h
  have e2 : ((n % 128 : Nat) : Int) = (n : Int) % 128 := by omega
  rw [e2] at h
  exact h
set_option maxRecDepth 100000 in
theorem ru64_calls (w : World) (n : Nat) (hn : n < 18446744073709551616) : Calls Try.prog 41 #[.int .u64 n] w (fun e w' => e = .returned (.string (u64S n)) ∧ Keep Nothing w w') := by
  have h10 := u64L_len10 n hn
  go_enter Try.func41, Try.ntmps41
  go_wp2_with fail
  go_loopw [0, 3] (fun x bv wr => ∃ (m : Nat) (M : List UInt8) (A : Option Addr) (c : Nat), x = .int .u64 m ∧ m ≤ n ∧ u64L n = M ++ u64L m ∧ bv = .slice A M.length c ∧ Row wr 5 1 (.slice A M.length c) M.length (bytesV M) ∧ Keep Nothing w wr ∧ (∀ g, (Value.slice A M.length c).ownBlock = some g → w.heap.size ≤ g)) (fun x _ _ => (intOf x).toNat)
  case atStart => exact ⟨n, [], none, 0, rfl, Nat.le_refl _, rfl, rfl, Row.nil _ 5 1, Keep.same _ _, fun g hg => by simp [Value.ownBlock] at hg⟩
  case round =>
    obtain ⟨m, M, A, c, rfl, hm, hu, rfl, hr, hk, ho⟩ := hrel
    have hML : M.length ≤ 10 := by
      have := congrArg List.length hu
      rw [List.length_append] at this
      omega
    have U := Lib.hid hu
    have R := Lib.hid hr
    have K := Lib.hid hk
    have O := Lib.hid ho
    clear hu hr hk ho h10
    by_cases hbig : 127 < m
    · have ha := and127 m (by omega)
      have hor := or128b m
      have hw8 : ((m : Int) % 128) % 256 = (m : Int) % 128 := by omega
      go_wp2_with (at_builtin; refine wpList_app _ rfl E89 (.tmp 6) (.tmp 11) rfl (R.out.alloc _) (Go.Proofs.Ythlfcinjmljbjaa.U.Src.one wr (.int .u8 ((128 + m % 128 : Nat) : Int)) 5) 1 rfl rfl (by simp [Value.oneCell']) (by unfold maxLen; omega) (by omega) ?_)
      intro v2 w2 hr2 hg2 hl2
      obtain ⟨A2, c2, rfl, _, _⟩ := hr2.form
      have K2 := Lib.hid ((K.out.alloc (.cells #[.int .u8 ((128 + m % 128 : Nat) : Int)] 5)).grown hg2 (fun i hi => .inr (O.out i hi)))
      have hsz := K.out.size
      have O2 := Lib.hid (show ∀ g, (Value.slice A2 (M.length + 1) c2).ownBlock = some g → w.heap.size ≤ g by
        intro g hg
        rcases hl2 with h | h
        · rw [h] at hg; exact O.out g hg
        · rw [h] at hg; injection hg with hg; omega)
      have e : bytesV [UInt8.ofNat (128 + m % 128)] = [.int .u8 ((128 + m % 128 : Nat) : Int)] := by simp [bytesV]; omega
      replace hr2 : Row w2 5 1 (.slice A2 (M.length + 1) c2) (M.length + 1) (bytesV (M ++ [UInt8.ofNat (128 + m % 128)])) := by rw [bytesV_app, e]; exact hr2
      have e5 : (M ++ [UInt8.ofNat (128 + m % 128)]).length = M.length + 1 := by simp
      rw [← e5] at hr2 O2
      have R2 := Lib.hid hr2
      clear hr2 hg2 hl2 e
      go_wp2_with fail
      go_roundw
      case rel => exact ⟨m / 128, M ++ [UInt8.ofNat (128 + m % 128)], A2, c2, by go_num, by omega, by rw [U.out, u64L_big (by omega)]; simp, by rw [e5], R2.out, K2.out, O2.out⟩
      case measure => simp [intOf]; omega
    · have hlt : m < 128 := by omega
      have hw8 : (m : Int) % 256 = (m : Int) := by omega
      go_wp2_with (at_builtin; refine wpList_app _ rfl E89 (.tmp 15) (.tmp 18) rfl (R.out.alloc _) (Go.Proofs.Ythlfcinjmljbjaa.U.Src.one wr (.int .u8 (m : Int)) 5) 1 rfl rfl (by simp [Value.oneCell']) (by unfold maxLen; omega) (by omega) ?_)
      intro v2 w2 hr2 hg2 hl2
      obtain ⟨A2, c2, rfl, _, _⟩ := hr2.form
      have K2 := Lib.hid ((K.out.alloc (.cells #[.int .u8 (m : Int)] 5)).grown hg2 (fun i hi => .inr (O.out i hi)))
      have e : bytesV [UInt8.ofNat m] = [.int .u8 (m : Int)] := by simp [bytesV]; omega
      replace hr2 : Row w2 5 1 (.slice A2 (M.length + 1) c2) (M.length + 1) (bytesV (M ++ [UInt8.ofNat m])) := by rw [bytesV_app, e]; exact hr2
      have hcv := back_bytes (by simp) hr2 (by omega)
      rw [show ofL (M ++ [UInt8.ofNat m]) = u64S n by unfold u64S; rw [U.out, u64L_small hlt]] at hcv
      clear hr2 hg2 hl2 e
      go_wp2_with fail
      go_ret
      exact ⟨rfl, K2.out⟩
theorem rzig_pos {n : Int} (hn : I64 n) (h : 0 ≤ n) : ((zig n : Nat) : Int) = n * 2 := by
  unfold zig; rw [if_pos h]; omega
theorem rzig_neg {n : Int} (hn : I64 n) (h : n < 0) : ((zig n : Nat) : Int) = bits .xor .u64 IntKind.u64.max (IntKind.u64.wrap (IntKind.u64.wrap n * 2)) := by
  have hz := zig_lt hn.1 hn.2
  have e0 : 18446744073709551615 - zig n = (18446744073709551616 + 2 * n).toNat := by unfold zig; rw [if_neg (by omega)]; have := hn.1; omega
  have e1 : IntKind.u64.wrap (IntKind.u64.wrap n * 2) = ((18446744073709551615 - zig n : Nat) : Int) := by
    rw [e0, IntKind.wrap_u64, IntKind.wrap_u64]; have := hn.1; omega
  have e2 : IntKind.u64.max = ((18446744073709551615 : Nat) : Int) := by rfl
  rw [e1, e2, bits_xor64 (by omega) (by omega), Nat.xor_comm, flip64 (by omega)]
  congr 1
  omega
theorem rint_calls (w : World) (n : Int) (hn : I64 n) : Calls Try.prog 37 #[.int .i64 n] w (fun e w' => e = .returned (.string (intS n)) ∧ Keep Nothing w w') := by
  have H := ru64_calls w (zig n) (zig_lt hn.1 hn.2)
  by_cases h0 : 0 ≤ n
  · rw [rzig_pos hn h0] at H
    have HH := Lib.hid H
    clear H
    go_enter Try.func37, Try.ntmps37
    go_wp2_with fail
    refine HH.out.mono ?_
    rintro e w1 ⟨rfl, hk⟩
    have K := Lib.hid hk
    clear hk
    go_wp2_with fail
    go_ret
    exact ⟨rfl, K.out⟩
  · rw [rzig_neg hn (by omega)] at H
    have HH := Lib.hid H
    clear H
    go_enter Try.func37, Try.ntmps37
    go_wp2_with fail
    refine HH.out.mono ?_
    rintro e w1 ⟨rfl, hk⟩
    have K := Lib.hid hk
    clear hk
    go_wp2_with fail
    go_ret
    exact ⟨rfl, K.out⟩
theorem rtext_calls (w : World) (s : ByteArray) (hs : s.size ≤ 140737488355328) : Calls Try.prog 39 #[.string s] w (fun e w' => e = .returned (.string (textS s)) ∧ Keep Nothing w w') := by
  have H := Lib.hid (ru64_calls w s.size (by omega))
  have h1 := u64S_size s.size (by omega)
  have hcv : (s.size : Int) % 18446744073709551616 = s.size := by omega
  have hcat := fun w => cat w (u64S s.size) s (by omega)
  go_enter Try.func39, Try.ntmps39
  go_wp2_with fail
  refine H.out.mono ?_
  rintro e w1 ⟨rfl, hk⟩
  have K := Lib.hid hk
  clear hk
  go_wp2_with fail
  go_ret
  exact ⟨rfl, K.out⟩
theorem rmay_calls (w : World) (c : Cmd) : Calls Try.prog 47 #[c.val] w (maySpec c w) := by
  obtain ⟨k, s, q, nm, n⟩ := c
  rcases kinds k with h | rfl | rfl | rfl | rfl | rfl | rfl | rfl | rfl | rfl | rfl | rfl | rfl | rfl
  · exact rmay_other w k s q n nm h
  · exact rmay_0 w s q n nm
  · exact rmay_1 w s q n nm
  · exact rmay_2 w s q n nm
  · exact rmay_3 w s q n nm
  · exact rmay_4 w s q n nm
  · exact rmay_5 w s q n nm
  · exact rmay_6 w s q n nm
  · exact rmay_7 w s q n nm
  · exact rmay_8 w s q n nm
  · exact rmay_9 w s q n nm
  · exact rmay_10 w s q n nm
  · exact rmay_11 w s q n nm
  · exact rmay_12 w s q n nm
def encL (c : Cmd) : List UInt8 := [] ++ u64L (zig c.k) ++ u64L (zig c.s) ++ u64L (zig c.q) ++ u64L c.nm.size ++ c.nm.data.toList ++ u64L (zig c.n)
def encS (c : Cmd) : ByteArray := if mayB c then ofL (encL c) else ByteArray.empty
structure In64 (c : Cmd) : Prop where
  k : I64 c.k
  s : I64 c.s
  q : I64 c.q
  n : I64 c.n
theorem may_name {c : Cmd} (h : mayB c = true) : c.nm.size ≤ 64 := by
  have h' : MayP c := of_decide_eq_true h
  unfold MayP at h'
  omega
theorem encS_sum (c : Cmd) : ofL (encL c) = intS c.k ++ intS c.s ++ intS c.q ++ textS c.nm ++ intS c.n := by
  unfold encL intS textS u64S
  rw [List.nil_append, ofL_app, ofL_app, ofL_app, ofL_app, ofL_app, ofL_list]
  apply ByteArray.ext
  simp [ByteArray.data_append]
set_option maxHeartbeats 6400000 in
theorem renc_calls (w : World) (c : Cmd) (hc : In64 c) : Calls Try.prog 40 #[c.val] w (fun e w' => e = .returned (.tuple #[.string (encS c), .int .i64 (okE (mayB c))]) ∧ Keep Nothing w w') := by
  have hu := Try.underlying31
  have hb : ∀ w', Below w.heap.size w w' → Keep Nothing w w' := fun w' h => Keep.of_below h _
  have HM := Lib.hid (fun w => rmay_calls w c)
  unfold maySpec at HM
  cases hm : mayB c with
  | false =>
    rw [hm] at HM
    have E := Lib.hid (show encS c = ByteArray.empty by unfold encS; rw [hm]; rfl)
    clear hm
    unfold Cmd.val Cmd.cs at HM ⊢
    go_enter Try.func40, Try.ntmps40
    go_wp2_with fail
    refine (HM.out _).mono ?_
    rintro e w' ⟨rfl, hk⟩
    have K := Lib.hid hk
    clear hk
    go_wp2_with fail
    go_ret2
    exact ⟨by rw [E.out]; rfl, Keep.then (by repeat (first | exact Keep.same _ _ | apply Keep.alloc)) K.out⟩
  | true =>
    rw [hm] at HM
    have E := Lib.hid (show encS c = intS c.k ++ intS c.s ++ intS c.q ++ textS c.nm ++ intS c.n by unfold encS; rw [hm, if_pos rfl, encS_sum])
    have hnm := may_name hm
    have SB := Lib.hid ((blkP_stable w.heap.size 31 #[.int .i64 c.k, .int .i64 c.s, .int .i64 c.q, .string c.nm, .int .i64 c.n]).star none_stable)
    have z1 : (intS c.k).size ≤ 10 := u64L_len10 _ (zig_lt hc.k.1 hc.k.2)
    have z2 : (intS c.s).size ≤ 10 := u64L_len10 _ (zig_lt hc.s.1 hc.s.2)
    have z3 : (intS c.q).size ≤ 10 := u64L_len10 _ (zig_lt hc.q.1 hc.q.2)
    have z4 : (textS c.nm).size ≤ 80 := by unfold textS; rw [ByteArray.size_append]; have := u64S_size c.nm.size (by omega); omega
    have z5 : (intS c.n).size ≤ 10 := u64L_len10 _ (zig_lt hc.n.1 hc.n.2)
    have p1 := fun w => cat w (intS c.k) (intS c.s) (by omega)
    have p2 := fun w => cat w (intS c.k ++ intS c.s) (intS c.q) (by rw [ByteArray.size_append]; omega)
    have p3 := fun w => cat w (intS c.k ++ intS c.s ++ intS c.q) (textS c.nm) (by rw [ByteArray.size_append, ByteArray.size_append]; omega)
    have p4 := fun w => cat w (intS c.k ++ intS c.s ++ intS c.q ++ textS c.nm) (intS c.n) (by rw [ByteArray.size_append, ByteArray.size_append, ByteArray.size_append]; omega)
    have r4 := Lib.hid (fun w => rtext_calls w c.nm (by omega))
    have HC := Lib.hid hc
    have H0 := Lib.hid ((Holds.start w).newBlk none_stable 31 c.cs)
    clear hm hc z1 z2 z3 z4 z5
    unfold Cmd.val Cmd.cs at HM ⊢
    unfold Cmd.cs at H0
    go_enter Try.func40, Try.ntmps40
    go_wp2_with fail
    refine (HM.out _).mono ?_
    rintro e w1 ⟨rfl, hk1⟩
    have H1 := Lib.hid (H0.out.kept SB.out hk1)
    clear hk1
    generalize hg0 : w.heap.size = b0 at *
    clear hg0 H0
    have CC := Lib.hid (show ∀ w', Holds b0 w w' (star (blkP b0 31 #[.int .i64 c.k, .int .i64 c.s, .int .i64 c.q, .string c.nm, .int .i64 c.n]) none_) → w'.cell? ⟨b0, 0, none⟩ = some (.int .i64 c.k) ∧ w'.cell? ⟨b0, 1, none⟩ = some (.int .i64 c.s) ∧ w'.cell? ⟨b0, 2, none⟩ = some (.int .i64 c.q) ∧ w'.cell? ⟨b0, 3, none⟩ = some (.string c.nm) ∧ w'.cell? ⟨b0, 4, none⟩ = some (.int .i64 c.n) from
      fun w' h => ⟨(blk_at h).cell 0, (blk_at h).cell 1, (blk_at h).cell 2, (blk_at h).cell 3, (blk_at h).cell 4⟩)
    have T := H1.out
    have cc := CC.out _ T
    go_wp2_with fail
    go_region_held3 (fun w' => w'.cell? ⟨b0, 0, none⟩ = some (.int .i64 c.k) ∧ w'.cell? ⟨b0, 1, none⟩ = some (.int .i64 c.s) ∧ w'.cell? ⟨b0, 2, none⟩ = some (.int .i64 c.q) ∧ w'.cell? ⟨b0, 3, none⟩ = some (.string c.nm) ∧ w'.cell? ⟨b0, 4, none⟩ = some (.int .i64 c.n)) (first | exact cc | go_keep) ((first | (go_at_call 37; refine (rint_calls _ _ (by first | exact HC.out.k | exact HC.out.s | exact HC.out.q | exact HC.out.n)).mono ?_; rintro e w5 ⟨rfl, hk5⟩; replace T := (by first | exact (T.drewN SB.out _).kept SB.out hk5 | exact T.kept SB.out hk5 : Holds b0 w w5 (star (blkP b0 31 #[.int .i64 c.k, .int .i64 c.s, .int .i64 c.q, .string c.nm, .int .i64 c.n]) none_)); replace cc := CC.out _ T; clear hk5) | (go_at_call 39; refine (r4.out _).mono ?_; rintro e w8 ⟨rfl, hk8⟩; replace T := T.kept SB.out hk8; replace cc := CC.out _ T; clear hk8)))
    go_wp2_with fail
    go_ret2
    exact ⟨by rw [E.out]; rfl, hb _ T.below⟩
structure Ent where
  a : Int
  b : Int
  c : Cmd
def Ent.val (x : Ent) : Value := .agg #[.int .i64 x.a, .int .i64 x.b, .int .i64 x.c.k, .int .i64 x.c.s, .int .i64 x.c.q, .string x.c.nm, .int .i64 x.c.n]
def entB (x : Ent) : Bool := inB x.a 1 1099511627776 && inB x.b 0 1099511627776 && mayB x.c
theorem rentry_calls (w : World) (x : Ent) : Calls Try.prog 48 #[x.val] w (fun e w' => e = .returned (.bool (entB x)) ∧ Keep Nothing w w') := by
  have hu := Try.underlying85
  have hu2 := Try.underlying31
  have HA := fun w => within_calls w x.a 1 1099511627776
  have HB := fun w => within_calls w x.b 0 1099511627776
  have HM := Lib.hid (fun w => rmay_calls w x.c)
  unfold maySpec at HM
  have cells := Blk.fresh w 85 #[.int .i64 x.a, .int .i64 x.b, .int .i64 x.c.k, .int .i64 x.c.s, .int .i64 x.c.q, .string x.c.nm, .int .i64 x.c.n]
  have c0 := cells.cell 0
  have c1 := cells.cell 1
  have c2 := cells.cell 2
  have c3 := cells.cell 3
  have c4 := cells.cell 4
  have c5 := cells.cell 5
  have c6 := cells.cell 6
  have K0 := Lib.hid ((Keep.same Nothing w).alloc (.cells #[.int .i64 x.a, .int .i64 x.b, .int .i64 x.c.k, .int .i64 x.c.s, .int .i64 x.c.q, .string x.c.nm, .int .i64 x.c.n] 85))
  have EB := Lib.hid (show entB x = (inB x.a 1 1099511627776 && inB x.b 0 1099511627776 && mayB x.c) from rfl)
  clear cells
  unfold Cmd.val Cmd.cs at HM
  unfold Ent.val
  generalize mayB x.c = m at *
  cases h1 : inB x.a 1 1099511627776 with
  | false =>
    rw [h1] at HA EB
    have HA' := Lib.hid HA
    clear HA HB h1
    go_enter Try.func48, Try.ntmps48
    go_wp2_with fail
    refine (HA'.out _).mono ?_
    rintro e w' ⟨rfl, rfl⟩
    go_wp2_with fail
    go_ret
    exact ⟨by rw [EB.out]; rfl, K0.out⟩
  | true =>
    rw [h1] at HA EB
    cases h2 : inB x.b 0 1099511627776 with
    | false =>
      rw [h2] at HB EB
      have HA' := Lib.hid HA
      have HB' := Lib.hid HB
      clear HA HB h1 h2
      go_enter Try.func48, Try.ntmps48
      go_wp2_with fail
      refine (HA'.out _).mono ?_
      rintro e w' ⟨rfl, rfl⟩
      go_wp2_with fail
      refine (HB'.out _).mono ?_
      rintro e w' ⟨rfl, rfl⟩
      go_wp2_with fail
      go_ret
      exact ⟨by rw [EB.out]; rfl, K0.out⟩
    | true =>
      rw [h2] at HB EB
      have HA' := Lib.hid HA
      have HB' := Lib.hid HB
      clear HA HB h1 h2
      go_enter Try.func48, Try.ntmps48
      go_wp2_with fail
      refine (HA'.out _).mono ?_
      rintro e w' ⟨rfl, rfl⟩
      go_wp2_with fail
      refine (HB'.out _).mono ?_
      rintro e w' ⟨rfl, rfl⟩
      go_wp2_with fail
      refine (HM.out _).mono ?_
      rintro e w' ⟨rfl, hk⟩
      have K := Lib.hid hk
      clear hk
      go_wp2_with fail
      go_ret
      exact ⟨by rw [EB.out]; simp, K0.out.then K.out⟩
structure EIn64 (x : Ent) : Prop where
  a : I64 x.a
  b : I64 x.b
  c : In64 x.c
def entL (x : Ent) : List UInt8 := [] ++ u64L (zig x.a) ++ u64L (zig x.b) ++ u64L (encS x.c).size ++ (encS x.c).data.toList
def entS (x : Ent) : ByteArray := if entB x then ofL (entL x) else ByteArray.empty
theorem encS_size {c : Cmd} (hc : In64 c) : (encS c).size ≤ 200 := by
  unfold encS
  split
  · rename_i h
    have hn := may_name h
    have l1 := u64L_len10 _ (zig_lt hc.k.1 hc.k.2)
    have l2 := u64L_len10 _ (zig_lt hc.s.1 hc.s.2)
    have l3 := u64L_len10 _ (zig_lt hc.q.1 hc.q.2)
    have l4 := u64L_len10 c.nm.size (by omega)
    have l5 := size_list c.nm
    have l6 := u64L_len10 _ (zig_lt hc.n.1 hc.n.2)
    rw [ofL_size]
    unfold encL
    simp only [List.length_append, List.length_nil]
    omega
  · exact Nat.zero_le _
theorem ent_may {x : Ent} (h : entB x = true) : mayB x.c = true := by
  unfold entB at h
  rw [Bool.and_eq_true] at h
  exact h.2
theorem entS_sum (x : Ent) : ofL (entL x) = intS x.a ++ intS x.b ++ textS (encS x.c) := by
  unfold entL intS textS u64S
  rw [List.nil_append, ofL_app, ofL_app, ofL_app, ofL_list]
  apply ByteArray.ext
  simp [ByteArray.data_append]
abbrev ecs (x : Ent) : Array Value := #[.int .i64 x.a, .int .i64 x.b, .int .i64 x.c.k, .int .i64 x.c.s, .int .i64 x.c.q, .string x.c.nm, .int .i64 x.c.n]
set_option maxHeartbeats 6400000 in
theorem reenc_calls (w : World) (x : Ent) (hx : EIn64 x) : Calls Try.prog 38 #[x.val] w (fun e w' => e = .returned (.tuple #[.string (entS x), .int .i64 (okE (entB x))]) ∧ Keep Nothing w w') := by
  have hu := Try.underlying85
  have hu2 := Try.underlying31
  have hb : ∀ w', Below w.heap.size w w' → Keep Nothing w w' := fun w' h => Keep.of_below h _
  have HM := Lib.hid (fun w => rentry_calls w x)
  cases hm : entB x with
  | false =>
    rw [hm] at HM
    have E := Lib.hid (show entS x = ByteArray.empty by unfold entS; rw [hm]; rfl)
    clear hm
    unfold Ent.val at HM ⊢
    go_enter Try.func38, Try.ntmps38
    go_wp2_with fail
    refine (HM.out _).mono ?_
    rintro e w' ⟨rfl, hk⟩
    have K := Lib.hid hk
    clear hk
    go_wp2_with fail
    go_ret2
    exact ⟨by rw [E.out]; rfl, Keep.then (by repeat (first | exact Keep.same _ _ | apply Keep.alloc)) K.out⟩
  | true =>
    rw [hm] at HM
    have E := Lib.hid (show entS x = intS x.a ++ intS x.b ++ textS (encS x.c) by unfold entS; rw [hm, if_pos rfl, entS_sum])
    have HE := Lib.hid (fun w => renc_calls w x.c hx.c)
    rw [ent_may hm] at HE
    have hz := encS_size hx.c
    have SB := Lib.hid ((blkP_stable w.heap.size 85 (ecs x)).star none_stable)
    have z1 : (intS x.a).size ≤ 10 := u64L_len10 _ (zig_lt hx.a.1 hx.a.2)
    have z2 : (intS x.b).size ≤ 10 := u64L_len10 _ (zig_lt hx.b.1 hx.b.2)
    have z4 : (textS (encS x.c)).size ≤ 220 := by unfold textS; rw [ByteArray.size_append]; have := u64S_size (encS x.c).size (by omega); omega
    have p1 := fun w => cat w (intS x.a) (intS x.b) (by omega)
    have p2 := fun w => cat w (intS x.a ++ intS x.b) (textS (encS x.c)) (by rw [ByteArray.size_append]; omega)
    have r4 := Lib.hid (fun w => rtext_calls w (encS x.c) (by omega))
    have HX := Lib.hid hx
    have H0 := Lib.hid ((Holds.start w).newBlk none_stable 85 (ecs x))
    generalize encS x.c = ct at *
    clear hm hx z1 z2 z4
    unfold Cmd.val Cmd.cs at HE
    unfold Ent.val at HM ⊢
    go_enter Try.func38, Try.ntmps38
    go_wp2_with fail
    refine (HM.out _).mono ?_
    rintro e w1 ⟨rfl, hk1⟩
    have H1 := Lib.hid (H0.out.kept SB.out hk1)
    clear hk1
    have d2 := (blk_at H1.out).cell 2
    have d3 := (blk_at H1.out).cell 3
    have d4 := (blk_at H1.out).cell 4
    have d5 := (blk_at H1.out).cell 5
    have d6 := (blk_at H1.out).cell 6
    go_wp2_with fail
    refine (HE.out _).mono ?_
    rintro e w2 ⟨rfl, hk2⟩
    have T := H1.out.kept SB.out hk2
    clear hk2 d2 d3 d4 d5 d6 H1 H0
    generalize hg0 : w.heap.size = b0 at *
    clear hg0
    have CC := Lib.hid (show ∀ w', Holds b0 w w' (star (blkP b0 85 (ecs x)) none_) → w'.cell? ⟨b0, 0, none⟩ = some (.int .i64 x.a) ∧ w'.cell? ⟨b0, 1, none⟩ = some (.int .i64 x.b) from
      fun w' h => ⟨(blk_at h).cell 0, (blk_at h).cell 1⟩)
    have cc := CC.out _ T
    go_wp2_with fail
    go_region_held3 (fun w' => w'.cell? ⟨b0, 0, none⟩ = some (.int .i64 x.a) ∧ w'.cell? ⟨b0, 1, none⟩ = some (.int .i64 x.b)) (first | exact cc | go_keep) ((first | (go_at_call 37; refine (rint_calls _ _ (by first | exact HX.out.a | exact HX.out.b)).mono ?_; rintro e w5 ⟨rfl, hk5⟩; replace T := (by first | exact (T.drewN SB.out _).kept SB.out hk5 | exact T.kept SB.out hk5 : Holds b0 w w5 (star (blkP b0 85 (ecs x)) none_)); replace cc := CC.out _ T; clear hk5) | (go_at_call 39; refine (r4.out _).mono ?_; rintro e w8 ⟨rfl, hk8⟩; replace T := T.kept SB.out hk8; replace cc := CC.out _ T; clear hk8)))
    go_wp2_with fail
    go_ret2
    exact ⟨by rw [E.out]; rfl, hb _ T.below⟩
structure Rep where
  s : Int
  q : Int
  e : Int
  k : Nat
  n : Int
structure Msg where
  k : Int
  f : Int
  t : Int
  b : Int
  s : Int
  r : Int
  z : Int
  e : Int
  es : List Ent
  c : Cmd
  p : Rep
  x : ByteArray
abbrev rcs (p : Rep) : Array Value := #[.int .i64 p.s, .int .i64 p.q, .int .i64 p.e, .int .u64 p.k, .int .i64 p.n]
/-- A message's cells; its entries lie at A. -/
abbrev mcsv (m : Msg) (v : Value) : Array Value := #[.int .i64 m.k, .int .i64 m.f, .int .i64 m.t, .int .i64 m.b, .int .i64 m.s, .int .i64 m.r, .int .i64 m.z, .int .i64 m.e, v, .int .i64 m.c.k, .int .i64 m.c.s, .int .i64 m.c.q, .string m.c.nm, .int .i64 m.c.n, .int .i64 m.p.s, .int .i64 m.p.q, .int .i64 m.p.e, .int .u64 m.p.k, .int .i64 m.p.n, .string m.x]
abbrev mcs (m : Msg) (A : Option Addr) (c : Nat) : Array Value := mcsv m (.slice A m.es.length c)
abbrev mval (m : Msg) (A : Option Addr) (c : Nat) : Value := .agg (mcs m A c)
/-- A number and its bounds. -/
structure Sp where
  n : Int
  lo : Int
  hi : Int
abbrev Sp.cl (x : Sp) : List Value := [.int .i64 x.n, .int .i64 x.lo, .int .i64 x.hi]
def sps (L : List Sp) : List Value := L.flatMap Sp.cl
def Sp.ok (x : Sp) : Bool := inB x.n x.lo x.hi
def spansL (m : Msg) : List Sp := [⟨m.k, 1, 15⟩, ⟨m.f, 0, 12⟩, ⟨m.t, 0, 12⟩, ⟨m.b, 0, 1099511627776⟩, ⟨m.s, -1, 1099511627776⟩, ⟨m.r, 0, 1099511627776⟩, ⟨m.z, 0, 1073741824⟩, ⟨m.e, 0, 255⟩, ⟨(m.es.length : Int), 0, 4096⟩]
def repliesL (p : Rep) : List Sp := [⟨p.s, 0, 1073741824⟩, ⟨p.q, 0, 1073741824⟩, ⟨p.e, 0, 255⟩, ⟨p.n, 0, 1073741824⟩]
theorem sps_cons (x : Sp) (L : List Sp) : sps (x :: L) = x.cl ++ sps L := rfl
theorem sps_len (L : List Sp) : (sps L).length = L.length * 3 := by
  induction L with
  | nil => rfl
  | cons x L ih => rw [sps_cons, List.length_append, ih, List.length_cons]; simp only [List.length_cons, List.length_nil]; omega
theorem sps_drop (L : List Sp) : ∀ k, (sps L).drop (k * 3) = sps (L.drop k) := by
  induction L with
  | nil => intro k; simp [sps]
  | cons x L ih =>
    intro k
    cases k with
    | zero => simp
    | succ k => rw [sps_cons, List.drop_succ_cons, ← ih k, List.drop_append, List.drop_eq_nil_of_le (by simp; omega), List.nil_append]; congr 1; simp only [List.length_cons, List.length_nil]; omega
theorem sps_get {L : List Sp} {k : Nat} {x : Sp} (h : L[k]? = some x) (j : Nat) (hj : j < 3) : (sps L)[k * 3 + j]? = x.cl[j]? := by
  obtain ⟨hk, he⟩ := List.getElem?_eq_some_iff.1 h
  rw [← List.getElem?_drop, sps_drop, List.drop_eq_getElem_cons hk, he, sps_cons, List.getElem?_append_left (by simp; omega)]
theorem src_kept {w w' : World} {A : Option Addr} {s n : Nat} {xs : List Value} (h : U.Src w A s n xs) (hk : Keep Nothing w w') : U.Src w' A s n xs :=
  ⟨h.1, fun hn => let ⟨ad, e, hc⟩ := h.2 hn; ⟨ad, e, fun j u hu => hk.cell (hc j u hu) (fun h => h)⟩⟩
abbrev Ent.cl (x : Ent) : List Value := [.int .i64 x.a, .int .i64 x.b, .int .i64 x.c.k, .int .i64 x.c.s, .int .i64 x.c.q, .string x.c.nm, .int .i64 x.c.n]
theorem EE : Elem Try.prog 35 85 7 64 (.agg #[.int .i64 0, .int .i64 0, .int .i64 0, .int .i64 0, .int .i64 0, .string ⟨#[]⟩, .int .i64 0]) := ⟨Try.underlying35, by kernel_rfl, by rfl, by decide⟩
def ents (L : List Ent) : List Value := L.flatMap Ent.cl
theorem ents_app (L M : List Ent) : ents (L ++ M) = ents L ++ ents M := by simp [ents]
theorem ents_cons (x : Ent) (L : List Ent) : ents (x :: L) = x.cl ++ ents L := rfl
theorem ents_one1 (x : Ent) : ents [x] = x.cl := by simp [ents]
theorem ents_len (L : List Ent) : (ents L).length = L.length * 7 := by
  induction L with
  | nil => rfl
  | cons x L ih => rw [ents_cons, List.length_append, ih, List.length_cons]; simp only [List.length_cons, List.length_nil]; omega
theorem ents_one (L : List Ent) : ∀ u ∈ ents L, u.oneCell' = true := by
  intro u hu
  obtain ⟨x, _, h⟩ := List.mem_flatMap.1 hu
  simp only [Ent.cl, List.mem_cons, List.not_mem_nil, or_false] at h
  rcases h with rfl | rfl | rfl | rfl | rfl | rfl | rfl <;> rfl
theorem ents_drop (L : List Ent) : ∀ k, (ents L).drop (k * 7) = ents (L.drop k) := by
  induction L with
  | nil => intro k; simp [ents]
  | cons x L ih =>
    intro k
    cases k with
    | zero => simp
    | succ k => rw [ents_cons, List.drop_succ_cons, ← ih k, List.drop_append, List.drop_eq_nil_of_le (by simp; omega), List.nil_append]; congr 1; simp only [List.length_cons, List.length_nil]; omega
theorem ents_get {L : List Ent} {k : Nat} {x : Ent} (h : L[k]? = some x) (j : Nat) (hj : j < 7) : (ents L)[k * 7 + j]? = x.cl[j]? := by
  obtain ⟨hk, he⟩ := List.getElem?_eq_some_iff.1 h
  rw [← List.getElem?_drop, ents_drop, List.drop_eq_getElem_cons hk, he, ents_cons, List.getElem?_append_left (by simp; omega)]
def EntAt (w : World) (p : Addr) (x : Ent) : Prop :=
  w.cell? p = some (.int .i64 x.a) ∧ w.cell? ⟨p.block, p.off + 1, none⟩ = some (.int .i64 x.b) ∧ w.cell? ⟨p.block, p.off + 2, none⟩ = some (.int .i64 x.c.k) ∧ w.cell? ⟨p.block, p.off + 3, none⟩ = some (.int .i64 x.c.s) ∧
  w.cell? ⟨p.block, p.off + 4, none⟩ = some (.int .i64 x.c.q) ∧ w.cell? ⟨p.block, p.off + 5, none⟩ = some (.string x.c.nm) ∧ w.cell? ⟨p.block, p.off + 6, none⟩ = some (.int .i64 x.c.n)
theorem ent_at {w : World} {A : Option Addr} {L : List Ent} {n k : Nat} (h : U.Src w A 7 n (ents L)) (hk : k < n) : ∃ (ad : Addr) (x : Ent), A = some ad ∧ L[k]? = some x ∧ EntAt w (ad.add (k * 7)) x := by
  have hl : L.length = n := by have := h.1; rw [ents_len] at this; omega
  obtain ⟨ad, rfl, hc⟩ := h.2 (by omega)
  have hx : L[k]? = some (L[k]'(by omega)) := List.getElem?_eq_getElem (by omega)
  have g : ∀ j u, (L[k]'(by omega)).cl[j]? = some u → w.cell? (ad.add (k * 7 + j)) = some u := fun j u hu => hc _ _ (by
    rw [ents_get hx j (by have := (List.getElem?_eq_some_iff.1 hu).1; simpa using this)]; exact hu)
  have g' : ∀ j u, 0 < j → (L[k]'(by omega)).cl[j]? = some u → w.cell? ⟨(ad.add (k * 7)).block, (ad.add (k * 7)).off + j, none⟩ = some u := fun j u hj hu => by
    rw [← addLater ad (k * 7) j hj]; exact g j u hu
  exact ⟨ad, _, rfl, hx, g 0 _ rfl, g' 1 _ (by omega) rfl, g' 2 _ (by omega) rfl, g' 3 _ (by omega) rfl, g' 4 _ (by omega) rfl, g' 5 _ (by omega) rfl, g' 6 _ (by omega) rfl⟩
theorem EntAt.keep {w w' : World} {p : Addr} {x : Ent} {S : Nat → Prop} (h : EntAt w p x) (hk : Keep S w w') (hn : ¬ S p.block) : EntAt w' p x := by
  obtain ⟨h0, h1, h2, h3, h4, h5, h6⟩ := h
  exact ⟨hk.cell h0 hn, hk.cell h1 hn, hk.cell h2 hn, hk.cell h3 hn, hk.cell h4 hn, hk.cell h5 hn, hk.cell h6 hn⟩
def headB (m : Msg) : Bool := (spansL m).all Sp.ok && (repliesL m.p).all Sp.ok
def mayM (m : Msg) : Bool := (spansL m).all Sp.ok && ((repliesL m.p).all Sp.ok && (decide (m.x.size ≤ 524288) && (m.es.all entB && mayB m.c)))
def hdL (L : List Sp) : List UInt8 := L.flatMap fun s => u64L (zig s.n)
def entL1 (x : Ent) : List UInt8 := u64L (entS x).size ++ (entS x).data.toList
def entsL (L : List Ent) : List UInt8 := L.flatMap entL1
def tlL (m : Msg) : List UInt8 := u64L (encS m.c).size ++ ((encS m.c).data.toList ++ (u64L (zig m.p.s) ++ (u64L (zig m.p.q) ++ (u64L (zig m.p.e) ++ (u64L m.p.k ++ (u64L (zig m.p.n) ++ (u64L m.x.size ++ (m.x.data.toList ++ []))))))))
def msgL (m : Msg) : List UInt8 := hdL (spansL m) ++ (entsL m.es ++ tlL m)
def msgOk (m : Msg) : Bool := mayM m && decide ((msgL m).length ≤ 524288)
def msgS (m : Msg) : ByteArray := if msgOk m then ofL (msgL m) else ByteArray.empty
structure MIn (m : Msg) : Prop where
  sp : ∀ x ∈ spansL m, I64 x.n
  rp : ∀ x ∈ repliesL m.p, I64 x.n
  k : m.p.k < 18446744073709551616
  c : In64 m.c
  es : ∀ x ∈ m.es, EIn64 x
theorem hdL_next {L : List Sp} {k : Nat} {x : Sp} (h : L[k]? = some x) : hdL (L.take (k + 1)) = hdL (L.take k) ++ u64L (zig x.n) := by
  unfold hdL
  rw [List.take_add_one, h, List.flatMap_append]
  simp
theorem entsL_next {L : List Ent} {k : Nat} {x : Ent} (h : L[k]? = some x) : entsL (L.take (k + 1)) = entsL (L.take k) ++ entL1 x := by
  unfold entsL
  rw [List.take_add_one, h, List.flatMap_append]
  simp
theorem entB_all {L : List Ent} {k : Nat} {x : Ent} (h : L[k]? = some x) : (L.drop k).all entB = (entB x && (L.drop (k + 1)).all entB) := by
  obtain ⟨hk, he⟩ := List.getElem?_eq_some_iff.1 h
  rw [List.drop_eq_getElem_cons hk, he]
  rfl
theorem hdL_len {L : List Sp} (h : ∀ x ∈ L, I64 x.n) (k : Nat) : (hdL (L.take k)).length ≤ 10 * k := by
  induction k with
  | zero => simp [hdL]
  | succ k ih =>
    by_cases hk : k < L.length
    · have hx : L[k]? = some L[k] := List.getElem?_eq_getElem hk
      have h6 := h _ (List.mem_of_getElem? hx)
      have := u64L_len10 _ (zig_lt h6.1 h6.2)
      rw [hdL_next hx, List.length_append]
      omega
    · rw [List.take_of_length_le (by omega)] at ih ⊢
      omega
theorem entS_size {x : Ent} (hx : EIn64 x) : (entS x).size ≤ 240 := by
  unfold entS
  split
  · have l1 := u64L_len10 _ (zig_lt hx.a.1 hx.a.2)
    have l2 := u64L_len10 _ (zig_lt hx.b.1 hx.b.2)
    have l3 := encS_size hx.c
    have l4 := u64L_len10 (encS x.c).size (by omega)
    have l5 := size_list (encS x.c)
    rw [ofL_size]
    unfold entL
    simp only [List.length_append, List.length_nil]
    omega
  · show 0 ≤ 240
    omega
theorem entL1_len {x : Ent} (hx : EIn64 x) : (entL1 x).length ≤ 250 := by
  have h := entS_size hx
  have l4 := u64L_len10 (entS x).size (by omega)
  have l5 := size_list (entS x)
  unfold entL1
  rw [List.length_append]
  omega
theorem entsL_len {L : List Ent} (h : ∀ x ∈ L, EIn64 x) (k : Nat) : (entsL (L.take k)).length ≤ 250 * k := by
  induction k with
  | zero => simp [entsL]
  | succ k ih =>
    by_cases hk : k < L.length
    · have hx : L[k]? = some L[k] := List.getElem?_eq_getElem hk
      have := entL1_len (h _ (List.mem_of_getElem? hx))
      rw [entsL_next hx, List.length_append]
      omega
    · rw [List.take_of_length_le (by omega)] at ih ⊢
      omega
theorem span_len {m : Msg} (h : (spansL m).all Sp.ok = true) : m.es.length ≤ 4096 := by
  have := List.all_eq_true.1 h ⟨(m.es.length : Int), 0, 4096⟩ (by simp [spansL])
  unfold Sp.ok inB at this
  have := (of_decide_eq_true this).2
  show m.es.length ≤ 4096
  simp at this
  omega
theorem spans_len (m : Msg) : (spansL m).length = 9 := rfl
theorem msgOk_f {m : Msg} (h : mayM m = false) : msgOk m = false ∧ msgS m = ByteArray.empty := by
  have e : msgOk m = false := by unfold msgOk; rw [h]; rfl
  exact ⟨e, by unfold msgS; rw [e]; rfl⟩
theorem blk_atM {B : Nat} {w0 w : World} {Q : SP} {b t : Nat} {cs : Array Value} (h : Holds B w0 w (star (blkP b t cs) Q)) : Blk w b t cs := by
  obtain ⟨F, hb, _⟩ := h.left
  exact hb
theorem rwithin_calls (w : World) (n lo hi : Int) : Calls Try.prog 46 #[.int .i64 n, .int .i64 lo, .int .i64 hi] w (fun e w' => e = .returned (.bool (inB n lo hi)) ∧ w' = w) := by
  have E := show inB n lo hi = (decide (lo ≤ n) && decide (n ≤ hi)) by unfold inB; rw [Bool.decide_and]
  rw [E]
  cases h1 : decide (lo ≤ n) with
  | false =>
    go_enter Try.func46, Try.ntmps46
    go_wp2_with fail
    go_ret
    exact ⟨rfl, rfl⟩
  | true =>
    go_enter Try.func46, Try.ntmps46
    go_wp2_with fail
    go_ret
    exact ⟨by simp, rfl⟩
set_option maxHeartbeats 12800000 in
theorem mrmay_calls (w : World) (m : Msg) (A : Option Addr) (c : Nat) (hs : U.Src w A 7 m.es.length (ents m.es)) (hlen : m.es.length ≤ 4611686018427387904) :
    Calls Try.prog 36 #[mval m A c] w (fun e w' => e = .returned (.bool (mayM m)) ∧ Keep Nothing w w') := by
  have hu := Try.underlying40
  have hu77 := Try.underlying38
  have hu54 := Try.underlying85
  have hu52 := Try.underlying31
  have HS := Lib.hid hs
  have X := Blk.fresh w 40 (mcs m A c)
  have K0 := Lib.hid ((Keep.same Nothing w).alloc (.cells (mcs m A c) 40))
  have HI := Lib.hid rwithin_calls
  have HC := Lib.hid (show ∀ w, Calls Try.prog 47 #[.agg #[.int .i64 m.c.k, .int .i64 m.c.s, .int .i64 m.c.q, .string m.c.nm, .int .i64 m.c.n]] w (maySpec m.c w) from fun w => rmay_calls w m.c)
  unfold maySpec at HC
  have x0 := X.cell 0
  have x1 := X.cell 1
  have x2 := X.cell 2
  have x3 := X.cell 3
  have x4 := X.cell 4
  have x5 := X.cell 5
  have x6 := X.cell 6
  have x7 := X.cell 7
  have x8 := X.cell 8
  have x9 := X.cell 9
  have x10 := X.cell 10
  have x11 := X.cell 11
  have x12 := X.cell 12
  have x13 := X.cell 13
  have XH := Lib.hid X
  clear hs X
  go_enter Try.func36, Try.ntmps36
  go_wp2_with fail
  refine (HI.out _ m.k 1 15).mono ?_
  rintro e w' ⟨rfl, rfl⟩
  cases h1 : inB m.k 1 15 with
  | false =>
    have E := Lib.hid (show mayM m = false by unfold mayM; simp [spansL, repliesL, Sp.ok, h1])
    go_wp2_with fail
    go_ret
    exact ⟨by rw [E.out]; rfl, K0.out⟩
  | true =>
    go_wp2_with fail
    refine (HI.out _ m.f 0 12).mono ?_
    rintro e w' ⟨rfl, rfl⟩
    cases h2 : inB m.f 0 12 with
    | false =>
      have E := Lib.hid (show mayM m = false by unfold mayM; simp [spansL, repliesL, Sp.ok, h2])
      go_wp2_with fail
      go_ret
      exact ⟨by rw [E.out]; rfl, K0.out⟩
    | true =>
      go_wp2_with fail
      refine (HI.out _ m.t 0 12).mono ?_
      rintro e w' ⟨rfl, rfl⟩
      cases h3 : inB m.t 0 12 with
      | false =>
        have E := Lib.hid (show mayM m = false by unfold mayM; simp [spansL, repliesL, Sp.ok, h3])
        go_wp2_with fail
        go_ret
        exact ⟨by rw [E.out]; rfl, K0.out⟩
      | true =>
        go_wp2_with fail
        refine (HI.out _ m.b 0 1099511627776).mono ?_
        rintro e w' ⟨rfl, rfl⟩
        cases h4 : inB m.b 0 1099511627776 with
        | false =>
          have E := Lib.hid (show mayM m = false by unfold mayM; simp [spansL, repliesL, Sp.ok, h4])
          go_wp2_with fail
          go_ret
          exact ⟨by rw [E.out]; rfl, K0.out⟩
        | true =>
          go_wp2_with fail
          refine (HI.out _ m.s (-1) 1099511627776).mono ?_
          rintro e w' ⟨rfl, rfl⟩
          cases h5 : inB m.s (-1) 1099511627776 with
          | false =>
            have E := Lib.hid (show mayM m = false by unfold mayM; simp [spansL, repliesL, Sp.ok, h5])
            go_wp2_with fail
            go_ret
            exact ⟨by rw [E.out]; rfl, K0.out⟩
          | true =>
            go_wp2_with fail
            refine (HI.out _ m.r 0 1099511627776).mono ?_
            rintro e w' ⟨rfl, rfl⟩
            cases h6 : inB m.r 0 1099511627776 with
            | false =>
              have E := Lib.hid (show mayM m = false by unfold mayM; simp [spansL, repliesL, Sp.ok, h6])
              go_wp2_with fail
              go_ret
              exact ⟨by rw [E.out]; rfl, K0.out⟩
            | true =>
              go_wp2_with fail
              refine (HI.out _ m.z 0 1073741824).mono ?_
              rintro e w' ⟨rfl, rfl⟩
              cases h7 : inB m.z 0 1073741824 with
              | false =>
                have E := Lib.hid (show mayM m = false by unfold mayM; simp [spansL, repliesL, Sp.ok, h7])
                go_wp2_with fail
                go_ret
                exact ⟨by rw [E.out]; rfl, K0.out⟩
              | true =>
                go_wp2_with fail
                refine (HI.out _ m.e 0 255).mono ?_
                rintro e w' ⟨rfl, rfl⟩
                cases h8 : inB m.e 0 255 with
                | false =>
                  have E := Lib.hid (show mayM m = false by unfold mayM; simp [spansL, repliesL, Sp.ok, h8])
                  go_wp2_with fail
                  go_ret
                  exact ⟨by rw [E.out]; rfl, K0.out⟩
                | true =>
                  by_cases hl : m.es.length ≤ 4096
                  · have h9 : inB (m.es.length : Int) 0 4096 = true := by unfold inB; exact decide_eq_true ⟨by omega, by omega⟩
                    have hl2 : decide (4096 < (m.es.length : Int)) = false := decide_eq_false (by omega)
                    go_wp2_with fail
                    refine (HC.out _).mono ?_
                    rintro e w5 ⟨rfl, hk5⟩
                    have K5 := Lib.hid (K0.out.then hk5)
                    have X5 := XH.out.keep hk5 (fun h => h)
                    have y8 := X5.cell 8
                    have y14 := X5.cell 14
                    have y15 := X5.cell 15
                    have y16 := X5.cell 16
                    have y17 := X5.cell 17
                    have y18 := X5.cell 18
                    have y19 := X5.cell 19
                    have hk5' := Lib.hid hk5
                    clear hk5 X5 x0 x1 x2 x3 x4 x5 x6 x7 x8 x9 x10 x11 x12 x13
                    cases h10 : mayB m.c with
                    | false =>
                      have E := Lib.hid (show mayM m = false by unfold mayM; simp [spansL, repliesL, Sp.ok, h10])
                      go_wp2_with fail
                      go_ret
                      exact ⟨by rw [E.out]; rfl, K5.out⟩
                    | true =>
                      by_cases hx : m.x.size ≤ 524288
                      · have hx2 : decide (524288 < (m.x.size : Int)) = false := decide_eq_false (by omega)
                        have hx3 : decide (m.x.size ≤ 524288) = true := decide_eq_true hx
                        have K6 := Lib.hid (K5.out.alloc (.cells (rcs m.p) 38))
                        have XA := (XH.out.keep hk5'.out (fun h => h)).alloc (.cells (rcs m.p) 38)
                        have y8' := XA.cell 8
                        clear XA
                        go_wp2_with fail
                        refine (HI.out _ m.p.s 0 1073741824).mono ?_
                        rintro e w' ⟨rfl, rfl⟩
                        cases h11 : inB m.p.s 0 1073741824 with
                        | false =>
                          have E := Lib.hid (show mayM m = false by unfold mayM; simp [spansL, repliesL, Sp.ok, h11])
                          go_wp2_with fail
                          go_ret
                          exact ⟨by rw [E.out]; rfl, K6.out⟩
                        | true =>
                          go_wp2_with fail
                          refine (HI.out _ m.p.q 0 1073741824).mono ?_
                          rintro e w' ⟨rfl, rfl⟩
                          cases h12 : inB m.p.q 0 1073741824 with
                          | false =>
                            have E := Lib.hid (show mayM m = false by unfold mayM; simp [spansL, repliesL, Sp.ok, h12])
                            go_wp2_with fail
                            go_ret
                            exact ⟨by rw [E.out]; rfl, K6.out⟩
                          | true =>
                            go_wp2_with fail
                            refine (HI.out _ m.p.e 0 255).mono ?_
                            rintro e w' ⟨rfl, rfl⟩
                            cases h13 : inB m.p.e 0 255 with
                            | false =>
                              have E := Lib.hid (show mayM m = false by unfold mayM; simp [spansL, repliesL, Sp.ok, h13])
                              go_wp2_with fail
                              go_ret
                              exact ⟨by rw [E.out]; rfl, K6.out⟩
                            | true =>
                              go_wp2_with fail
                              refine (HI.out _ m.p.n 0 1073741824).mono ?_
                              rintro e w' ⟨rfl, rfl⟩
                              cases h14 : inB m.p.n 0 1073741824 with
                              | false =>
                                have E := Lib.hid (show mayM m = false by unfold mayM; simp [spansL, repliesL, Sp.ok, h14])
                                go_wp2_with fail
                                go_ret
                                exact ⟨by rw [E.out]; rfl, K6.out⟩
                              | true =>
                                have EM := Lib.hid (show mayM m = m.es.all entB by unfold mayM; simp [spansL, repliesL, Sp.ok, h1, h2, h3, h4, h5, h6, h7, h8, h9, h10, hx3, h11, h12, h13, h14])
                                clear h1 h2 h3 h4 h5 h6 h7 h8 h9 h10 hx3 h11 h12 h13 h14 y14 y15 y16 y17 y18 y19
                                go_wp2_with fail
                                go_loopw [4] (fun v wr => ∃ k : Nat, k ≤ m.es.length ∧ v = .int .i64 k ∧ Hid (m.es.all entB = (m.es.drop k).all entB) ∧ Hid (Keep Nothing (w5.alloc (.cells (rcs m.p) 38)) wr)) (fun v _ => m.es.length - (intOf v).toNat)
                                case atStart => exact ⟨0, by omega, by simp, Lib.hid rfl, Lib.hid (Keep.same _ _)⟩
                                case round =>
                                  obtain ⟨k, hk, rfl, hok, hkp⟩ := hrel
                                  have KW := Lib.hid (K6.out.then hkp.out)
                                  have z8 := hkp.out.cell y8' (fun h => h)
                                  by_cases hlt : k < m.es.length
                                  · obtain ⟨ad, x, rfl, hx1, hat⟩ := ent_at HS.out hlt
                                    obtain ⟨c0, c1, c2, c3, c4, c5, c6⟩ := hat.keep KW.out (fun h => h)
                                    have HO := Lib.hid (hok.out.trans (entB_all hx1))
                                    have HE := Lib.hid (show ∀ w, Calls Try.prog 48 #[.agg (ecs x)] w (fun e w' => e = .returned (.bool (entB x)) ∧ Keep Nothing w w') from fun w => rentry_calls w x)
                                    clear hx1 hat hok
                                    go_wp2_with fail
                                    refine (HE.out _).mono ?_
                                    rintro e w8 ⟨rfl, hk8⟩
                                    have K8 := Lib.hid (hkp.out.then hk8)
                                    have K9 := Lib.hid (KW.out.then hk8)
                                    clear hk8
                                    cases heb : entB x with
                                    | false =>
                                      have E := Lib.hid (show mayM m = false by rw [EM.out, HO.out, heb]; rfl)
                                      clear heb
                                      go_wp2_with fail
                                      go_ret
                                      exact ⟨by rw [E.out]; rfl, K9.out⟩
                                    | true =>
                                      rw [heb, Bool.true_and] at HO
                                      clear heb
                                      go_wp2_with fail
                                      go_roundw
                                      case rel => exact ⟨k + 1, by omega, by go_num, HO, K8⟩
                                      case measure => simp [intOf]; omega
                                  · have hke : k = m.es.length := by omega
                                    have E := Lib.hid (show mayM m = true by rw [EM.out, hok.out, hke, List.drop_length]; rfl)
                                    clear hok
                                    subst hke
                                    go_wp2_with fail
                                    go_ret
                                    exact ⟨by rw [E.out]; rfl, KW.out⟩
                      · have hx2 : decide (524288 < (m.x.size : Int)) = true := decide_eq_true (by omega)
                        have E := Lib.hid (show mayM m = false by unfold mayM; simp [decide_eq_false hx])
                        go_wp2_with fail
                        go_ret
                        exact ⟨by rw [E.out]; rfl, K5.out⟩
                  · have hl2 : decide (4096 < (m.es.length : Int)) = true := decide_eq_true (by omega)
                    have h9 : inB (m.es.length : Int) 0 4096 = false := by unfold inB; exact decide_eq_false (by omega)
                    have E := Lib.hid (show mayM m = false by unfold mayM; simp [spansL, repliesL, Sp.ok, h9])
                    go_wp2_with fail
                    go_ret
                    exact ⟨by rw [E.out]; rfl, K0.out⟩
theorem intS_ofL (n : Int) : intS n = ofL (u64L (zig n)) := rfl
theorem textS_ofL (s : ByteArray) : textS s = ofL (u64L s.size ++ s.data.toList) := by
  unfold textS u64S
  rw [ofL_app, ofL_list]
theorem head_sum (m : Msg) : intS m.k ++ intS m.f ++ intS m.t ++ intS m.b ++ intS m.s ++ intS m.r ++ intS m.z ++ intS m.e ++ intS (m.es.length : Int) = ofL (hdL (spansL m)) := by
  simp only [intS_ofL, ← ofL_app, hdL, spansL, List.flatMap_cons, List.flatMap_nil, List.append_nil, List.append_assoc]
theorem tail_sum (m : Msg) : textS (encS m.c) ++ (intS m.p.s ++ intS m.p.q ++ intS m.p.e ++ u64S m.p.k ++ intS m.p.n ++ textS m.x) = ofL (tlL m) := by
  simp only [intS_ofL, textS_ofL, u64S, ← ofL_app, tlL, List.append_nil, List.append_assoc]
theorem kept_all {B : Nat} {w0 w : World} {P : SP} (h : Holds B w0 w P) (hP : Stable P) : ∀ X, Keep Nothing w X → Holds B w0 X P := fun X hk => h.kept hP hk
theorem keepN {B : Nat} {w0 w : World} {P : SP} (h : Holds B w0 w P) : ∀ n, Keep Nothing w (w.drewN n) := fun n => (Keep.same Nothing w).drewN n
theorem keep0 {B : Nat} {w0 w : World} {P : SP} (h : Holds B w0 w P) : Keep Nothing w w := Keep.same Nothing w
set_option maxHeartbeats 25600000 in
theorem mrenc_calls (w : World) (m : Msg) (A : Option Addr) (c : Nat) (hs : U.Src w A 7 m.es.length (ents m.es)) (hm : MIn m) (hlen : m.es.length ≤ 4611686018427387904) :
    Calls Try.prog 28 #[mval m A c] w (fun e w' => e = .returned (.tuple #[.string (msgS m), .int .i64 (okE (msgOk m))]) ∧ Keep Nothing w w') := by
  have hu := Try.underlying40
  have hu77 := Try.underlying38
  have hu54 := Try.underlying85
  have hu52 := Try.underlying31
  have hb : ∀ w', Below w.heap.size w w' → Keep Nothing w w' := fun w' h => Keep.of_below h _
  have HM := Lib.hid hm
  have HS := Lib.hid hs
  have H0 := Lib.hid (Holds.newBlk (Holds.start w) none_stable 40 (mcs m A c))
  have X0 := Lib.hid (blk_atM H0.out)
  have hi79 : (Try.prog.info? 40).map (·.size) = some 20 := by kernel_rfl
  have HMY := Lib.hid (mrmay_calls _ m A c (src_kept hs ((Keep.same Nothing w).alloc (.cells (mcs m A c) 40))) hlen)
  clear hs hm
  go_enter Try.func28, Try.ntmps28
  go_wp2_with (refine wpList_load_row (by rfl) 40 (.tmp 1) (by rfl) w.heap.size (by rfl) 40 (mcs m A c) (0, 0) _ X0.out hu rfl hi79 ?_)
  refine HMY.out.mono ?_
  rintro e w1 ⟨rfl, hk1⟩
  have H1 := Lib.hid (H0.out.kept (by repeat (first | exact none_stable | exact wrP_stable _ _ | exact blkP_stable _ _ _ | exact rowP_stable _ _ _ _ _ | apply Stable.star)) hk1)
  clear hk1
  cases hmm : mayM m with
  | false =>
    have E := Lib.hid (msgOk_f hmm)
    clear hmm
    go_wp2_with fail
    go_ret2
    exact ⟨by rw [E.out.1, E.out.2]; rfl, hb _ H1.out.below⟩
  | true =>
    have MM := Lib.hid (show (spansL m).all Sp.ok = true ∧ (repliesL m.p).all Sp.ok = true ∧ m.x.size ≤ 524288 ∧ m.es.all entB = true ∧ mayB m.c = true by
      unfold mayM at hmm
      simp only [Bool.and_eq_true, decide_eq_true_eq] at hmm
      exact ⟨hmm.1, hmm.2.1, hmm.2.2.1, hmm.2.2.2.1, hmm.2.2.2.2⟩)
    have EK := Lib.hid (show msgOk m = decide ((msgL m).length ≤ 524288) by unfold msgOk; rw [hmm]; rfl)
    have hsl4 := span_len MM.out.1
    have hxs := MM.out.2.2.1
    clear hmm
    have hz : ∀ n, I64 n → (intS n).size ≤ 10 := fun n h => u64L_len10 _ (zig_lt h.1 h.2)
    have I9 := Lib.hid (show I64 m.k ∧ I64 m.f ∧ I64 m.t ∧ I64 m.b ∧ I64 m.s ∧ I64 m.r ∧ I64 m.z ∧ I64 m.e ∧ I64 (m.es.length : Int) from ⟨HM.out.sp ⟨m.k, 1, 15⟩ (by simp [spansL]), HM.out.sp ⟨m.f, 0, 12⟩ (by simp [spansL]), HM.out.sp ⟨m.t, 0, 12⟩ (by simp [spansL]), HM.out.sp ⟨m.b, 0, 1099511627776⟩ (by simp [spansL]), HM.out.sp ⟨m.s, -1, 1099511627776⟩ (by simp [spansL]), HM.out.sp ⟨m.r, 0, 1099511627776⟩ (by simp [spansL]), HM.out.sp ⟨m.z, 0, 1073741824⟩ (by simp [spansL]), HM.out.sp ⟨m.e, 0, 255⟩ (by simp [spansL]), HM.out.sp ⟨(m.es.length : Int), 0, 4096⟩ (by simp [spansL])⟩)
    have z0 := hz _ I9.out.1
    have z1 := hz _ I9.out.2.1
    have z2 := hz _ I9.out.2.2.1
    have z3 := hz _ I9.out.2.2.2.1
    have z4 := hz _ I9.out.2.2.2.2.1
    have z5 := hz _ I9.out.2.2.2.2.2.1
    have z6 := hz _ I9.out.2.2.2.2.2.2.1
    have z7 := hz _ I9.out.2.2.2.2.2.2.2.1
    have z8 := hz _ I9.out.2.2.2.2.2.2.2.2
    have p1 := fun w => cat w (intS m.k) (intS m.f) (by (try simp only [ByteArray.size_append]); omega)
    have p2 := fun w => cat w (intS m.k ++ intS m.f) (intS m.t) (by (try simp only [ByteArray.size_append]); omega)
    have p3 := fun w => cat w (intS m.k ++ intS m.f ++ intS m.t) (intS m.b) (by (try simp only [ByteArray.size_append]); omega)
    have p4 := fun w => cat w (intS m.k ++ intS m.f ++ intS m.t ++ intS m.b) (intS m.s) (by (try simp only [ByteArray.size_append]); omega)
    have p5 := fun w => cat w (intS m.k ++ intS m.f ++ intS m.t ++ intS m.b ++ intS m.s) (intS m.r) (by (try simp only [ByteArray.size_append]); omega)
    have p6 := fun w => cat w (intS m.k ++ intS m.f ++ intS m.t ++ intS m.b ++ intS m.s ++ intS m.r) (intS m.z) (by (try simp only [ByteArray.size_append]); omega)
    have p7 := fun w => cat w (intS m.k ++ intS m.f ++ intS m.t ++ intS m.b ++ intS m.s ++ intS m.r ++ intS m.z) (intS m.e) (by (try simp only [ByteArray.size_append]); omega)
    have p8 := fun w => cat w (intS m.k ++ intS m.f ++ intS m.t ++ intS m.b ++ intS m.s ++ intS m.r ++ intS m.z ++ intS m.e) (intS (m.es.length : Int)) (by (try simp only [ByteArray.size_append]); omega)
    clear z0 z1 z2 z3 z4 z5 z6 z7 z8 hz
    obtain ⟨b0, hb0⟩ : ∃ b0, w.heap.size = b0 := ⟨_, rfl⟩
    have HH := Lib.hid (kept_all H1.out (by repeat (first | exact none_stable | exact wrP_stable _ _ | exact blkP_stable _ _ _ | exact rowP_stable _ _ _ _ _ | apply Stable.star)))
    have KD := Lib.hid (keepN H1.out)
    have KS := Lib.hid (keep0 H1.out)
    have SX := Lib.hid (show ∀ X, Holds w.heap.size w X (star (blkP w.heap.size 40 (mcs m A c)) none_) → (fun w' : World => w'.cell? ⟨b0, 0, none⟩ = some (.int .i64 m.k) ∧ w'.cell? ⟨b0, 1, none⟩ = some (.int .i64 m.f) ∧ w'.cell? ⟨b0, 2, none⟩ = some (.int .i64 m.t) ∧ w'.cell? ⟨b0, 3, none⟩ = some (.int .i64 m.b) ∧ w'.cell? ⟨b0, 4, none⟩ = some (.int .i64 m.s) ∧ w'.cell? ⟨b0, 5, none⟩ = some (.int .i64 m.r) ∧ w'.cell? ⟨b0, 6, none⟩ = some (.int .i64 m.z) ∧ w'.cell? ⟨b0, 7, none⟩ = some (.int .i64 m.e) ∧ w'.cell? ⟨b0, 8, none⟩ = some (.slice A m.es.length c)) X from fun X h => by
      have B := blk_atM h
      rw [hb0] at B
      exact ⟨B.cell 0, B.cell 1, B.cell 2, B.cell 3, B.cell 4, B.cell 5, B.cell 6, B.cell 7, B.cell 8⟩)
    rw [hb0]
    have T := KS.out
    have cc := SX.out _ (HH.out _ T)
    go_wp2_with fail
    go_region_held3 (fun w' : World => w'.cell? ⟨b0, 0, none⟩ = some (.int .i64 m.k) ∧ w'.cell? ⟨b0, 1, none⟩ = some (.int .i64 m.f) ∧ w'.cell? ⟨b0, 2, none⟩ = some (.int .i64 m.t) ∧ w'.cell? ⟨b0, 3, none⟩ = some (.int .i64 m.b) ∧ w'.cell? ⟨b0, 4, none⟩ = some (.int .i64 m.s) ∧ w'.cell? ⟨b0, 5, none⟩ = some (.int .i64 m.r) ∧ w'.cell? ⟨b0, 6, none⟩ = some (.int .i64 m.z) ∧ w'.cell? ⟨b0, 7, none⟩ = some (.int .i64 m.e) ∧ w'.cell? ⟨b0, 8, none⟩ = some (.slice A m.es.length c)) (first | exact cc | exact SX.out _ (HH.out _ (KD.out _)) | go_keep) ((first | (go_at_call 37; refine (rint_calls _ _ (by first | exact I9.out.1 | exact I9.out.2.1 | exact I9.out.2.2.1 | exact I9.out.2.2.2.1 | exact I9.out.2.2.2.2.1 | exact I9.out.2.2.2.2.2.1 | exact I9.out.2.2.2.2.2.2.1 | exact I9.out.2.2.2.2.2.2.2.1 | exact I9.out.2.2.2.2.2.2.2.2)).mono ?_; rintro e w5 ⟨rfl, hk5⟩; replace T := (by first | exact (KD.out _).then hk5 | exact T.then hk5 : Keep Nothing w1 w5); replace cc := SX.out _ (HH.out _ T); clear hk5)))
    have H5 := Lib.hid (HH.out _ T)
    rw [head_sum m]
    have cc8 := cc.2.2.2.2.2.2.2.2
    clear p1 p2 p3 p4 p5 p6 p7 p8 cc
    rw [show ofL (hdL (spansL m)) = ofL (hdL (spansL m) ++ entsL (m.es.take 0)) by rw [List.take_zero, show entsL [] = [] from rfl, List.append_nil]]
    go_wp2_with fail
    have C8 := Lib.hid cc8
    have TH := Lib.hid T
    have HDL := hdL_len HM.out.sp 9
    rw [show (spansL m).take 9 = spansL m from rfl] at HDL
    clear cc8 T
    go_loopw [4, 5] (fun v4 v wr => ∃ k : Nat, k ≤ m.es.length ∧ v = .int .i64 k ∧ v4 = .string (ofL (hdL (spansL m) ++ entsL (m.es.take k))) ∧ Hid (Keep Nothing w5 wr)) (fun _ v _ => m.es.length - (intOf v).toNat)
    case atStart => exact ⟨0, by omega, by simp, rfl, Lib.hid (Keep.same _ _)⟩
    case round =>
      obtain ⟨k, hk, rfl, rfl, hkp⟩ := hrel
      have cc8 := hkp.out.cell C8.out (fun h => h)
      have HEL := entsL_len HM.out.es k
      by_cases hlt : k < m.es.length
      · obtain ⟨ad, x, rfl, hx1, hat⟩ := ent_at HS.out hlt
        obtain ⟨c0, c1, c2, c3, c4, c5, c6⟩ := hat.keep (hb _ (HH.out _ (TH.out.then hkp.out)).below) (fun h => h)
        have X64 := Lib.hid (HM.out.es x (List.mem_of_getElem? hx1))
        have NX := Lib.hid (entsL_next hx1)
        have hbx : entB x = true := List.all_eq_true.1 MM.out.2.2.2.1 x (List.mem_of_getElem? hx1)
        have HE := Lib.hid (show ∀ w, Calls Try.prog 38 #[.agg (ecs x)] w (fun e w' => e = .returned (.tuple #[.string (entS x), .int .i64 0]) ∧ Keep Nothing w w') from fun w => by
          have h := reenc_calls w x X64.out
          rw [hbx, show okE true = 0 from rfl] at h
          exact h)
        have hsz := entS_size X64.out
        have hsz2 : (textS (entS x)).size ≤ 250 := by
          have := u64S_size (entS x).size (by omega)
          unfold textS; rw [ByteArray.size_append]; omega
        have HT := Lib.hid (fun w => rtext_calls w (entS x) (by omega))
        have pc := fun w => cat w (ofL (hdL (spansL m) ++ entsL (m.es.take k))) (textS (entS x)) (by rw [ofL_size, List.length_append]; omega)
        have EL := Lib.hid (show ofL (hdL (spansL m) ++ entsL (m.es.take k)) ++ textS (entS x) = ofL (hdL (spansL m) ++ entsL (m.es.take (k + 1))) by
          rw [textS_ofL, ← ofL_app, NX.out, List.append_assoc]; rfl)
        clear hx1 hat hbx
        go_wp2_with fail
        refine (HE.out _).mono ?_
        rintro e w6 ⟨rfl, hk6⟩
        have K6 := Lib.hid (hkp.out.then hk6)
        clear hk6
        go_wp2_with fail
        refine (HT.out _).mono ?_
        rintro e w7 ⟨rfl, hk7⟩
        have K7 := Lib.hid (K6.out.then hk7)
        clear hk7
        go_wp2_with fail
        go_roundw
        case rel =>
          refine ⟨_, _, _, _, _, _, _, _, _, _, _, _, _, _, _, _, _, _, _, _, _, _, _, _, ?_, rfl⟩
          exact ⟨k + 1, by omega, by go_num, by rw [EL.out], K7⟩
        case measure => simp [intOf]; omega
      · have hke : k = m.es.length := by omega
        have KW := Lib.hid (TH.out.then hkp.out)
        have B9 := blk_atM (HH.out _ KW.out)
        rw [hb0] at B9
        have y9 := B9.cell 9
        have y10 := B9.cell 10
        have y11 := B9.cell 11
        have y12 := B9.cell 12
        have y13 := B9.cell 13
        have HE := Lib.hid (show ∀ w, Calls Try.prog 40 #[.agg #[.int .i64 m.c.k, .int .i64 m.c.s, .int .i64 m.c.q, .string m.c.nm, .int .i64 m.c.n]] w (fun e w' => e = .returned (.tuple #[.string (encS m.c), .int .i64 0]) ∧ Keep Nothing w w') from fun w => by
          have h := renc_calls w m.c HM.out.c
          rw [MM.out.2.2.2.2, show okE true = 0 from rfl] at h
          exact h)
        have hcs := encS_size HM.out.c
        have hts : (textS (encS m.c)).size ≤ 210 := by
          have := u64S_size (encS m.c).size (by omega)
          unfold textS; rw [ByteArray.size_append]; omega
        have HT := Lib.hid (fun w => rtext_calls w (encS m.c) (by omega))
        rw [hke, List.take_length] at HEL
        have pc := fun w => cat w (ofL (hdL (spansL m) ++ entsL m.es)) (textS (encS m.c)) (by rw [ofL_size, List.length_append]; omega)
        subst hke
        rw [List.take_length]
        clear B9
        go_wp2_with fail
        refine (HE.out _).mono ?_
        rintro e w6 ⟨rfl, hk6⟩
        have K6 := Lib.hid (KW.out.then hk6)
        clear hk6 y9 y10 y11 y12 y13 cc8
        go_wp2_with fail
        refine (HT.out _).mono ?_
        rintro e w8 ⟨rfl, hk8⟩
        have K8 := Lib.hid (K6.out.then hk8)
        clear hk8
        have B8 := blk_atM (HH.out _ K8.out)
        rw [hb0] at B8
        have y14 := B8.cell 14
        have y15 := B8.cell 15
        have y16 := B8.cell 16
        have y17 := B8.cell 17
        have y18 := B8.cell 18
        have HZ := Lib.hid (Holds.newBlk (HH.out _ K8.out) (by repeat (first | exact none_stable | exact wrP_stable _ _ | exact blkP_stable _ _ _ | exact rowP_stable _ _ _ _ _ | apply Stable.star)) 38 (rcs m.p))
        have HHZ := Lib.hid (kept_all HZ.out (by repeat (first | exact none_stable | exact wrP_stable _ _ | exact blkP_stable _ _ _ | exact rowP_stable _ _ _ _ _ | apply Stable.star)))
        have KDZ := Lib.hid (keepN HZ.out)
        have SZ := Lib.hid (show ∀ X, Holds w.heap.size w X (star (blkP w8.heap.size 38 (rcs m.p)) (star (blkP w.heap.size 40 (mcs m A c)) none_)) → (fun w' : World => w'.cell? ⟨w8.heap.size, 0, none⟩ = some (.int .i64 m.p.s) ∧ w'.cell? ⟨w8.heap.size, 1, none⟩ = some (.int .i64 m.p.q) ∧ w'.cell? ⟨w8.heap.size, 2, none⟩ = some (.int .i64 m.p.e) ∧ w'.cell? ⟨w8.heap.size, 3, none⟩ = some (.int .u64 m.p.k) ∧ w'.cell? ⟨w8.heap.size, 4, none⟩ = some (.int .i64 m.p.n) ∧ w'.cell? ⟨b0, 19, none⟩ = some (.string m.x)) X from fun X h => by
          have B := blk_atM h
          have B' := blk_atM (h.perm (show _ = star (blkP w.heap.size 40 (mcs m A c)) (star (blkP w8.heap.size 38 (rcs m.p)) none_) by ac_rfl))
          rw [hb0] at B'
          exact ⟨B.cell 0, B.cell 1, B.cell 2, B.cell 3, B.cell 4, B'.cell 19⟩)
        have R64 := Lib.hid (show I64 m.p.s ∧ I64 m.p.q ∧ I64 m.p.e ∧ I64 m.p.n from ⟨HM.out.rp ⟨m.p.s, 0, 1073741824⟩ (by simp [repliesL]), HM.out.rp ⟨m.p.q, 0, 1073741824⟩ (by simp [repliesL]), HM.out.rp ⟨m.p.e, 0, 255⟩ (by simp [repliesL]), HM.out.rp ⟨m.p.n, 0, 1073741824⟩ (by simp [repliesL])⟩)
        have hz : ∀ n, I64 n → (intS n).size ≤ 10 := fun n h => u64L_len10 _ (zig_lt h.1 h.2)
        have z1 := hz _ R64.out.1
        have z2 := hz _ R64.out.2.1
        have z3 := hz _ R64.out.2.2.1
        have z4 : (u64S m.p.k).size ≤ 10 := u64S_size _ HM.out.k
        have z5 := hz _ R64.out.2.2.2
        have z6 : (textS m.x).size ≤ 524298 := by
          have := u64S_size m.x.size (by omega)
          unfold textS; rw [ByteArray.size_append]; omega
        have p1 := fun w => cat w (intS m.p.s) (intS m.p.q) (by (try simp only [ByteArray.size_append]); omega)
        have p2 := fun w => cat w (intS m.p.s ++ intS m.p.q) (intS m.p.e) (by (try simp only [ByteArray.size_append]); omega)
        have p3 := fun w => cat w (intS m.p.s ++ intS m.p.q ++ intS m.p.e) (u64S m.p.k) (by (try simp only [ByteArray.size_append]); omega)
        have p4 := fun w => cat w (intS m.p.s ++ intS m.p.q ++ intS m.p.e ++ u64S m.p.k) (intS m.p.n) (by (try simp only [ByteArray.size_append]); omega)
        have p5 := fun w => cat w (intS m.p.s ++ intS m.p.q ++ intS m.p.e ++ u64S m.p.k ++ intS m.p.n) (textS m.x) (by (try simp only [ByteArray.size_append]); omega)
        have p6 := fun w => cat w (ofL (hdL (spansL m) ++ entsL m.es) ++ textS (encS m.c)) (intS m.p.s ++ intS m.p.q ++ intS m.p.e ++ u64S m.p.k ++ intS m.p.n ++ textS m.x) (by simp only [ByteArray.size_append, ofL_size, List.length_append]; omega)
        have FULL := Lib.hid (show ofL (hdL (spansL m) ++ entsL m.es) ++ textS (encS m.c) ++ (intS m.p.s ++ intS m.p.q ++ intS m.p.e ++ u64S m.p.k ++ intS m.p.n ++ textS m.x) = ofL (msgL m) by
          rw [ByteArray.append_assoc, tail_sum, ← ofL_app, List.append_assoc]; rfl)
        have HK := Lib.hid (fun w => ru64_calls w m.p.k HM.out.k)
        have HX := Lib.hid (fun w => rtext_calls w m.x (by omega))
        have T := keep0 HZ.out
        have cc := SZ.out _ (HHZ.out _ T)
        clear B8 hz z1 z2 z3 z4 z5 z6 hts hcs HEL HDL
        go_wp2_with fail
        go_region_held3 (fun w' : World => w'.cell? ⟨w8.heap.size, 0, none⟩ = some (.int .i64 m.p.s) ∧ w'.cell? ⟨w8.heap.size, 1, none⟩ = some (.int .i64 m.p.q) ∧ w'.cell? ⟨w8.heap.size, 2, none⟩ = some (.int .i64 m.p.e) ∧ w'.cell? ⟨w8.heap.size, 3, none⟩ = some (.int .u64 m.p.k) ∧ w'.cell? ⟨w8.heap.size, 4, none⟩ = some (.int .i64 m.p.n) ∧ w'.cell? ⟨b0, 19, none⟩ = some (.string m.x)) (first | exact cc | exact SZ.out _ (HHZ.out _ (KDZ.out _)) | go_keep) ((first | (go_at_call 37; refine (rint_calls _ _ (by first | exact R64.out.1 | exact R64.out.2.1 | exact R64.out.2.2.1 | exact R64.out.2.2.2)).mono ?_; rintro e w9 ⟨rfl, hk9⟩; replace T := (by first | exact (KDZ.out _).then hk9 | exact T.then hk9 : Keep Nothing (w8.alloc (.cells (rcs m.p) 38)) w9); replace cc := SZ.out _ (HHZ.out _ T); clear hk9) | (go_at_call 41; refine (HK.out _).mono ?_; rintro e w9 ⟨rfl, hk9⟩; replace T := T.then hk9; replace cc := SZ.out _ (HHZ.out _ T); clear hk9) | (go_at_call 39; refine (HX.out _).mono ?_; rintro e w9 ⟨rfl, hk9⟩; replace T := T.then hk9; replace cc := SZ.out _ (HHZ.out _ T); clear hk9)))
        have HF := Lib.hid (HHZ.out _ T)
        rw [FULL.out]
        clear p1 p2 p3 p4 p5 p6 pc cc T y14 y15 y16 y17 y18
        by_cases hzz : (msgL m).length ≤ 524288
        · have E := Lib.hid (show msgOk m = true by rw [EK.out]; exact decide_eq_true hzz)
          have hz2 : (ofL (msgL m)).size ≤ 524288 := hzz
          have hz3 : decide (524288 < ((ofL (msgL m)).size : Int)) = false := decide_eq_false (by omega)
          clear hzz
          go_wp2_with fail
          go_ret2
          exact ⟨by unfold msgS; rw [E.out]; rfl, hb _ HF.out.below⟩
        · have E := Lib.hid (show msgOk m = false by rw [EK.out]; exact decide_eq_false hzz)
          have hz2 : ¬ (ofL (msgL m)).size ≤ 524288 := hzz
          have hz3 : decide (524288 < ((ofL (msgL m)).size : Int)) = true := decide_eq_true (by omega)
          clear hzz
          go_wp2_with fail
          go_ret2
          exact ⟨by unfold msgS; rw [E.out]; rfl, hb _ HF.out.below⟩
end Go.Proofs.Ythlfcinjmljbjaa.A
