/-
  Numbers and texts as bytes: the plain law.
-/
import Derived.Test.YtjojibgihoebaaaH
namespace Go.Proofs.Ytjojibgihoebaaa.A
open Go.RowKit Go.Proofs.Ytjojibgihoebaaa.U
set_option linter.unusedVariables false
set_option linter.unusedSimpArgs false

/-- A number from 0 on as bytes. -/
def u64L (n : Nat) : List UInt8 := if h : n < 128 then [UInt8.ofNat n] else UInt8.ofNat (128 + n % 128) :: u64L (n / 128)
termination_by n
decreasing_by omega
theorem u64L_small {n : Nat} (h : n < 128) : u64L n = [UInt8.ofNat n] := by
  unfold u64L; rw [dif_pos h]
theorem u64L_big {n : Nat} (h : ¬ n < 128) : u64L n = UInt8.ofNat (128 + n % 128) :: u64L (n / 128) := by
  conv => lhs; unfold u64L
  rw [dif_neg h]
theorem u64L_pos (n : Nat) : 0 < (u64L n).length := by
  by_cases h : n < 128
  · rw [u64L_small h]; simp
  · rw [u64L_big h]; simp
theorem u64L_len : ∀ (k n : Nat), n < 128 ^ k → 0 < k → (u64L n).length ≤ k
  | 0, n, h, h0 => absurd h0 (by omega)
  | 1, n, h, _ => by rw [u64L_small (by simpa using h)]; simp
  | k + 2, n, h, _ => by
    by_cases h1 : n < 128
    · rw [u64L_small h1]; simp
    · rw [u64L_big h1, List.length_cons]
      have := u64L_len (k + 1) (n / 128) (by rw [Nat.div_lt_iff_lt_mul (by omega)]; rwa [Nat.pow_succ] at h) (by omega)
      omega
theorem u64L_len10 (n : Nat) (h : n < 18446744073709551616) : (u64L n).length ≤ 10 := u64L_len 10 n (by omega) (by omega)

def byteAt (s : ByteArray) (i : Nat) : Nat := (s.data.toList.getD i 0).toNat
theorem byteAt_lt (s : ByteArray) (i : Nat) : byteAt s i < 256 := UInt8.toNat_lt _
theorem size_list (s : ByteArray) : s.data.toList.length = s.size := by simp
theorem byteAt_eq (s : ByteArray) (i : Nat) (h : i < s.size) : byteAt s i = s[i].toNat := by
  unfold byteAt
  rw [List.getD_eq_getElem?_getD, List.getElem?_eq_getElem (by simpa using h)]
  rfl
/-- A number from 0 on, read from place i on, n being read: the number, the place behind it. -/
def rdU (s : ByteArray) (i n : Nat) : Option (Nat × Nat) :=
  if h : i < 10 ∧ i < s.size then
    if (i = 9 ∧ 1 < byteAt s i) ∨ (byteAt s i = 0 ∧ 0 < i) then none
    else if byteAt s i < 128 then some (n + byteAt s i * 2 ^ (7 * i), i + 1)
    else rdU s (i + 1) (n + byteAt s i % 128 * 2 ^ (7 * i))
  else none
termination_by 10 - i
theorem rdU_out {s : ByteArray} {i n : Nat} (h : ¬ (i < 10 ∧ i < s.size)) : rdU s i n = none := by
  unfold rdU; rw [dif_neg h]
theorem rdU_bad {s : ByteArray} {i n : Nat} (h : (i = 9 ∧ 1 < byteAt s i) ∨ (byteAt s i = 0 ∧ 0 < i)) : rdU s i n = none := by
  unfold rdU
  by_cases h0 : i < 10 ∧ i < s.size
  · rw [dif_pos h0, if_pos h]
  · rw [dif_neg h0]
theorem rdU_end {s : ByteArray} {i n : Nat} (h : i < 10 ∧ i < s.size) (h1 : ¬ ((i = 9 ∧ 1 < byteAt s i) ∨ (byteAt s i = 0 ∧ 0 < i))) (h2 : byteAt s i < 128) : rdU s i n = some (n + byteAt s i * 2 ^ (7 * i), i + 1) := by
  unfold rdU; rw [dif_pos h, if_neg h1, if_pos h2]
theorem rdU_go {s : ByteArray} {i n : Nat} (h : i < 10 ∧ i < s.size) (h1 : ¬ ((i = 9 ∧ 1 < byteAt s i) ∨ (byteAt s i = 0 ∧ 0 < i))) (h2 : ¬ byteAt s i < 128) : rdU s i n = rdU s (i + 1) (n + byteAt s i % 128 * 2 ^ (7 * i)) := by
  conv => lhs; unfold rdU
  rw [dif_pos h, if_neg h1, if_neg h2]
theorem p7 : ∀ i, i < 10 → (i = 0 ∧ 2 ^ (7 * i) = 1) ∨ (i = 1 ∧ 2 ^ (7 * i) = 128) ∨ (i = 2 ∧ 2 ^ (7 * i) = 16384) ∨ (i = 3 ∧ 2 ^ (7 * i) = 2097152) ∨ (i = 4 ∧ 2 ^ (7 * i) = 268435456) ∨ (i = 5 ∧ 2 ^ (7 * i) = 34359738368) ∨ (i = 6 ∧ 2 ^ (7 * i) = 4398046511104) ∨ (i = 7 ∧ 2 ^ (7 * i) = 562949953421312) ∨ (i = 8 ∧ 2 ^ (7 * i) = 72057594037927936) ∨ (i = 9 ∧ 2 ^ (7 * i) = 9223372036854775808) := by decide
/-- What was written is read. -/
theorem rdU_of (s : ByteArray) (l : List UInt8) : ∀ (m i n : Nat), m * 2 ^ (7 * i) < 18446744073709551616 → i < 10 → (0 < i → 0 < m) → s.data.toList.drop i = u64L m ++ l →
    rdU s i n = some (n + m * 2 ^ (7 * i), i + (u64L m).length) := by
  intro m
  induction m using Nat.strongRecOn with
  | _ m ih =>
    intro i n hm hi h0 hs
    have hlen : i < s.size := by
      have := congrArg List.length hs
      rw [List.length_drop, size_list, List.length_append] at this
      have := u64L_pos m
      omega
    have hb : byteAt s i = ((u64L m ++ l).getD 0 0).toNat := by
      unfold byteAt
      rw [← hs, List.getD_eq_getElem?_getD, List.getD_eq_getElem?_getD, List.getElem?_drop]
      rfl
    by_cases h : m < 128
    · rw [u64L_small h] at hb hs ⊢
      have hb' : byteAt s i = m := by rw [hb]; simp; omega
      rw [rdU_end ⟨hi, hlen⟩ (by rw [hb']; rcases p7 i hi with ⟨rfl, h⟩ | ⟨rfl, h⟩ | ⟨rfl, h⟩ | ⟨rfl, h⟩ | ⟨rfl, h⟩ | ⟨rfl, h⟩ | ⟨rfl, h⟩ | ⟨rfl, h⟩ | ⟨rfl, h⟩ | ⟨rfl, h⟩ <;> omega) (by omega), hb']
      rfl
    · rw [u64L_big h] at hb hs ⊢
      have hb' : byteAt s i = 128 + m % 128 := by rw [hb]; simp; omega
      have hpow : 2 ^ (7 * (i + 1)) = 128 * 2 ^ (7 * i) := by rw [show 7 * (i + 1) = 7 * i + 7 by omega, Nat.pow_add]; omega
      have hmm : m % 128 + m / 128 * 128 = m := by omega
      have hi9 : i < 9 := by
        rcases Nat.lt_or_ge i 9 with h9 | h9
        · exact h9
        · obtain rfl : i = 9 := by omega
          omega
      have hsum : m % 128 * 2 ^ (7 * i) + m / 128 * (128 * 2 ^ (7 * i)) = m * 2 ^ (7 * i) := by
        rw [← Nat.mul_assoc, ← Nat.add_mul, hmm]
      rw [rdU_go ⟨hi, hlen⟩ (by omega) (by omega), hb', show (128 + m % 128) % 128 = m % 128 by omega]
      rw [ih (m / 128) (by omega) (i + 1) _ (by rw [hpow]; omega) (by omega) (by omega) (by
        have := congrArg (List.drop 1) hs
        rw [List.drop_drop, List.cons_append, List.drop_succ_cons, List.drop_zero] at this
        exact this)]
      rw [hpow, Nat.add_assoc, hsum, List.length_cons]
      congr 2
      omega
theorem rdU_written (s : ByteArray) (l : List UInt8) (m : Nat) (hm : m < 18446744073709551616) (hs : s.data.toList = u64L m ++ l) : rdU s 0 0 = some (m, (u64L m).length) := by
  have := rdU_of s l m 0 0 (by simpa using hm) (by omega) (by omega) (by simpa using hs)
  simpa using this
theorem rdU_lt {s : ByteArray} {i n m k : Nat} (h : rdU s i n = some (m, k)) : i < k ∧ k ≤ s.size ∧ k ≤ 10 := by
  induction hf : 10 - i using Nat.strongRecOn generalizing i n with
  | _ f ih =>
    by_cases h0 : i < 10 ∧ i < s.size
    · by_cases h1 : (i = 9 ∧ 1 < byteAt s i) ∨ (byteAt s i = 0 ∧ 0 < i)
      · rw [rdU_bad h1] at h; cases h
      · by_cases h2 : byteAt s i < 128
        · rw [rdU_end h0 h1 h2] at h
          injection h with h
          injection h with h3 h4
          omega
        · rw [rdU_go h0 h1 h2] at h
          have := ih (10 - (i + 1)) (by omega) h rfl
          omega
    · rw [rdU_out h0] at h; cases h
/-- What is read is what would be written. -/
theorem rdU_back {s : ByteArray} {i n m k : Nat} (h : rdU s i n = some (m, k)) (hn : n < 2 ^ (7 * i)) : ∃ q, m = n + q * 2 ^ (7 * i) ∧ m < 18446744073709551616 ∧ (0 < i → 0 < q) ∧ u64L q = (s.data.toList.drop i).take (k - i) := by
  induction hf : 10 - i using Nat.strongRecOn generalizing i n with
  | _ f ih =>
    have hlt := rdU_lt h
    by_cases h0 : i < 10 ∧ i < s.size
    · have hd : s.data.toList.drop i = UInt8.ofNat (byteAt s i) :: s.data.toList.drop (i + 1) := by
        rw [List.drop_eq_getElem_cons (by rw [size_list]; omega)]
        congr 1
        unfold byteAt
        rw [List.getD_eq_getElem?_getD, List.getElem?_eq_getElem (by rw [size_list]; omega)]
        simp
      have hb8 := byteAt_lt s i
      by_cases h1 : (i = 9 ∧ 1 < byteAt s i) ∨ (byteAt s i = 0 ∧ 0 < i)
      · rw [rdU_bad h1] at h; cases h
      · by_cases h2 : byteAt s i < 128
        · rw [rdU_end h0 h1 h2] at h
          injection h with h
          injection h with h3 h4
          subst h3 h4
          refine ⟨byteAt s i, rfl, ?_, by omega, ?_⟩
          · rcases p7 i h0.1 with ⟨rfl, h⟩ | ⟨rfl, h⟩ | ⟨rfl, h⟩ | ⟨rfl, h⟩ | ⟨rfl, h⟩ | ⟨rfl, h⟩ | ⟨rfl, h⟩ | ⟨rfl, h⟩ | ⟨rfl, h⟩ | ⟨rfl, h⟩ <;> (rw [h] at hn ⊢; omega)
          · rw [u64L_small h2, hd, show i + 1 - i = 1 by omega]; rfl
        · rw [rdU_go h0 h1 h2] at h
          have hpow : 2 ^ (7 * (i + 1)) = 128 * 2 ^ (7 * i) := by rw [show 7 * (i + 1) = 7 * i + 7 by omega, Nat.pow_add]; omega
          have hle : byteAt s i % 128 * 2 ^ (7 * i) ≤ 127 * 2 ^ (7 * i) := Nat.mul_le_mul_right _ (by omega)
          obtain ⟨q, e1, e2, e3, e4⟩ := ih (10 - (i + 1)) (by omega) h (by rw [hpow]; omega) rfl
          have hk := rdU_lt h
          refine ⟨byteAt s i % 128 + q * 128, ?_, e2, by have := e3 (by omega); omega, ?_⟩
          · rw [e1, hpow, Nat.add_mul, Nat.mul_assoc]; omega
          · have := e3 (by omega)
            rw [u64L_big (by omega), show (byteAt s i % 128 + q * 128) / 128 = q by omega, e4, hd, show k - i = (k - (i + 1)) + 1 by omega, List.take_succ_cons]
            congr 2
            omega
    · rw [rdU_out h0] at h; cases h
theorem rdU_wrote {s : ByteArray} {m k : Nat} (h : rdU s 0 0 = some (m, k)) : m < 18446744073709551616 ∧ u64L m = s.data.toList.take k := by
  obtain ⟨q, e1, e2, _, e4⟩ := rdU_back h (by omega)
  have : m = q := by simpa using e1
  subst this
  exact ⟨e2, by simpa using e4⟩
/-- A signed number as one from 0 on. -/
def zig (n : Int) : Nat := if 0 ≤ n then (2 * n).toNat else (-2 * n - 1).toNat
def unzig (u : Nat) : Int := if u % 2 = 0 then (u / 2 : Nat) else -((u / 2 : Nat) : Int) - 1
theorem unzig_zig (n : Int) : unzig (zig n) = n := by unfold unzig zig; split <;> split <;> omega
theorem zig_unzig (u : Nat) : zig (unzig u) = u := by unfold unzig zig; split <;> split <;> omega
theorem zig_lt {n : Int} (h : -9223372036854775808 ≤ n) (h' : n ≤ 9223372036854775807) : zig n < 18446744073709551616 := by unfold zig; split <;> omega
/-- A writing is no beginning of another one. -/
theorem u64L_begins {m k : Nat} (hm : m < 18446744073709551616) (hk : k < 18446744073709551616) (l : List UInt8) (h : u64L k = u64L m ++ l) : m = k := by
  have h1 := rdU_written ⟨(u64L k).toArray⟩ [] k hk (by simp)
  have h2 := rdU_written ⟨(u64L k).toArray⟩ l m hm (by simpa using h)
  rw [h1] at h2
  injection h2 with h2
  injection h2 with h2 _
  exact h2.symm
end Go.Proofs.Ytjojibgihoebaaa.A
