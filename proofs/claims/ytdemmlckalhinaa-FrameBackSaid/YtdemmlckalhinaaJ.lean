/-
  A bit turned: the plain law.
-/
import Derived.Test.YtdemmlckalhinaaI
namespace Go.Proofs.Ytdemmlckalhinaa.A
open Go.RowKit Go.Proofs.Ytdemmlckalhinaa.U
set_option linter.unusedVariables false
set_option linter.unusedSimpArgs false

theorem top_set {a : Nat} (h : a < 2147483648) : 2147483648 ≤ a ^^^ 3988292384 := by
  refine Nat.le_of_not_lt fun hlt => ?_
  have h1 : (a ^^^ 3988292384).testBit 31 = false := Nat.testBit_lt_two_pow (by simpa using hlt)
  rw [Nat.testBit_xor, Nat.testBit_lt_two_pow (show a < 2 ^ 31 by simpa using h)] at h1
  revert h1
  decide
theorem xor_cancel {a b c : Nat} (h : a ^^^ c = b ^^^ c) : a = b := by
  have := congrArg (· ^^^ c) h
  simpa [Nat.xor_assoc] using this
theorem stepN_inj {r r' : Nat} (h : r < 4294967296) (h' : r' < 4294967296) (e : stepN r = stepN r') : r = r' := by
  unfold stepN at e
  have t := top_set (a := r / 2) (by omega)
  have t' := top_set (a := r' / 2) (by omega)
  split at e <;> split at e
  · have := xor_cancel e; omega
  · omega
  · omega
  · omega
theorem roundsN_inj {r r' : Nat} (h : r < 4294967296) (h' : r' < 4294967296) : ∀ k, roundsN k r = roundsN k r' → r = r'
  | 0, e => e
  | k + 1, e => roundsN_inj h h' k (stepN_inj (roundsN_lt h k) (roundsN_lt h' k) e)
theorem fold_inj : ∀ (l : List UInt8) {r r' : Nat}, r < 4294967296 → r' < 4294967296 → l.foldl (fun r c => byteN r c.toNat) r = l.foldl (fun r c => byteN r c.toNat) r' → r = r'
  | [], _, _, _, _, e => e
  | c :: l, r, r', h, h', e => by
    have hc := UInt8.toNat_lt c
    have e1 := fold_inj l (byteN_lt h hc) (byteN_lt h' hc) e
    have e2 := roundsN_inj (xor_lt h (by omega)) (xor_lt h' (by omega)) 8 e1
    exact xor_cancel e2
theorem crc_turned (a b : List UInt8) (c c' : UInt8) (hc : c ≠ c') : crcN (a ++ c :: b) ≠ crcN (a ++ c' :: b) := by
  intro e
  unfold crcN at e
  rw [List.foldl_append, List.foldl_append, List.foldl_cons, List.foldl_cons] at e
  have hr := crc_lt a 4294967295 (by omega)
  have h1 := UInt8.toNat_lt c
  have h2 := UInt8.toNat_lt c'
  have e1 := fold_inj b (byteN_lt hr h1) (byteN_lt hr h2) e
  have e2 := roundsN_inj (xor_lt hr (by omega)) (xor_lt hr (by omega)) 8 e1
  rw [Nat.xor_comm _ c.toNat, Nat.xor_comm _ c'.toNat] at e2
  exact hc (UInt8.toNat_inj.1 (xor_cancel e2))
theorem sum_turned (a b : List UInt8) (c c' : UInt8) (hc : c ≠ c') (s s' : ByteArray) (hs : s.data.toList = a ++ c :: b) (hs' : s'.data.toList = a ++ c' :: b) : sumS s ≠ sumS s' := by
  unfold sumS
  rw [hs, hs']
  have := crc_turned a b c c' hc
  have h1 := crcN_lt (a ++ c :: b)
  have h2 := crcN_lt (a ++ c' :: b)
  omega
theorem numS_le4 (n : Nat) (hn : n < 4294967296) (s : ByteArray) (l : List UInt8) (hs : s.data.toList = leL n ++ l) : numS s = n := by
  unfold numS
  simp only [numK]
  have e : ∀ i, i < 4 → byteAt s i = b8 n i := fun i hi => by
    have hl : i < (leL n).length := by simpa [leL] using hi
    rw [← leL_at n i hn hl]
    unfold byteAt
    rw [hs, List.getD_eq_getElem?_getD, List.getElem?_append_left hl, List.getElem?_eq_getElem hl]
    rfl
  rw [e 0 (by omega), e 1 (by omega), e 2 (by omega), e 3 (by omega)]
  unfold b8
  omega
theorem wrapS_list (s : ByteArray) : (wrapS s).data.toList = leL s.size ++ leL (sumS (le4 s.size ++ s)) ++ s.data.toList := by
  unfold wrapS
  rw [ByteArray.data_append, ByteArray.data_append]
  simp [le4]
/-- A frame of whose text one byte is another is none. -/
theorem turned_none (s f : ByteArray) (a b : List UInt8) (c c' : UInt8) (hc : c ≠ c') (h1 : s.size ≤ 524288) (hs : s.data.toList = a ++ c :: b)
    (hf : f.data.toList = leL s.size ++ leL (sumS (le4 s.size ++ s)) ++ (a ++ c' :: b)) : firstE f = 3 := by
  have hsz : s.size = (a ++ c :: b).length := by rw [← hs]; simp
  have hfz : f.size = s.size + 8 := by
    have : f.size = f.data.toList.length := by simp
    rw [this, hf, hsz]
    simp [leL]
  have hnum : numS f = s.size := numS_le4 s.size (by omega) f _ (by rw [hf, List.append_assoc])
  have x04 : (f.extract 0 4).data.toList = leL s.size := by
    rw [ByteArray.data_extract, Array.toList_extract, hf]
    simp [leL]
  have x48 : (f.extract 4 8).data.toList = leL (sumS (le4 s.size ++ s)) ++ [] := by
    rw [ByteArray.data_extract, Array.toList_extract, hf]
    simp [leL]
  have x8 : (f.extract 8 (8 + s.size)).data.toList = a ++ c' :: b := by
    rw [ByteArray.data_extract, Array.toList_extract, hf]
    have hl : (a ++ c' :: b).length = s.size := by rw [hsz]; simp
    show List.take (8 + s.size - 8) (List.drop 8 (leL s.size ++ leL (sumS (le4 s.size ++ s)) ++ (a ++ c' :: b))) = _
    rw [show (8 + s.size - 8 : Nat) = (a ++ c' :: b).length by omega]
    rw [List.drop_left' (by simp [leL])]
    exact List.take_length
  unfold firstE
  rw [if_neg (by omega), hnum, if_neg (by omega), if_neg (by omega), numS_le4 _ (sumS_lt _) _ [] x48, if_neg]
  refine (sum_turned (leL s.size ++ a) b c' c (fun h => hc h.symm) _ _ ?_ ?_)
  · rw [ByteArray.data_append, Array.toList_append, x04, x8]; simp
  · rw [ByteArray.data_append, Array.toList_append, hs]; simp [le4]
end Go.Proofs.Ytdemmlckalhinaa.A
