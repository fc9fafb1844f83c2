/-
  Frames one behind the other, cut anywhere: the plain law.
-/
import Derived.Test.YtdemmlckalhinaaJ
namespace Go.Proofs.Ytdemmlckalhinaa.A
open Go.RowKit Go.Proofs.Ytdemmlckalhinaa.U
set_option linter.unusedVariables false
set_option linter.unusedSimpArgs false

def joinL : List ByteArray → ByteArray
  | [] => ByteArray.empty
  | s :: L => wrapS s ++ joinL L
def endOf : List ByteArray → Nat → Nat
  | _, 0 => 0
  | [], _ + 1 => 0
  | s :: L, k + 1 => s.size + 8 + endOf L k
theorem wrapS_size (s : ByteArray) : (wrapS s).size = s.size + 8 := by
  unfold wrapS
  rw [ByteArray.size_append, ByteArray.size_append, le4_size, le4_size]; omega
theorem empty_app (a : ByteArray) : ByteArray.empty ++ a = a := by
  apply ByteArray.ext
  rw [ByteArray.data_append]
  simp
theorem app_empty (a : ByteArray) : a ++ ByteArray.empty = a := by
  apply ByteArray.ext
  rw [ByteArray.data_append]
  simp
theorem app_assoc (a b c : ByteArray) : a ++ b ++ c = a ++ (b ++ c) := by
  apply ByteArray.ext
  rw [ByteArray.data_append, ByteArray.data_append, ByteArray.data_append, ByteArray.data_append, Array.append_assoc]
theorem joinL_app : ∀ (L M : List ByteArray), joinL (L ++ M) = joinL L ++ joinL M
  | [], M => (empty_app _).symm
  | s :: L, M => by
    show wrapS s ++ joinL (L ++ M) = wrapS s ++ joinL L ++ joinL M
    rw [joinL_app L M, app_assoc]
theorem join_next (L : List ByteArray) (k : Nat) (hk : k < L.length) : joinL (L.take (k + 1)) = joinL (L.take k) ++ wrapS (L.getD k ByteArray.empty) := by
  rw [List.take_succ_eq_append_getElem hk, joinL_app, List.getD_eq_getElem?_getD, List.getElem?_eq_getElem hk]
  show _ ++ (wrapS _ ++ ByteArray.empty) = _
  rw [app_empty]
  rfl
theorem join_size : ∀ (L : List ByteArray) (k : Nat), (joinL (L.take k)).size = endOf L k
  | L, 0 => by simp [endOf, joinL]
  | [], k + 1 => by simp [endOf, joinL]
  | s :: L, k + 1 => by
    show (wrapS s ++ joinL (L.take k)).size = _
    rw [ByteArray.size_append, wrapS_size, join_size L k]
    rfl
theorem end_next (L : List ByteArray) (k : Nat) (hk : k < L.length) : endOf L (k + 1) = endOf L k + ((L.getD k ByteArray.empty).size + 8) := by
  rw [← join_size, ← join_size, join_next L k hk, ByteArray.size_append, wrapS_size]
theorem end_le (L : List ByteArray) (hb : ∀ s ∈ L, s.size ≤ 524288) (k : Nat) : endOf L k ≤ k * 524296 := by
  induction L generalizing k with
  | nil => cases k <;> simp [endOf]
  | cons s L ih =>
    cases k with
    | zero => simp [endOf]
    | succ k =>
      have h1 := hb s (List.mem_cons_self ..)
      have h2 := ih (fun t ht => hb t (List.mem_cons_of_mem _ ht)) k
      simp only [endOf]
      omega
theorem size_list (s : ByteArray) : s.data.toList.length = s.size := by simp
/-- What is read of a text that begins with a frame. -/
theorem first_of (s x : ByteArray) (l : List UInt8) (hs : s.size ≤ 524288) (hx : x.data.toList = (wrapS s).data.toList ++ l) :
    firstE x = 0 ∧ firstT x = s ∧ firstN x = s.size + 8 := by
  have hl := size_list s
  have hxs : x.size = s.size + 8 + l.length := by
    rw [← size_list x, hx, List.length_append, size_list, wrapS_size]
  rw [wrapS_list] at hx
  have hnum : numS x = s.size := numS_le4 s.size (by omega) x (leL (sumS (le4 s.size ++ s)) ++ s.data.toList ++ l) (by rw [hx]; simp)
  have x04 : x.extract 0 4 = le4 s.size := by
    apply ByteArray.ext
    apply Array.ext'
    rw [ByteArray.data_extract, Array.toList_extract, hx]
    simp [leL, le4]
  have x48 : (x.extract 4 8).data.toList = leL (sumS (le4 s.size ++ s)) ++ [] := by
    rw [ByteArray.data_extract, Array.toList_extract, hx]
    simp [leL]
  have x8 : x.extract 8 (8 + s.size) = s := by
    apply ByteArray.ext
    apply Array.ext'
    rw [ByteArray.data_extract, Array.toList_extract, hx]
    show List.take (8 + s.size - 8) (List.drop 8 (leL s.size ++ leL (sumS (le4 s.size ++ s)) ++ s.data.toList ++ l)) = _
    rw [List.append_assoc, List.drop_left' (by simp [leL]), show (8 + s.size - 8 : Nat) = s.data.toList.length by omega, List.take_left]
  have hE : firstE x = 0 := by
    unfold firstE
    rw [if_neg (by omega), hnum, if_neg (by omega), if_neg (by omega), numS_le4 _ (sumS_lt _) _ [] x48, x04, x8, if_pos rfl]
  refine ⟨hE, ?_, ?_⟩
  · unfold firstT; rw [if_pos hE, hnum, x8]
  · unfold firstN; rw [if_pos hE, hnum]; omega
/-- Nothing is read of a frame that is cut. -/
theorem first_cut (s x : ByteArray) (l : List UInt8) (hs : s.size ≤ 524288) (hx : x.data.toList ++ l = (wrapS s).data.toList) (hl : 0 < l.length) : firstE x ≠ 0 := by
  have hsz : x.size + l.length = s.size + 8 := by
    have := congrArg List.length hx
    rw [List.length_append, size_list, size_list, wrapS_size] at this
    exact this
  by_cases h8 : x.size < 8
  · unfold firstE
    rw [if_pos h8]; decide
  · rw [wrapS_list] at hx
    have hxt : x.data.toList = (leL s.size ++ leL (sumS (le4 s.size ++ s)) ++ s.data.toList).take x.size := by
      rw [← hx, ← size_list x, List.take_left]
    have hnum : numS x = s.size := numS_le4 s.size (by omega) x ((leL (sumS (le4 s.size ++ s)) ++ s.data.toList).take (x.size - 4)) (by
      rw [hxt, List.append_assoc, List.take_append, List.take_of_length_le (by simp [leL]; omega)]
      rfl)
    unfold firstE
    rw [if_neg h8, hnum, if_neg (by omega), if_pos (by omega)]; decide
theorem allP_cut : ∀ (L : List ByteArray) (k cut : Nat), (∀ s ∈ L, s.size ≤ 524288) → k ≤ L.length → endOf L k ≤ cut → (k = L.length ∨ cut < endOf L (k + 1)) → cut ≤ (joinL L).size →
    allP ((joinL L).extract 0 cut) = (L.take k, endOf L k)
  | [], k, cut, hb, hk, h1, h2, h3 => by
    have h0 : k = 0 := by simpa using hk
    subst h0
    rw [allP_end]
    · simp [endOf]
    · unfold firstE
      rw [if_pos (by rw [ByteArray.size_extract]; simp [joinL] at h3 ⊢)]; decide
  | s :: L, 0, cut, hb, hk, h1, h2, h3 => by
    have hc : cut < s.size + 8 := by
      rcases h2 with h | h
      · simp at h
      · simpa [endOf] using h
    rw [allP_end]
    · simp [endOf]
    · refine first_cut s _ ((wrapS s).data.toList.drop cut) (hb s (List.mem_cons_self ..)) ?_ (by rw [List.length_drop, size_list, wrapS_size]; omega)
      rw [ByteArray.data_extract, Array.toList_extract, joinL, ByteArray.data_append, Array.toList_append]
      show List.take (cut - 0) (List.drop 0 _) ++ _ = _
      rw [List.drop_zero, Nat.sub_zero, List.take_append_of_le_length (by rw [size_list, wrapS_size]; omega), List.take_append_drop]
  | s :: L, k + 1, cut, hb, hk, h1, h2, h3 => by
    simp only [endOf] at h1 h2 ⊢
    have hs := hb s (List.mem_cons_self ..)
    have hcut : s.size + 8 ≤ cut := by omega
    have hjs : (joinL (s :: L)).size = s.size + 8 + (joinL L).size := by
      rw [joinL, ByteArray.size_append, wrapS_size]
    have hx : ((joinL (s :: L)).extract 0 cut).data.toList = (wrapS s).data.toList ++ (joinL L).data.toList.take (cut - (s.size + 8)) := by
      rw [ByteArray.data_extract, Array.toList_extract, joinL, ByteArray.data_append, Array.toList_append]
      show List.take (cut - 0) (List.drop 0 _) = _
      rw [List.drop_zero, Nat.sub_zero, List.take_append, List.take_of_length_le (by rw [size_list, wrapS_size]; omega), size_list, wrapS_size]
    obtain ⟨f1, f2, f3⟩ := first_of s _ _ hs hx
    have hrest : ((joinL (s :: L)).extract 0 cut).extract (s.size + 8) ((joinL (s :: L)).extract 0 cut).size = (joinL L).extract 0 (cut - (s.size + 8)) := by
      apply ByteArray.ext
      apply Array.ext'
      rw [ByteArray.data_extract, Array.toList_extract, hx, ByteArray.data_extract, Array.toList_extract]
      show List.take _ (List.drop _ _) = List.take _ (List.drop 0 _)
      rw [List.drop_left' (by rw [size_list, wrapS_size]), List.drop_zero, Nat.sub_zero, List.take_of_length_le]
      rw [List.length_take, size_list, ByteArray.size_extract]
      omega
    rw [allP_go f1, f2, f3, hrest, allP_cut L k (cut - (s.size + 8)) (fun t ht => hb t (List.mem_cons_of_mem _ ht)) (by simpa using hk) (by omega) (by simp only [List.length_cons] at h2; omega) (by omega)]
    simp
end Go.Proofs.Ytdemmlckalhinaa.A
