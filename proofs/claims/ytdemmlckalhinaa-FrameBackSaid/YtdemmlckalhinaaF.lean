/-
  All.
-/
import Derived.Test.YtdemmlckalhinaaE
import Derived.Test.YtdemmlckalhinaaS
namespace Go.Proofs.Ytdemmlckalhinaa.A
open Go.RowKit Go.Proofs.Ytdemmlckalhinaa.U
set_option linter.unusedVariables false
set_option linter.unusedSimpArgs false

theorem firstN_some {s : ByteArray} (h : firstE s = 0) : 8 ≤ firstN s ∧ firstN s ≤ s.size := by
  have h' := h
  unfold firstE at h
  unfold firstN
  rw [if_pos h']
  split at h
  · cases h
  · split at h
    · cases h
    · split at h
      · cases h
      · omega
def allP (s : ByteArray) : List ByteArray × Nat :=
  if h : firstE s = 0 then (firstT s :: (allP (s.extract (firstN s) s.size)).1, firstN s + (allP (s.extract (firstN s) s.size)).2) else ([], 0)
termination_by s.size
decreasing_by all_goals (have := firstN_some h; rw [ByteArray.size_extract]; omega)
theorem allP_go {s : ByteArray} (h : firstE s = 0) : allP s = (firstT s :: (allP (s.extract (firstN s) s.size)).1, firstN s + (allP (s.extract (firstN s) s.size)).2) := by
  conv => lhs; unfold allP
  rw [dif_pos h]
theorem allP_end {s : ByteArray} (h : firstE s ≠ 0) : allP s = ([], 0) := by
  unfold allP
  rw [dif_neg h]
theorem extract_from (s : ByteArray) (k n : Nat) (hk : k ≤ s.size) : (s.extract k s.size).extract n (s.extract k s.size).size = s.extract (k + n) s.size := by
  apply ByteArray.ext
  rw [ByteArray.data_extract, ByteArray.data_extract, ByteArray.data_extract, Array.extract_extract, ByteArray.size_extract]
  congr 1
  omega
abbrev strs (L : List ByteArray) : List Value := L.map Value.string
theorem strs_one (L : List ByteArray) : ∀ u ∈ strs L, u.oneCell' = true := by
  intro u hu
  obtain ⟨x, _, rfl⟩ := List.mem_map.1 hu
  rfl
theorem E34 : Elem Try.prog 34 9 1 16 (.string ByteArray.empty) := ⟨Try.underlying34, by kernel_rfl, by rfl, by decide⟩

set_option maxRecDepth 100000 in
set_option maxHeartbeats 1600000 in
theorem all_calls (w : World) (s : ByteArray) (hs : s.size ≤ 90000000) : Calls Try.prog 14 #[.string s] w (fun e w' => ∃ A c, e = .returned (.tuple #[.slice A (allP s).1.length c, .int .i64 (((allP s).2 : Nat) : Int)]) ∧
    Row w' 9 1 (.slice A (allP s).1.length c) (allP s).1.length (strs (allP s).1) ∧ Keep Nothing w w') := by
  go_enter Try.func14, Try.ntmps14
  go_wp2_with fail
  go_loopw [4, 5] (fun v i wr => ∃ (k : Nat) (L : List ByteArray) (A : Option Addr) (c : Nat), k ≤ s.size ∧ L.length * 8 ≤ k ∧ i = .int .i64 k ∧ v = .slice A L.length c ∧ Row wr 9 1 (.slice A L.length c) L.length (strs L) ∧ Keep Nothing w wr ∧ (∀ g, (Value.slice A L.length c).ownBlock = some g → w.heap.size ≤ g) ∧
    allP s = (L ++ (allP (s.extract k s.size)).1, k + (allP (s.extract k s.size)).2)) (fun _ i _ => s.size - (intOf i).toNat)
  case atStart => exact ⟨0, [], none, 0, Nat.zero_le _, by simp, by simp, by simp, Row.nil _ 9 1, Keep.same _ _, fun g hg => by simp [Value.ownBlock] at hg, by simp⟩
  case round =>
    obtain ⟨k, L, A, c, hk, hL8, rfl, rfl, hrow, hkeep, hown, hall⟩ := hrel
    have R := Lib.hid hrow
    have K := Lib.hid hkeep
    have O := Lib.hid hown
    have AL := Lib.hid hall
    clear hrow hkeep hown hall
    have hz : (s.extract k s.size).size = s.size - k := by rw [ByteArray.size_extract]; omega
    have hf := first_calls wr (s.extract k s.size) (by omega)
    have HEX := Lib.hid (fun n => extract_from s k n hk)
    have i1 : (k : Int) ≤ s.size := by omega
    generalize hx : s.extract k s.size = x at *
    have HF := Lib.hid hf
    clear hf
    by_cases he : firstE x = 0
    · have hV : firstV x = .tuple #[.string (firstT x), .int .i64 ((firstN x : Nat) : Int), .int .i64 0] := by unfold firstV; rw [he]
      obtain ⟨n1, n2⟩ := firstN_some he
      have AG := Lib.hid (allP_go he)
      rw [hV] at HF
      clear hV he
      generalize firstN x = n at *
      generalize firstT x = t at *
      go_wp2_with fail
      refine HF.out.mono ?_
      rintro e w2 ⟨rfl, hk2⟩
      have K2 := Lib.hid hk2
      have R2 := Lib.hid (R.out.keep hk2 (fun _ _ h => h))
      clear hk2
      go_wp2_with (at_builtin; refine wpList_app _ rfl E34 (.tmp 21) (.tmp 23) rfl (R2.out.alloc _) (Src.one w2 (.string t) 9) 1 rfl rfl (by simp [Value.oneCell']) (by unfold maxLen; omega) (by omega) ?_)
      intro v4 w4 hr4 hg4 hl4
      obtain ⟨A4, c4, rfl, _, _⟩ := hr4.form
      have e4 : strs L ++ [Value.string t] = strs (L ++ [t]) := by simp
      have e5 : (L ++ [t]).length = L.length + 1 := by simp
      have K4 := Lib.hid (((K.out.trans K2.out (fun _ h => h.elim)).alloc (.cells #[.string t] 9)).grown hg4 (fun i hi => .inr (O.out i hi)))
      have hsz : w.heap.size ≤ w2.heap.size := (K.out.trans K2.out (fun _ h => h.elim)).size
      have O4 := Lib.hid (show ∀ g, (Value.slice A4 (L.length + 1) c4).ownBlock = some g → w.heap.size ≤ g by
        intro g hg
        rcases hl4 with h | h
        · rw [h] at hg; exact O.out g hg
        · rw [h] at hg; injection hg with hg; first | omega | (simp at hg; omega))
      rw [e4, ← e5] at hr4
      rw [← e5] at O4
      have R4 := Lib.hid hr4
      clear hr4 hg4 hl4 hsz
      go_wp2_with fail
      go_roundw
      case rel => exact ⟨k + n, L ++ [t], A4, c4, by omega, by omega, by go_num, by rw [e5], R4.out, K4.out, O4.out, by
        rw [AL.out, AG.out, HEX.out n]
        simp [Nat.add_assoc]⟩
      case measure => simp [intOf]; omega
    · have hV := first_end he
      have AE := Lib.hid (allP_end he)
      have g1 : (firstE x != 0) = true := by simp [he]
      rw [hV] at HF
      have EQ := Lib.hid (show allP s = (L, k) by rw [AL.out, AE.out]; simp)
      clear hV he
      generalize firstE x = q at *
      go_wp2_with fail
      refine HF.out.mono ?_
      rintro e w2 ⟨rfl, hk2⟩
      have K2 := Lib.hid hk2
      have R2 := Lib.hid (R.out.keep hk2 (fun _ _ h => h))
      clear hk2
      go_wp2_with fail
      go_ret2
      rw [EQ.out]
      exact ⟨_, _, rfl, R2.out, K.out.trans K2.out (fun _ h => h.elim)⟩
set_option maxRecDepth 100000 in
set_option maxHeartbeats 1600000 in
theorem rall_calls (w : World) (s : ByteArray) (hs : s.size ≤ 90000000) : Calls Try.prog 15 #[.string s] w (fun e w' => ∃ A c, e = .returned (.tuple #[.slice A (allP s).1.length c, .int .i64 (((allP s).2 : Nat) : Int)]) ∧
    Row w' 9 1 (.slice A (allP s).1.length c) (allP s).1.length (strs (allP s).1) ∧ Keep Nothing w w') := by
  go_enter Try.func15, Try.ntmps15
  go_wp2_with fail
  go_loopw [4, 5] (fun v i wr => ∃ (k : Nat) (L : List ByteArray) (A : Option Addr) (c : Nat), k ≤ s.size ∧ L.length * 8 ≤ k ∧ i = .int .i64 k ∧ v = .slice A L.length c ∧ Row wr 9 1 (.slice A L.length c) L.length (strs L) ∧ Keep Nothing w wr ∧ (∀ g, (Value.slice A L.length c).ownBlock = some g → w.heap.size ≤ g) ∧
    allP s = (L ++ (allP (s.extract k s.size)).1, k + (allP (s.extract k s.size)).2)) (fun _ i _ => s.size - (intOf i).toNat)
  case atStart => exact ⟨0, [], none, 0, Nat.zero_le _, by simp, by simp, by simp, Row.nil _ 9 1, Keep.same _ _, fun g hg => by simp [Value.ownBlock] at hg, by simp⟩
  case round =>
    obtain ⟨k, L, A, c, hk, hL8, rfl, rfl, hrow, hkeep, hown, hall⟩ := hrel
    have R := Lib.hid hrow
    have K := Lib.hid hkeep
    have O := Lib.hid hown
    have AL := Lib.hid hall
    clear hrow hkeep hown hall
    have hz : (s.extract k s.size).size = s.size - k := by rw [ByteArray.size_extract]; omega
    have hf := (rfirst_calls wr (s.extract k s.size) (by omega)).mono (fun e w' h => (⟨h.1, (Keep.same Nothing wr).drawn h.2⟩ : e = .returned (firstV (s.extract k s.size)) ∧ Keep Nothing wr w'))
    have HEX := Lib.hid (fun n => extract_from s k n hk)
    have i1 : (k : Int) ≤ s.size := by omega
    generalize hx : s.extract k s.size = x at *
    have HF := Lib.hid hf
    clear hf
    by_cases he : firstE x = 0
    · have hV : firstV x = .tuple #[.string (firstT x), .int .i64 ((firstN x : Nat) : Int), .int .i64 0] := by unfold firstV; rw [he]
      obtain ⟨n1, n2⟩ := firstN_some he
      have AG := Lib.hid (allP_go he)
      rw [hV] at HF
      clear hV he
      generalize firstN x = n at *
      generalize firstT x = t at *
      go_wp2_with fail
      refine HF.out.mono ?_
      rintro e w2 ⟨rfl, hk2⟩
      have K2 := Lib.hid hk2
      have R2 := Lib.hid (R.out.keep hk2 (fun _ _ h => h))
      clear hk2
      go_wp2_with (at_builtin; refine wpList_app _ rfl E34 (.tmp 21) (.tmp 23) rfl (R2.out.alloc _) (Src.one w2 (.string t) 9) 1 rfl rfl (by simp [Value.oneCell']) (by unfold maxLen; omega) (by omega) ?_)
      intro v4 w4 hr4 hg4 hl4
      obtain ⟨A4, c4, rfl, _, _⟩ := hr4.form
      have e4 : strs L ++ [Value.string t] = strs (L ++ [t]) := by simp
      have e5 : (L ++ [t]).length = L.length + 1 := by simp
      have K4 := Lib.hid (((K.out.trans K2.out (fun _ h => h.elim)).alloc (.cells #[.string t] 9)).grown hg4 (fun i hi => .inr (O.out i hi)))
      have hsz : w.heap.size ≤ w2.heap.size := (K.out.trans K2.out (fun _ h => h.elim)).size
      have O4 := Lib.hid (show ∀ g, (Value.slice A4 (L.length + 1) c4).ownBlock = some g → w.heap.size ≤ g by
        intro g hg
        rcases hl4 with h | h
        · rw [h] at hg; exact O.out g hg
        · rw [h] at hg; injection hg with hg; first | omega | (simp at hg; omega))
      rw [e4, ← e5] at hr4
      rw [← e5] at O4
      have R4 := Lib.hid hr4
      clear hr4 hg4 hl4 hsz
      go_wp2_with fail
      go_roundw
      case rel => exact ⟨k + n, L ++ [t], A4, c4, by omega, by omega, by go_num, by rw [e5], R4.out, K4.out, O4.out, by
        rw [AL.out, AG.out, HEX.out n]
        simp [Nat.add_assoc]⟩
      case measure => simp [intOf]; omega
    · have hV := first_end he
      have AE := Lib.hid (allP_end he)
      have g1 : (firstE x != 0) = true := by simp [he]
      rw [hV] at HF
      have EQ := Lib.hid (show allP s = (L, k) by rw [AL.out, AE.out]; simp)
      clear hV he
      generalize firstE x = q at *
      go_wp2_with fail
      refine HF.out.mono ?_
      rintro e w2 ⟨rfl, hk2⟩
      have K2 := Lib.hid hk2
      have R2 := Lib.hid (R.out.keep hk2 (fun _ _ h => h))
      clear hk2
      go_wp2_with fail
      go_ret2
      rw [EQ.out]
      exact ⟨_, _, rfl, R2.out, K.out.trans K2.out (fun _ h => h.elim)⟩
end Go.Proofs.Ytdemmlckalhinaa.A
