/-
  Wrap.
-/
import Derived.Test.YtdemmlckalhinaaC
namespace Go.Proofs.Ytdemmlckalhinaa.A
open Go.RowKit Go.Proofs.Ytdemmlckalhinaa.U
set_option linter.unusedVariables false
set_option linter.unusedSimpArgs false

def wrapS (s : ByteArray) : ByteArray := le4 s.size ++ le4 (sumS (le4 s.size ++ s)) ++ s
theorem sumS_lt (s : ByteArray) : sumS s < 4294967296 := by unfold sumS; omega
theorem le4_size (n : Nat) : (le4 n).size = 4 := rfl
theorem cat (w : World) (a b : ByteArray) (h : a.size + b.size ≤ 100000000) : (Op.stringOp .add a b).run Try.prog w = .ok (.string (a ++ b)) w := by
  have h1 : ¬ (((a.size + b.size : Nat) : Int) > IntKind.i64.max) := by rw [IntKind.max_i64]; omega
  unfold Op.stringOp
  simp only [if_neg h1]
  rfl

set_option maxRecDepth 100000 in
theorem rwrap_ok (w : World) (s : ByteArray) (hs : s.size ≤ 524288) : Calls Try.prog 9 #[.string s] w (fun e w' => e = .returned (.tuple #[.string (wrapS s), .int .i64 0]) ∧ Keep Nothing w w') := by
  have c1 := fun w => cat w (le4 s.size) s (by rw [le4_size]; omega)
  have c2 := fun w => cat w (le4 s.size) (le4 (sumS (le4 s.size ++ s))) (by rw [le4_size, le4_size]; omega)
  have c3 := fun w => cat w (le4 s.size ++ le4 (sumS (le4 s.size ++ s))) s (by rw [ByteArray.size_append, le4_size, le4_size]; omega)
  go_enter Try.func9, Try.ntmps9
  go_wp2_with fail
  refine (four_calls _ s.size (by omega)).mono ?_
  rintro e w1 ⟨rfl, hk1⟩
  have K1 := Lib.hid hk1
  clear hk1
  go_wp2_with fail
  refine (rsum_calls _ (le4 s.size ++ s) (by rw [ByteArray.size_append, le4_size]; omega)).mono ?_
  rintro e w2 ⟨rfl, ⟨n2, rfl⟩⟩
  go_wp2_with fail
  refine (four_calls _ (sumS (le4 s.size ++ s)) (sumS_lt _)).mono ?_
  rintro e w3 ⟨rfl, hk3⟩
  have K3 := Lib.hid hk3
  clear hk3
  go_wp2_with fail
  go_ret2
  exact ⟨rfl, (K1.out.drewN n2).trans K3.out (fun _ h => h.elim)⟩
theorem rwrap_big (w : World) (s : ByteArray) (hs : 524288 < s.size) : Calls Try.prog 9 #[.string s] w (Pure w (.tuple #[.string ByteArray.empty, .int .i64 1])) := by
  go_enter Try.func9, Try.ntmps9
  go_wp2_with fail
  go_ret2
  exact ⟨rfl, Drew.same _⟩
theorem wrap_big (w : World) (s : ByteArray) (hs : 524288 < s.size) : Calls Try.prog 8 #[.string s] w (Pure w (.tuple #[.string ByteArray.empty, .int .i64 1])) := by
  go_enter Try.func8, Try.ntmps8
  go_wp2_with fail
  go_ret2
  exact ⟨rfl, Drew.same _⟩
theorem putK_in (cs : Array Value) (at_ n i : Nat) (hc : cs.size = 8) (ha : at_ ≤ 4) (hi : i < 4) : (putK cs at_ n 4)[at_ + i]? = some (.int .u8 ((b8 n i : Nat) : Int)) := by
  simp only [putK, Array.getElem?_setIfInBounds, Array.size_setIfInBounds]
  rcases (show i = 0 ∨ i = 1 ∨ i = 2 ∨ i = 3 by omega) with rfl | rfl | rfl | rfl <;> simp <;> omega
theorem putK_out (cs : Array Value) (at_ n k : Nat) (hk : k < at_ ∨ at_ + 4 ≤ k) : (putK cs at_ n 4)[k]? = cs[k]? := by
  simp only [putK, Array.getElem?_setIfInBounds]
  rw [if_neg (by omega), if_neg (by omega), if_neg (by omega), if_neg (by omega)]
theorem putK_size (cs : Array Value) (at_ n : Nat) : (putK cs at_ n 4).size = cs.size := by simp [putK]
theorem leL_at (n i : Nat) (hn : n < 4294967296) (hi : i < (leL n).length) : (leL n)[i].toNat = b8 n i := by
  simp only [leL, List.length_cons, List.length_nil] at hi
  unfold b8
  rcases (show i = 0 ∨ i = 1 ∨ i = 2 ∨ i = 3 by omega) with rfl | rfl | rfl | rfl <;> simp [leL] <;> omega
theorem le4_two (a b : Nat) : (⟨(leL a ++ leL b).toArray⟩ : ByteArray) = le4 a ++ le4 b := by
  apply ByteArray.ext
  simp [le4]
abbrev z8 : Array Value := #[.int .u8 0, .int .u8 0, .int .u8 0, .int .u8 0, .int .u8 0, .int .u8 0, .int .u8 0, .int .u8 0]

set_option maxRecDepth 100000 in
theorem wrap_ok (w : World) (s : ByteArray) (hs : s.size ≤ 524288) : Calls Try.prog 8 #[.string s] w (fun e w' => e = .returned (.tuple #[.string (wrapS s), .int .i64 0]) ∧ Keep Nothing w w') := by
  have hu44 := Try.underlying44
  have hu40 := Try.underlying40
  have c1 := fun w => cat w (le4 s.size) s (by rw [le4_size]; omega)
  have c3 := fun w => cat w (le4 s.size ++ le4 (sumS (le4 s.size ++ s))) s (by rw [ByteArray.size_append, le4_size, le4_size]; omega)
  go_enter Try.func8, Try.ntmps8
  go_wp2_with fail
  refine (put_calls _ w.heap.size z8 0 s.size (Blk.fresh w 44 z8) rfl (by omega) (by omega)).mono ?_
  rintro e w1 ⟨rfl, hb1, hk1⟩
  have v1 : (convert 40 9 (.slice (some ⟨w.heap.size, 0, none⟩) 4 8)).run Try.prog w1 = .ok (.string (le4 s.size)) w1 :=
    run_convert_bytes_back (P := Try.prog) w1 40 9 5 ⟨w.heap.size, 0, none⟩ 8 (leL s.size) Try.underlying40 Try.underlying5 Try.underlying9 (by
      intro j hj
      rw [addAt, hb1.cell, putK_in z8 0 s.size j rfl (by omega) (by simpa [leL] using hj), leL_at _ _ (by omega) hj])
  have B1 := Lib.hid hb1
  have K1 := Lib.hid hk1
  clear hb1 hk1
  go_wp2_with fail
  refine (sum_calls _ (le4 s.size ++ s) (by rw [ByteArray.size_append, le4_size]; omega)).mono ?_
  rintro e w2 ⟨rfl, hk2⟩
  have B2 := Lib.hid (B1.out.keep hk2 (fun h => h))
  have K2 := Lib.hid hk2
  clear hk2 v1
  have hlt := sumS_lt (le4 s.size ++ s)
  go_wp2_with fail
  refine (put_calls _ w.heap.size _ 4 (sumS (le4 s.size ++ s)) B2.out (putK_size _ _ _) (by omega) hlt).mono ?_
  rintro e w3 ⟨rfl, hb3, hk3⟩
  have v3 : (convert 40 9 (.slice (some ⟨w.heap.size, 0, none⟩) 8 8)).run Try.prog w3 = .ok (.string (le4 s.size ++ le4 (sumS (le4 s.size ++ s)))) w3 := by
    rw [← le4_two]
    exact run_convert_bytes_back (P := Try.prog) w3 40 9 5 ⟨w.heap.size, 0, none⟩ 8 (leL s.size ++ leL (sumS (le4 s.size ++ s))) Try.underlying40 Try.underlying5 Try.underlying9 (by
      intro j hj
      rw [addAt, hb3.cell]
      by_cases h4 : j < 4
      · have hin := putK_in z8 0 s.size j rfl (by omega) h4
        rw [Nat.zero_add] at hin
        rw [Nat.zero_add, putK_out _ _ _ _ (.inl h4), hin]
        rw [List.getElem_append_left (by simpa [leL] using h4), leL_at _ _ (by omega)]
      · have hj8 : j < 8 := by simpa [leL] using hj
        obtain ⟨i, rfl⟩ : ∃ i, j = 4 + i := ⟨j - 4, by omega⟩
        rw [Nat.zero_add, putK_in _ 4 _ i (putK_size _ _ _) (by omega) (by omega)]
        rw [List.getElem_append_right (by simp [leL])]
        simp only [show (leL s.size).length = 4 from rfl, Nat.add_sub_cancel_left]
        rw [leL_at _ _ hlt])
  have K3 := Lib.hid hk3
  clear hb3 hk3
  go_wp2_with fail
  go_ret2
  refine ⟨rfl, ?_⟩
  have ka := (((Keep.same Nothing w).alloc (.cells z8 44)).trans K1.out (fun i hi => .inr (by omega))).trans K2.out (fun _ h => h.elim)
  exact ka.trans K3.out (fun i hi => .inr (by omega))
end Go.Proofs.Ytdemmlckalhinaa.A
