/-
  Both locks beside other things; awake.
-/
import Derived.Test.YtmohpjkbhpgidaaRF
namespace Go.Proofs.Ytmohpjkbhpgidaa.A
open Go.RowKit Go.Proofs.Ytmohpjkbhpgidaa.U
set_option linter.unusedVariables false
set_option linter.unusedSimpArgs false
set_option maxRecDepth 100000

section
variable {B : Nat} {w0 w : World} {Q : SP} {b : Nat}
theorem x_mlock {h : Bool} {who : Int} {L : List Wt} (hh : Holds B w0 w (star (mP b h who L) Q)) (hQ : Stable Q) (hL : L.length ≤ 1000000) (x : Int) :
    Calls Try.prog 30 #[.pointer (some ⟨b, 0, none⟩), .int .i64 x] w (fun e w' => e = .returned (.tuple #[.bool (mLock h who L x).1, .int .i64 (mLock h who L x).2.1]) ∧
      Holds B w0 w' (star (mP b (mLock h who L x).2.2.1 (mLock h who L x).2.2.2.1 (mLock h who L x).2.2.2.2) Q)) :=
  hh.on_left hQ (post := fun e => e = .returned (.tuple #[.bool (mLock h who L x).1, .int .i64 (mLock h who L x).2.1])) fun F hm => mlock_calls w b F h who L hm hL x
theorem x_munlock {h : Bool} {who : Int} {L : List Wt} (hh : Holds B w0 w (star (mP b h who L) Q)) (hQ : Stable Q) (hL : L.length ≤ 1000000) (x : Int) :
    Calls Try.prog 32 #[.pointer (some ⟨b, 0, none⟩), .int .i64 x] w (fun e w' => e = .returned (.tuple #[.int .i64 (mUnlock h who L x).1, .int .i64 (mUnlock h who L x).2.1]) ∧
      Holds B w0 w' (star (mP b (mUnlock h who L x).2.2.1 (mUnlock h who L x).2.2.2.1 (mUnlock h who L x).2.2.2.2) Q)) :=
  hh.on_left hQ (post := fun e => e = .returned (.tuple #[.int .i64 (mUnlock h who L x).1, .int .i64 (mUnlock h who L x).2.1])) fun F hm => munlock_calls w b F h who L hm hL x
theorem x_holder {h : Bool} {who : Int} {L : List Wt} (hh : Holds B w0 w (star (mP b h who L) Q)) :
    Calls Try.prog 33 #[.pointer (some ⟨b, 0, none⟩)] w (fun e w' => e = .returned (.int .i64 (if h then who else -1)) ∧ w' = w) := by
  obtain ⟨F, hm⟩ := hh.left
  exact holder_calls w b F h who L hm
theorem x_mqueue {h : Bool} {who : Int} {L : List Wt} (hh : Holds B w0 w (star (mP b h who L) Q)) (hL : L.length ≤ 1000000) : Calls Try.prog 37 #[.pointer (some ⟨b, 0, none⟩)] w (FreshInts (tasks L) w) := by
  obtain ⟨F, hm⟩ := hh.left
  exact mqueue_calls w b F h who L hm hL
theorem x_holders {W : List Int} {wr : Bool} {L : List Wt} (hh : Holds B w0 w (star (rwP b W wr L) Q)) (hW : W.length ≤ 1000000) : Calls Try.prog 25 #[.pointer (some ⟨b, 0, none⟩)] w (HoldPost W wr w) := by
  obtain ⟨F, hm⟩ := hh.left
  exact holders_calls w b F W wr L hm hW
theorem x_rwqueue {W : List Int} {wr : Bool} {L : List Wt} (hh : Holds B w0 w (star (rwP b W wr L) Q)) (hL : L.length ≤ 1000000) : Calls Try.prog 27 #[.pointer (some ⟨b, 0, none⟩)] w (FreshWts L w) := by
  obtain ⟨F, hm⟩ := hh.left
  exact rwqueue_calls w b F W wr L hm hL
theorem Holds.newM (h : Holds B w0 w Q) (hQ : Stable Q) : Holds B w0 (w.alloc (.cells #[.slice none 0 0, .bool false, .int .i64 0] 128)) (star (mP w.heap.size false 0 []) Q) :=
  h.more hQ (mP_new w) ((Keep.same _ _).alloc _) (fun k hk => by omega)
theorem Holds.newRW (h : Holds B w0 w Q) (hQ : Stable Q) : Holds B w0 (w.alloc (.cells #[.slice none 0 0, .slice none 0 0, .bool false] 115)) (star (rwP w.heap.size [] false []) Q) :=
  h.more hQ (rwP_new w) ((Keep.same _ _).alloc _) (fun k hk => by omega)
theorem rising_nil : Rising [] := fun i j x y _ hx _ => by simp at hx
theorem good_nil : Good [] [] := ⟨rising_nil, by simp [tasks], fun t ht => by simp [tasks] at ht⟩
end
theorem rising_1 : Rising [1] := rising_put rising_nil (by simp)
theorem rising_12 : Rising [1, 2] := rising_put rising_1 (x := 2) (by simp)
theorem good_12 : Good [1, 2] [⟨3, false, true⟩, ⟨4, true, true⟩] := ⟨rising_12, by simp [tasks], fun t ht => by simp [tasks] at ht; rcases ht with rfl | rfl <;> simp⟩
theorem good_2 : Good [2] [⟨3, false, true⟩, ⟨4, true, true⟩] := ⟨rising_put rising_nil (x := 2) (by simp), by simp [tasks], fun t ht => by simp [tasks] at ht; rcases ht with rfl | rfl <;> simp⟩
set_option maxHeartbeats 6400000 in
theorem awake8 (w : World) : Calls Try.prog 28 #[] w (fun e w' => e = .returned (.bool true) ∧ Keep Nothing w w') := by
  have hb : ∀ w', Below w.heap.size w w' → Keep Nothing w w' := fun w' h => Keep.of_below h _
  have hu26 := Try.underlying26
  have H0 := Lib.hid (Holds.start w)
  go_enter Try.func28, Try.ntmps28
  go_wp2_with fail
  refine (mnew_calls _).mono ?_
  rintro e w1 ⟨rfl, hw1⟩
  have H1 := Lib.hid (show Holds w.heap.size w w1 (star (mP w.heap.size false 0 []) none_) by rw [hw1]; exact Holds.newM H0.out none_stable)
  clear hw1
  go_wp2_with fail
  refine (rwnew_calls _).mono ?_
  rintro e w2 ⟨rfl, hw2⟩
  have H2 := Lib.hid (show Holds w.heap.size w w2 (star (rwP w1.heap.size [] false []) (star (mP w.heap.size false 0 []) none_)) by rw [hw2]; exact Holds.newRW H1.out ((mP_stable _ _ _ _).star none_stable))
  clear hw2
  go_wp2_with fail
  generalize hg1 : w1.heap.size = rb at *
  generalize hg0 : w.heap.size = mb at *
  clear hg0 hg1
  have H3 := Lib.hid (H2.out.turn)
  have hx := x_mlock H3.out (by repeat (first | exact none_stable | exact mP_stable _ _ _ _ | exact rwP_stable _ _ _ _ | exact rowP_stable _ _ _ _ _ | apply Stable.star)) (by simp) 1
  rw [show mLock false 0 [] 1 = (true, 0, true, 1, []) from rfl] at hx
  dsimp only at hx
  have HX3 := Lib.hid hx
  clear hx
  go_wp2_with fail
  refine HX3.out.mono ?_
  rintro e w3 ⟨rfl, h⟩
  have H4 := Lib.hid (h)
  clear h
  have hx := x_mlock H4.out (by repeat (first | exact none_stable | exact mP_stable _ _ _ _ | exact rwP_stable _ _ _ _ | exact rowP_stable _ _ _ _ _ | apply Stable.star)) (by simp) 2
  rw [show mLock true 1 [] 2 = (false, 0, true, 1, [⟨2, false, true⟩]) from rfl] at hx
  dsimp only at hx
  have HX4 := Lib.hid hx
  clear hx
  go_wp2_with fail
  refine HX4.out.mono ?_
  rintro e w4 ⟨rfl, h⟩
  have H5 := Lib.hid (h)
  clear h
  have hx := x_munlock H5.out (by repeat (first | exact none_stable | exact mP_stable _ _ _ _ | exact rwP_stable _ _ _ _ | exact rowP_stable _ _ _ _ _ | apply Stable.star)) (by simp) 1
  rw [show mUnlock true 1 [⟨2, false, true⟩] 1 = (2, 0, true, 2, []) from rfl] at hx
  dsimp only at hx
  have HX5 := Lib.hid hx
  clear hx
  go_wp2_with fail
  refine HX5.out.mono ?_
  rintro e w5 ⟨rfl, h⟩
  have H6 := Lib.hid (h.turn.turn)
  clear h
  have hx := x_rwlock H6.out (by repeat (first | exact none_stable | exact mP_stable _ _ _ _ | exact rwP_stable _ _ _ _ | exact rowP_stable _ _ _ _ _ | apply Stable.star)) (by simp) (by simp) rising_nil 1 true
  rw [show rwLock [] false [] 1 true = (true, 0, [1], false, []) from rfl] at hx
  dsimp only at hx
  have HX6 := Lib.hid hx
  clear hx
  go_wp2_with fail
  refine HX6.out.mono ?_
  rintro e w6 ⟨rfl, h⟩
  have H7 := Lib.hid (h)
  clear h
  have hx := x_rwlock H7.out (by repeat (first | exact none_stable | exact mP_stable _ _ _ _ | exact rwP_stable _ _ _ _ | exact rowP_stable _ _ _ _ _ | apply Stable.star)) (by simp) (by simp) rising_1 2 true
  rw [show rwLock [1] false [] 2 true = (true, 0, [1, 2], false, []) from rfl] at hx
  dsimp only at hx
  have HX7 := Lib.hid hx
  clear hx
  go_wp2_with fail
  refine HX7.out.mono ?_
  rintro e w7 ⟨rfl, h⟩
  have H8 := Lib.hid (h)
  clear h
  have hx := x_rwlock H8.out (by repeat (first | exact none_stable | exact mP_stable _ _ _ _ | exact rwP_stable _ _ _ _ | exact rowP_stable _ _ _ _ _ | apply Stable.star)) (by simp) (by simp) rising_12 3 false
  rw [show rwLock [1, 2] false [] 3 false = (false, 0, [1, 2], false, [⟨3, false, true⟩]) from rfl] at hx
  dsimp only at hx
  have HX8 := Lib.hid hx
  clear hx
  go_wp2_with fail
  refine HX8.out.mono ?_
  rintro e w8 ⟨rfl, h⟩
  have H9 := Lib.hid (h)
  clear h
  have hx := x_rwlock H9.out (by repeat (first | exact none_stable | exact mP_stable _ _ _ _ | exact rwP_stable _ _ _ _ | exact rowP_stable _ _ _ _ _ | apply Stable.star)) (by simp) (by simp) rising_12 4 true
  rw [show rwLock [1, 2] false [⟨3, false, true⟩] 4 true = (false, 0, [1, 2], false, [⟨3, false, true⟩, ⟨4, true, true⟩]) from rfl] at hx
  dsimp only at hx
  have HX9 := Lib.hid hx
  clear hx
  go_wp2_with fail
  refine HX9.out.mono ?_
  rintro e w9 ⟨rfl, h⟩
  have H10 := Lib.hid (h)
  clear h
  have hx := x_rwunlock H10.out (by repeat (first | exact none_stable | exact mP_stable _ _ _ _ | exact rwP_stable _ _ _ _ | exact rowP_stable _ _ _ _ _ | apply Stable.star)) (by simp) (by simp) good_12 1 true
  rw [show rwUnlock [1, 2] false [⟨3, false, true⟩, ⟨4, true, true⟩] 1 true = ([], 0, [2], false, [⟨3, false, true⟩, ⟨4, true, true⟩]) from rfl] at hx
  have HX10 := Lib.hid hx
  clear hx
  go_wp2_with fail
  refine HX10.out.mono ?_
  rintro e w10 ⟨a10, c10, rfl, h⟩
  have H11 := Lib.hid (h.drop)
  clear h
  have hx := x_rwunlock H11.out (by repeat (first | exact none_stable | exact mP_stable _ _ _ _ | exact rwP_stable _ _ _ _ | exact rowP_stable _ _ _ _ _ | apply Stable.star)) (by simp) (by simp) good_2 2 true
  rw [show rwUnlock [2] false [⟨3, false, true⟩, ⟨4, true, true⟩] 2 true = ([3], 0, [3], true, [⟨4, true, true⟩]) from rfl] at hx
  have HX11 := Lib.hid hx
  clear hx
  go_wp2_with fail
  refine HX11.out.mono ?_
  rintro e w11 ⟨a11, c11, rfl, h⟩
  have H12 := Lib.hid (h.turn)
  clear h
  dsimp only [List.length_cons, List.length_nil] at H12
  have HX12 := Lib.hid (x_holders H12.out (by simp))
  go_wp2_with fail
  refine HX12.out.mono ?_
  rintro e w12 ⟨a12, c12, rfl, hr12, hk12, ho12⟩
  have H13 := Lib.hid (H12.out.kept (by repeat (first | exact none_stable | exact mP_stable _ _ _ _ | exact rwP_stable _ _ _ _ | exact rowP_stable _ _ _ _ _ | apply Stable.star)) hk12)
  obtain ⟨ad, x3, e3, hx3, hc3⟩ := i_at H13.out.turn.turn.row.src (show 0 < 1 by omega)
  injection hx3 with hx3
  subst hx3 e3
  have hc3' : w12.cell? ad = some (.int .i64 3) := by simpa [Addr.add] using hc3
  have HH := Lib.hid (x_holder (Holds.assoc H13.out.turn))
  have HQ := Lib.hid (x_rwqueue H13.out (by simp))
  clear hr12 hk12 ho12 hc3
  go_wp2_with fail
  refine HH.out.mono ?_
  rintro e w13 ⟨rfl, rfl⟩
  go_wp2_with fail
  refine HQ.out.mono ?_
  rintro e w14 ⟨a14, c14, rfl, hr14, hk14, ho14⟩
  have K14 := Lib.hid hk14
  clear hr14 hk14 ho14
  go_wp2_with fail
  go_ret
  exact ⟨rfl, (hb _ H13.out.below).then K14.out⟩
end Go.Proofs.Ytmohpjkbhpgidaa.A
