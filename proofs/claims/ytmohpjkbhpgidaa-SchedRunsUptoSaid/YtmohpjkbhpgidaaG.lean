/-
  awake; LgroupNone.
-/
import Derived.Test.YtmohpjkbhpgidaaF
namespace Go.Proofs.Ytmohpjkbhpgidaa.A
open Go.RowKit Go.Proofs.Ytmohpjkbhpgidaa.U
set_option linter.unusedVariables false
set_option linter.unusedSimpArgs false
set_option maxRecDepth 100000

theorem an_at {B : Nat} {w0 w : World} {Q : SP} {a : Option Addr × Nat} {x : Int} {L : List Int} (h : Holds B w0 w (star (anP a (x :: L)) Q)) : ∃ ad : Addr, a.1 = some ad ∧ w.cell? ad = some (.int .i64 x) := by
  obtain ⟨F, hr, _⟩ := h.left
  obtain ⟨ad, y, e, hy, hc⟩ := i_at hr.src (show 0 < (x :: L).length by simp)
  injection hy with hy
  subst hy
  exact ⟨ad, e, by simpa [Addr.add] using hc⟩
set_option maxHeartbeats 1600000 in
theorem awake_calls (w : World) : Calls Try.prog 45 #[] w (fun e w' => e = .returned (.bool true) ∧ Keep Nothing w w') := by
  have hb : ∀ w', Below w.heap.size w w' → Keep Nothing w w' := fun w' h => Keep.of_below h _
  have H0 := Lib.hid (Holds.start w)
  have hu26 := Try.underlying26
  go_enter Try.func45, Try.ntmps45
  go_wp2_with fail
  refine (gnew_calls _).mono ?_
  rintro e w1 ⟨rfl, hw1⟩
  have H1 := Lib.hid (show Holds w.heap.size w w1 (star (gP 135 w.heap.size 0 []) none_) by rw [hw1]; exact Holds.newQ H0.out none_stable 135 [.int .i64 0])
  clear hw1
  go_wp2_with fail
  refine (onew_calls _).mono ?_
  rintro e w2 ⟨rfl, hw2⟩
  have H2 := Lib.hid (show Holds w.heap.size w w2 (star (oP w1.heap.size (-1) false []) (star (gP 135 w.heap.size 0 []) none_)) by rw [hw2]; exact H1.out.more (by repeat (first | exact none_stable | exact gP_stable _ _ _ _ | exact oP_stable _ _ _ _ | exact anP_stable _ _ | exact rP_stable _ _ _ _ | apply Stable.star)) (new_once w1) ((Keep.same _ _).alloc _) (fun k hk => by omega))
  clear hw2
  go_wp2_with fail
  generalize hg1 : w1.heap.size = ob at *
  generalize hg0 : w.heap.size = gb at *
  clear hg0 hg1
  have H3 := Lib.hid (H2.out.turn)
  have hx := x_add (d := 2) H3.out (by repeat (first | exact none_stable | exact gP_stable _ _ _ _ | exact oP_stable _ _ _ _ | exact anP_stable _ _ | exact rP_stable _ _ _ _ | apply Stable.star)) (by decide) (by decide) (by decide) (by decide)
  rw [show gR 0 2 [] = [] by decide, show gE 0 2 = 0 by decide, show gN 0 2 = 2 by decide, show gL 0 2 [] = [] by decide] at hx
  have HX3 := Lib.hid hx
  clear hx
  go_wp2_with fail
  refine HX3.out.mono ?_
  rintro e w3 ⟨a3, rfl, h⟩
  have H4 := Lib.hid (Holds.assoc h).drop
  clear h
  have hx := x_wait (x := 7) H4.out (by repeat (first | exact none_stable | exact gP_stable _ _ _ _ | exact oP_stable _ _ _ _ | exact anP_stable _ _ | exact rP_stable _ _ _ _ | apply Stable.star)) (by decide)
  rw [show wB 2 [] 7 = false by decide, show wE [] 7 = 0 by decide, show wL 2 [] 7 = [7] by decide] at hx
  have HX4 := Lib.hid hx
  clear hx
  go_wp2_with fail
  refine HX4.out.mono ?_
  rintro e w4 ⟨rfl, h⟩
  have H5 := Lib.hid h
  clear h
  have hx := x_add (d := (-1)) H5.out (by repeat (first | exact none_stable | exact gP_stable _ _ _ _ | exact oP_stable _ _ _ _ | exact anP_stable _ _ | exact rP_stable _ _ _ _ | apply Stable.star)) (by decide) (by decide) (by decide) (by decide)
  rw [show gR 2 (-1) [7] = [] by decide, show gE 2 (-1) = 0 by decide, show gN 2 (-1) = 1 by decide, show gL 2 (-1) [7] = [7] by decide] at hx
  have HX5 := Lib.hid hx
  clear hx
  go_wp2_with fail
  refine HX5.out.mono ?_
  rintro e w5 ⟨a5, rfl, h⟩
  have H6 := Lib.hid (Holds.assoc h).drop
  clear h
  have hx := x_add (d := (-1)) H6.out (by repeat (first | exact none_stable | exact gP_stable _ _ _ _ | exact oP_stable _ _ _ _ | exact anP_stable _ _ | exact rP_stable _ _ _ _ | apply Stable.star)) (by decide) (by decide) (by decide) (by decide)
  rw [show gR 1 (-1) [7] = [7] by decide, show gE 1 (-1) = 0 by decide, show gN 1 (-1) = 0 by decide, show gL 1 (-1) [7] = [] by decide] at hx
  have HX6 := Lib.hid hx
  clear hx
  go_wp2_with fail
  refine HX6.out.mono ?_
  rintro e w6 ⟨a6, rfl, h⟩
  have H7 := Lib.hid (Holds.assoc h).turn
  clear h
  have hx := x_add (d := (-1)) H7.out (by repeat (first | exact none_stable | exact gP_stable _ _ _ _ | exact oP_stable _ _ _ _ | exact anP_stable _ _ | exact rP_stable _ _ _ _ | apply Stable.star)) (by decide) (by decide) (by decide) (by decide)
  rw [show gR 0 (-1) [] = [] by decide, show gE 0 (-1) = 14 by decide, show gN 0 (-1) = 0 by decide, show gL 0 (-1) [] = [] by decide] at hx
  have HX7 := Lib.hid hx
  clear hx
  go_wp2_with fail
  refine HX7.out.mono ?_
  rintro e w7 ⟨a7, rfl, h⟩
  have H8 := Lib.hid (Holds.assoc (Holds.assoc h).drop.turn).drop
  clear h
  have hx := x_do (x := 1) H8.out (by repeat (first | exact none_stable | exact gP_stable _ _ _ _ | exact oP_stable _ _ _ _ | exact anP_stable _ _ | exact rP_stable _ _ _ _ | apply Stable.star)) (by decide)
  rw [show dRun (-1) false [] 1 = true by decide, show dWait (-1) false [] 1 = false by decide, show dE (-1) [] 1 = 0 by decide, show dW (-1) false [] 1 = 1 by decide, show dL (-1) false [] 1 = [] by decide] at hx
  have HX8 := Lib.hid hx
  clear hx
  go_wp2_with fail
  refine HX8.out.mono ?_
  rintro e w8 ⟨rfl, h⟩
  have H9 := Lib.hid h
  clear h
  have hx := x_do (x := 2) H9.out (by repeat (first | exact none_stable | exact gP_stable _ _ _ _ | exact oP_stable _ _ _ _ | exact anP_stable _ _ | exact rP_stable _ _ _ _ | apply Stable.star)) (by decide)
  rw [show dRun 1 false [] 2 = false by decide, show dWait 1 false [] 2 = true by decide, show dE 1 [] 2 = 0 by decide, show dW 1 false [] 2 = 1 by decide, show dL 1 false [] 2 = [2] by decide] at hx
  have HX9 := Lib.hid hx
  clear hx
  go_wp2_with fail
  refine HX9.out.mono ?_
  rintro e w9 ⟨rfl, h⟩
  have H10 := Lib.hid h
  clear h
  have hx := x_done (x := 1) H10.out (by repeat (first | exact none_stable | exact gP_stable _ _ _ _ | exact oP_stable _ _ _ _ | exact anP_stable _ _ | exact rP_stable _ _ _ _ | apply Stable.star))
  rw [show fR 1 1 [2] = [2] by decide, show fE 1 1 = 0 by decide, show fW 1 1 = -1 by decide, show fO 1 1 false = true by decide, show fL 1 1 [2] = [] by decide] at hx
  have HX10 := Lib.hid hx
  clear hx
  go_wp2_with fail
  refine HX10.out.mono ?_
  rintro e w10 ⟨a10, rfl, h⟩
  have H11 := Lib.hid (Holds.assoc h)
  clear h
  go_wp2_with fail
  refine (x_state H11.out.drop).mono ?_
  rintro e w11 ⟨rfl, ⟨n11, rfl⟩⟩
  obtain ⟨ad1, e1, hc1⟩ := an_at H11.out
  obtain ⟨ad2, e2, hc2⟩ := an_at H11.out.drop.drop
  obtain ⟨A10, C10⟩ := a10
  obtain ⟨A6, C6⟩ := a6
  simp only at e1 e2
  subst e1 e2
  have hc1' : (w10.drewN n11).cell? ad1 = some (.int .i64 2) := hc1
  have hc2' : (w10.drewN n11).cell? ad2 = some (.int .i64 7) := hc2
  go_wp2_with fail
  go_ret
  exact ⟨rfl, (hb _ H11.out.below).drewN _⟩
end Go.Proofs.Ytmohpjkbhpgidaa.A
