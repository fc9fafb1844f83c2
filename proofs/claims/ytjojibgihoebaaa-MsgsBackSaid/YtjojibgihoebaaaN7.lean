/-
  Messages, compared: the reference's Same.
-/
import Derived.Test.YtjojibgihoebaaaN6
namespace Go.Proofs.Ytjojibgihoebaaa.A
open Go.RowKit Go.Proofs.Ytjojibgihoebaaa.U
set_option linter.unusedVariables false
set_option linter.unusedSimpArgs false
set_option maxRecDepth 100000

set_option maxHeartbeats 12800000 in
theorem same49 (w : World) (a b : Msg) (A A' : Option Addr) (c c' : Nat) (h : U.Src w A 7 a.es.length (ents a.es)) (h' : U.Src w A' 7 b.es.length (ents b.es)) (hl : a.es.length ≤ 4611686018427387904) :
    Calls Try.prog 49 #[mval a A c, mval b A' c'] w (fun e w' => e = .returned (.bool (eqM a b)) ∧ Keep Nothing w w') := by
  have hu := Try.underlying79
  have hu77 := Try.underlying77
  have hu52 := Try.underlying52
  have K0 := Lib.hid (((Keep.same Nothing w).alloc (.cells (mcs a A c) 79)).alloc (.cells (mcs b A' c') 79))
  have HE := Lib.hid (entries66 _ a.es b.es A A' c c' (src_kept h K0.out) (src_kept h' K0.out) hl)
  have X := (Blk.fresh w 79 (mcs a A c)).alloc (.cells (mcs b A' c') 79)
  have Y := Blk.fresh (w.alloc (.cells (mcs a A c) 79)) 79 (mcs b A' c')
  rw [show (w.alloc (.cells (mcs a A c) 79)).heap.size = w.heap.size + 1 by simp] at Y
  have x0 := X.cell 0
  have y0 := Y.cell 0
  have x1 := X.cell 1
  have y1 := Y.cell 1
  have x2 := X.cell 2
  have y2 := Y.cell 2
  have x3 := X.cell 3
  have y3 := Y.cell 3
  have x4 := X.cell 4
  have y4 := Y.cell 4
  have x5 := X.cell 5
  have y5 := Y.cell 5
  have x6 := X.cell 6
  have y6 := Y.cell 6
  have x7 := X.cell 7
  have y7 := Y.cell 7
  have x8 := X.cell 8
  have y8 := Y.cell 8
  have x9 := X.cell 9
  have y9 := Y.cell 9
  have x10 := X.cell 10
  have y10 := Y.cell 10
  have x11 := X.cell 11
  have y11 := Y.cell 11
  have x12 := X.cell 12
  have y12 := Y.cell 12
  have x13 := X.cell 13
  have y13 := Y.cell 13
  have x14 := X.cell 14
  have y14 := Y.cell 14
  have x15 := X.cell 15
  have y15 := Y.cell 15
  have x16 := X.cell 16
  have y16 := Y.cell 16
  have x17 := X.cell 17
  have y17 := Y.cell 17
  have x18 := X.cell 18
  have y18 := Y.cell 18
  have x19 := X.cell 19
  have y19 := Y.cell 19
  have XH := Lib.hid X
  have YH := Lib.hid Y
  clear h h' X Y
  cases h1 : decide (a.k = b.k) with
  | false =>
    have E := Lib.hid (show eqM a b = false by unfold eqM; simp [h1])
    have g1 : (a.k == b.k) = false := by rw [beq_eq_false_iff_ne]; exact of_decide_eq_false h1
    clear h1
    clear x1 y1 x2 y2 x3 y3 x4 y4 x5 y5 x6 y6 x7 y7 x8 y8 x9 y9 x10 y10 x11 y11 x12 y12 x13 y13 x14 y14 x15 y15 x16 y16 x17 y17 x18 y18 x19 y19
    go_enter Try.func49, Try.ntmps49
    go_wp2_with fail
    go_ret
    exact ⟨by rw [E.out]; rfl, K0.out⟩
  | true =>
    have g1 : (a.k == b.k) = true := by rw [beq_iff_eq]; exact of_decide_eq_true h1
    cases h2 : decide (a.f = b.f) with
    | false =>
      have E := Lib.hid (show eqM a b = false by unfold eqM; simp [h2])
      have g2 : (a.f == b.f) = false := by rw [beq_eq_false_iff_ne]; exact of_decide_eq_false h2
      clear h1 h2
      clear x2 y2 x3 y3 x4 y4 x5 y5 x6 y6 x7 y7 x8 y8 x9 y9 x10 y10 x11 y11 x12 y12 x13 y13 x14 y14 x15 y15 x16 y16 x17 y17 x18 y18 x19 y19
      go_enter Try.func49, Try.ntmps49
      go_wp2_with fail
      go_ret
      exact ⟨by rw [E.out]; rfl, K0.out⟩
    | true =>
      have g2 : (a.f == b.f) = true := by rw [beq_iff_eq]; exact of_decide_eq_true h2
      cases h3 : decide (a.t = b.t) with
      | false =>
        have E := Lib.hid (show eqM a b = false by unfold eqM; simp [h3])
        have g3 : (a.t == b.t) = false := by rw [beq_eq_false_iff_ne]; exact of_decide_eq_false h3
        clear h1 h2 h3
        clear x3 y3 x4 y4 x5 y5 x6 y6 x7 y7 x8 y8 x9 y9 x10 y10 x11 y11 x12 y12 x13 y13 x14 y14 x15 y15 x16 y16 x17 y17 x18 y18 x19 y19
        go_enter Try.func49, Try.ntmps49
        go_wp2_with fail
        go_ret
        exact ⟨by rw [E.out]; rfl, K0.out⟩
      | true =>
        have g3 : (a.t == b.t) = true := by rw [beq_iff_eq]; exact of_decide_eq_true h3
        cases h4 : decide (a.b = b.b) with
        | false =>
          have E := Lib.hid (show eqM a b = false by unfold eqM; simp [h4])
          have g4 : (a.b == b.b) = false := by rw [beq_eq_false_iff_ne]; exact of_decide_eq_false h4
          clear h1 h2 h3 h4
          clear x4 y4 x5 y5 x6 y6 x7 y7 x8 y8 x9 y9 x10 y10 x11 y11 x12 y12 x13 y13 x14 y14 x15 y15 x16 y16 x17 y17 x18 y18 x19 y19
          go_enter Try.func49, Try.ntmps49
          go_wp2_with fail
          go_ret
          exact ⟨by rw [E.out]; rfl, K0.out⟩
        | true =>
          have g4 : (a.b == b.b) = true := by rw [beq_iff_eq]; exact of_decide_eq_true h4
          cases h5 : decide (a.s = b.s) with
          | false =>
            have E := Lib.hid (show eqM a b = false by unfold eqM; simp [h5])
            have g5 : (a.s == b.s) = false := by rw [beq_eq_false_iff_ne]; exact of_decide_eq_false h5
            clear h1 h2 h3 h4 h5
            clear x5 y5 x6 y6 x7 y7 x8 y8 x9 y9 x10 y10 x11 y11 x12 y12 x13 y13 x14 y14 x15 y15 x16 y16 x17 y17 x18 y18 x19 y19
            go_enter Try.func49, Try.ntmps49
            go_wp2_with fail
            go_ret
            exact ⟨by rw [E.out]; rfl, K0.out⟩
          | true =>
            have g5 : (a.s == b.s) = true := by rw [beq_iff_eq]; exact of_decide_eq_true h5
            cases h6 : decide (a.r = b.r) with
            | false =>
              have E := Lib.hid (show eqM a b = false by unfold eqM; simp [h6])
              have g6 : (a.r == b.r) = false := by rw [beq_eq_false_iff_ne]; exact of_decide_eq_false h6
              clear h1 h2 h3 h4 h5 h6
              clear x6 y6 x7 y7 x8 y8 x9 y9 x10 y10 x11 y11 x12 y12 x13 y13 x14 y14 x15 y15 x16 y16 x17 y17 x18 y18 x19 y19
              go_enter Try.func49, Try.ntmps49
              go_wp2_with fail
              go_ret
              exact ⟨by rw [E.out]; rfl, K0.out⟩
            | true =>
              have g6 : (a.r == b.r) = true := by rw [beq_iff_eq]; exact of_decide_eq_true h6
              cases h7 : decide (a.z = b.z) with
              | false =>
                have E := Lib.hid (show eqM a b = false by unfold eqM; simp [h7])
                have g7 : (a.z == b.z) = false := by rw [beq_eq_false_iff_ne]; exact of_decide_eq_false h7
                clear h1 h2 h3 h4 h5 h6 h7
                clear x7 y7 x8 y8 x9 y9 x10 y10 x11 y11 x12 y12 x13 y13 x14 y14 x15 y15 x16 y16 x17 y17 x18 y18 x19 y19
                go_enter Try.func49, Try.ntmps49
                go_wp2_with fail
                go_ret
                exact ⟨by rw [E.out]; rfl, K0.out⟩
              | true =>
                have g7 : (a.z == b.z) = true := by rw [beq_iff_eq]; exact of_decide_eq_true h7
                cases h8 : decide (a.e = b.e) with
                | false =>
                  have E := Lib.hid (show eqM a b = false by unfold eqM; simp [h8])
                  have g8 : (a.e == b.e) = false := by rw [beq_eq_false_iff_ne]; exact of_decide_eq_false h8
                  clear h1 h2 h3 h4 h5 h6 h7 h8
                  clear x8 y8 x9 y9 x10 y10 x11 y11 x12 y12 x13 y13 x14 y14 x15 y15 x16 y16 x17 y17 x18 y18 x19 y19
                  go_enter Try.func49, Try.ntmps49
                  go_wp2_with fail
                  go_ret
                  exact ⟨by rw [E.out]; rfl, K0.out⟩
                | true =>
                  have g8 : (a.e == b.e) = true := by rw [beq_iff_eq]; exact of_decide_eq_true h8
                  have EM := Lib.hid (show eqM a b = (eqEs a.es b.es && (eqC a.c b.c && (eqR a.p b.p && decide (a.x = b.x)))) by unfold eqM; rw [h1, h2, h3, h4, h5, h6, h7, h8]; simp only [Bool.true_and])
                  have qc := fun w => eql52' w a.c b.c
                  have qr := fun w => eql77 w a.p b.p
                  clear h1 h2 h3 h4 h5 h6 h7 h8
                  clear x9 y9 x10 y10 x11 y11 x12 y12 x13 y13 x14 y14 x15 y15 x16 y16 x17 y17 x18 y18 x19 y19
                  go_enter Try.func49, Try.ntmps49
                  go_wp2_with fail
                  refine HE.out.mono ?_
                  rintro e w5 ⟨rfl, hk5⟩
                  have K5 := Lib.hid (K0.out.then hk5)
                  have X5 := XH.out.keep hk5 (fun h => h)
                  have Y5 := YH.out.keep hk5 (fun h => h)
                  clear hk5 x0 x1 x2 x3 x4 x5 x6 x7 x8 y0 y1 y2 y3 y4 y5 y6 y7 y8 g1 g2 g3 g4 g5 g6 g7 g8
                  have x9 := X5.cell 9
                  have x10 := X5.cell 10
                  have x11 := X5.cell 11
                  have x12 := X5.cell 12
                  have x13 := X5.cell 13
                  have x14 := X5.cell 14
                  have x15 := X5.cell 15
                  have x16 := X5.cell 16
                  have x17 := X5.cell 17
                  have x18 := X5.cell 18
                  have x19 := X5.cell 19
                  have y9 := Y5.cell 9
                  have y10 := Y5.cell 10
                  have y11 := Y5.cell 11
                  have y12 := Y5.cell 12
                  have y13 := Y5.cell 13
                  have y14 := Y5.cell 14
                  have y15 := Y5.cell 15
                  have y16 := Y5.cell 16
                  have y17 := Y5.cell 17
                  have y18 := Y5.cell 18
                  have y19 := Y5.cell 19
                  clear X5 Y5
                  have qx := toList_iff' a.x b.x
                  cases h9 : eqEs a.es b.es with
                  | false =>
                    have E := Lib.hid (show eqM a b = false by rw [EM.out, h9]; rfl)
                    clear h9 qc qr qx
                    go_wp2_with fail
                    go_ret
                    exact ⟨by rw [E.out]; rfl, K5.out⟩
                  | true =>
                    cases h10 : eqC a.c b.c with
                    | false =>
                      have E := Lib.hid (show eqM a b = false by rw [EM.out, h9, h10]; rfl)
                      rw [h10] at qc
                      clear h9 h10 qr qx
                      go_wp2_with fail
                      go_ret
                      exact ⟨by rw [E.out]; rfl, K5.out⟩
                    | true =>
                      rw [h10] at qc
                      cases h11 : eqR a.p b.p with
                      | false =>
                        have E := Lib.hid (show eqM a b = false by rw [EM.out, h9, h10, h11]; rfl)
                        rw [h11] at qr
                        clear h9 h10 h11 qx
                        go_wp2_with fail
                        go_ret
                        exact ⟨by rw [E.out]; rfl, K5.out⟩
                      | true =>
                        rw [h11] at qr
                        have E := Lib.hid (show eqM a b = decide (a.x = b.x) by rw [EM.out, h9, h10, h11]; rfl)
                        clear h9 h10 h11
                        go_wp2_with fail
                        go_ret
                        exact ⟨by rw [E.out]; simp [qx], K5.out⟩
end Go.Proofs.Ytjojibgihoebaaa.A
