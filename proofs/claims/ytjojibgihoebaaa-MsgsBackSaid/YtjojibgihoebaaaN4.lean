/-
  Messages: may one be (the reference's).
-/
import Derived.Test.YtjojibgihoebaaaN3
namespace Go.Proofs.Ytjojibgihoebaaa.A
open Go.RowKit Go.Proofs.Ytjojibgihoebaaa.U
set_option linter.unusedVariables false
set_option linter.unusedSimpArgs false
set_option maxRecDepth 100000

theorem rwithin_calls (w : World) (n lo hi : Int) : Calls Try.prog 65 #[.int .i64 n, .int .i64 lo, .int .i64 hi] w (fun e w' => e = .returned (.bool (inB n lo hi)) ∧ w' = w) := by
  have E := show inB n lo hi = (decide (lo ≤ n) && decide (n ≤ hi)) by unfold inB; rw [Bool.decide_and]
  rw [E]
  cases h1 : decide (lo ≤ n) with
  | false =>
    go_enter Try.func65, Try.ntmps65
    go_wp2_with fail
    go_ret
    exact ⟨rfl, rfl⟩
  | true =>
    go_enter Try.func65, Try.ntmps65
    go_wp2_with fail
    go_ret
    exact ⟨by simp, rfl⟩
set_option maxHeartbeats 12800000 in
theorem mrmay_calls (w : World) (m : Msg) (A : Option Addr) (c : Nat) (hs : U.Src w A 7 m.es.length (ents m.es)) (hlen : m.es.length ≤ 4611686018427387904) :
    Calls Try.prog 63 #[mval m A c] w (fun e w' => e = .returned (.bool (mayM m)) ∧ Keep Nothing w w') := by
  have hu := Try.underlying79
  have hu77 := Try.underlying77
  have hu54 := Try.underlying54
  have hu52 := Try.underlying52
  have HS := Lib.hid hs
  have X := Blk.fresh w 79 (mcs m A c)
  have K0 := Lib.hid ((Keep.same Nothing w).alloc (.cells (mcs m A c) 79))
  have HI := Lib.hid rwithin_calls
  have HC := Lib.hid (show ∀ w, Calls Try.prog 38 #[.agg #[.int .i64 m.c.k, .int .i64 m.c.s, .int .i64 m.c.q, .string m.c.nm, .int .i64 m.c.n]] w (maySpec m.c w) from fun w => rmay_calls w m.c)
  unfold maySpec at HC
  have x0 := X.cell 0
  have x1 := X.cell 1
  have x2 := X.cell 2
  have x3 := X.cell 3
  have x4 := X.cell 4
  have x5 := X.cell 5
  have x6 := X.cell 6
  have x7 := X.cell 7
  have x8 := X.cell 8
  have x9 := X.cell 9
  have x10 := X.cell 10
  have x11 := X.cell 11
  have x12 := X.cell 12
  have x13 := X.cell 13
  have XH := Lib.hid X
  clear hs X
  go_enter Try.func63, Try.ntmps63
  go_wp2_with fail
  refine (HI.out _ m.k 1 15).mono ?_
  rintro e w' ⟨rfl, rfl⟩
  cases h1 : inB m.k 1 15 with
  | false =>
    have E := Lib.hid (show mayM m = false by unfold mayM; simp [spansL, repliesL, Sp.ok, h1])
    go_wp2_with fail
    go_ret
    exact ⟨by rw [E.out]; rfl, K0.out⟩
  | true =>
    go_wp2_with fail
    refine (HI.out _ m.f 0 12).mono ?_
    rintro e w' ⟨rfl, rfl⟩
    cases h2 : inB m.f 0 12 with
    | false =>
      have E := Lib.hid (show mayM m = false by unfold mayM; simp [spansL, repliesL, Sp.ok, h2])
      go_wp2_with fail
      go_ret
      exact ⟨by rw [E.out]; rfl, K0.out⟩
    | true =>
      go_wp2_with fail
      refine (HI.out _ m.t 0 12).mono ?_
      rintro e w' ⟨rfl, rfl⟩
      cases h3 : inB m.t 0 12 with
      | false =>
        have E := Lib.hid (show mayM m = false by unfold mayM; simp [spansL, repliesL, Sp.ok, h3])
        go_wp2_with fail
        go_ret
        exact ⟨by rw [E.out]; rfl, K0.out⟩
      | true =>
        go_wp2_with fail
        refine (HI.out _ m.b 0 1099511627776).mono ?_
        rintro e w' ⟨rfl, rfl⟩
        cases h4 : inB m.b 0 1099511627776 with
        | false =>
          have E := Lib.hid (show mayM m = false by unfold mayM; simp [spansL, repliesL, Sp.ok, h4])
          go_wp2_with fail
          go_ret
          exact ⟨by rw [E.out]; rfl, K0.out⟩
        | true =>
          go_wp2_with fail
          refine (HI.out _ m.s (-1) 1099511627776).mono ?_
          rintro e w' ⟨rfl, rfl⟩
          cases h5 : inB m.s (-1) 1099511627776 with
          | false =>
            have E := Lib.hid (show mayM m = false by unfold mayM; simp [spansL, repliesL, Sp.ok, h5])
            go_wp2_with fail
            go_ret
            exact ⟨by rw [E.out]; rfl, K0.out⟩
          | true =>
            go_wp2_with fail
            refine (HI.out _ m.r 0 1099511627776).mono ?_
            rintro e w' ⟨rfl, rfl⟩
            cases h6 : inB m.r 0 1099511627776 with
            | false =>
              have E := Lib.hid (show mayM m = false by unfold mayM; simp [spansL, repliesL, Sp.ok, h6])
              go_wp2_with fail
              go_ret
              exact ⟨by rw [E.out]; rfl, K0.out⟩
            | true =>
              go_wp2_with fail
              refine (HI.out _ m.z 0 1073741824).mono ?_
              rintro e w' ⟨rfl, rfl⟩
              cases h7 : inB m.z 0 1073741824 with
              | false =>
                have E := Lib.hid (show mayM m = false by unfold mayM; simp [spansL, repliesL, Sp.ok, h7])
                go_wp2_with fail
                go_ret
                exact ⟨by rw [E.out]; rfl, K0.out⟩
              | true =>
                go_wp2_with fail
                refine (HI.out _ m.e 0 255).mono ?_
                rintro e w' ⟨rfl, rfl⟩
                cases h8 : inB m.e 0 255 with
                | false =>
                  have E := Lib.hid (show mayM m = false by unfold mayM; simp [spansL, repliesL, Sp.ok, h8])
                  go_wp2_with fail
                  go_ret
                  exact ⟨by rw [E.out]; rfl, K0.out⟩
                | true =>
                  by_cases hl : m.es.length ≤ 4096
                  · have h9 : inB (m.es.length : Int) 0 4096 = true := by unfold inB; exact decide_eq_true ⟨by omega, by omega⟩
                    have hl2 : decide (4096 < (m.es.length : Int)) = false := decide_eq_false (by omega)
                    go_wp2_with fail
                    refine (HC.out _).mono ?_
                    rintro e w5 ⟨rfl, hk5⟩
                    have K5 := Lib.hid (K0.out.then hk5)
                    have X5 := XH.out.keep hk5 (fun h => h)
                    have y8 := X5.cell 8
                    have y14 := X5.cell 14
                    have y15 := X5.cell 15
                    have y16 := X5.cell 16
                    have y17 := X5.cell 17
                    have y18 := X5.cell 18
                    have y19 := X5.cell 19
                    have hk5' := Lib.hid hk5
                    clear hk5 X5 x0 x1 x2 x3 x4 x5 x6 x7 x8 x9 x10 x11 x12 x13
                    cases h10 : mayB m.c with
                    | false =>
                      have E := Lib.hid (show mayM m = false by unfold mayM; simp [spansL, repliesL, Sp.ok, h10])
                      go_wp2_with fail
                      go_ret
                      exact ⟨by rw [E.out]; rfl, K5.out⟩
                    | true =>
                      by_cases hx : m.x.size ≤ 524288
                      · have hx2 : decide (524288 < (m.x.size : Int)) = false := decide_eq_false (by omega)
                        have hx3 : decide (m.x.size ≤ 524288) = true := decide_eq_true hx
                        have K6 := Lib.hid (K5.out.alloc (.cells (rcs m.p) 77))
                        have XA := (XH.out.keep hk5'.out (fun h => h)).alloc (.cells (rcs m.p) 77)
                        have y8' := XA.cell 8
                        clear XA
                        go_wp2_with fail
                        refine (HI.out _ m.p.s 0 1073741824).mono ?_
                        rintro e w' ⟨rfl, rfl⟩
                        cases h11 : inB m.p.s 0 1073741824 with
                        | false =>
                          have E := Lib.hid (show mayM m = false by unfold mayM; simp [spansL, repliesL, Sp.ok, h11])
                          go_wp2_with fail
                          go_ret
                          exact ⟨by rw [E.out]; rfl, K6.out⟩
                        | true =>
                          go_wp2_with fail
                          refine (HI.out _ m.p.q 0 1073741824).mono ?_
                          rintro e w' ⟨rfl, rfl⟩
                          cases h12 : inB m.p.q 0 1073741824 with
                          | false =>
                            have E := Lib.hid (show mayM m = false by unfold mayM; simp [spansL, repliesL, Sp.ok, h12])
                            go_wp2_with fail
                            go_ret
                            exact ⟨by rw [E.out]; rfl, K6.out⟩
                          | true =>
                            go_wp2_with fail
                            refine (HI.out _ m.p.e 0 255).mono ?_
                            rintro e w' ⟨rfl, rfl⟩
                            cases h13 : inB m.p.e 0 255 with
                            | false =>
                              have E := Lib.hid (show mayM m = false by unfold mayM; simp [spansL, repliesL, Sp.ok, h13])
                              go_wp2_with fail
                              go_ret
                              exact ⟨by rw [E.out]; rfl, K6.out⟩
                            | true =>
                              go_wp2_with fail
                              refine (HI.out _ m.p.n 0 1073741824).mono ?_
                              rintro e w' ⟨rfl, rfl⟩
                              cases h14 : inB m.p.n 0 1073741824 with
                              | false =>
                                have E := Lib.hid (show mayM m = false by unfold mayM; simp [spansL, repliesL, Sp.ok, h14])
                                go_wp2_with fail
                                go_ret
                                exact ⟨by rw [E.out]; rfl, K6.out⟩
                              | true =>
                                have EM := Lib.hid (show mayM m = m.es.all entB by unfold mayM; simp [spansL, repliesL, Sp.ok, h1, h2, h3, h4, h5, h6, h7, h8, h9, h10, hx3, h11, h12, h13, h14])
                                clear h1 h2 h3 h4 h5 h6 h7 h8 h9 h10 hx3 h11 h12 h13 h14 y14 y15 y16 y17 y18 y19
                                go_wp2_with fail
                                go_loopw [4] (fun v wr => ∃ k : Nat, k ≤ m.es.length ∧ v = .int .i64 k ∧ Hid (m.es.all entB = (m.es.drop k).all entB) ∧ Hid (Keep Nothing (w5.alloc (.cells (rcs m.p) 77)) wr)) (fun v _ => m.es.length - (intOf v).toNat)
                                case atStart => exact ⟨0, by omega, by simp, Lib.hid rfl, Lib.hid (Keep.same _ _)⟩
                                case round =>
                                  obtain ⟨k, hk, rfl, hok, hkp⟩ := hrel
                                  have KW := Lib.hid (K6.out.then hkp.out)
                                  have z8 := hkp.out.cell y8' (fun h => h)
                                  by_cases hlt : k < m.es.length
                                  · obtain ⟨ad, x, rfl, hx1, hat⟩ := ent_at HS.out hlt
                                    obtain ⟨c0, c1, c2, c3, c4, c5, c6⟩ := hat.keep KW.out (fun h => h)
                                    have HO := Lib.hid (hok.out.trans (entB_all hx1))
                                    have HE := Lib.hid (show ∀ w, Calls Try.prog 58 #[.agg (ecs x)] w (fun e w' => e = .returned (.bool (entB x)) ∧ Keep Nothing w w') from fun w => rentry_calls w x)
                                    clear hx1 hat hok
                                    go_wp2_with fail
                                    refine (HE.out _).mono ?_
                                    rintro e w8 ⟨rfl, hk8⟩
                                    have K8 := Lib.hid (hkp.out.then hk8)
                                    have K9 := Lib.hid (KW.out.then hk8)
                                    clear hk8
                                    cases heb : entB x with
                                    | false =>
                                      have E := Lib.hid (show mayM m = false by rw [EM.out, HO.out, heb]; rfl)
                                      clear heb
                                      go_wp2_with fail
                                      go_ret
                                      exact ⟨by rw [E.out]; rfl, K9.out⟩
                                    | true =>
                                      rw [heb, Bool.true_and] at HO
                                      clear heb
                                      go_wp2_with fail
                                      go_roundw
                                      case rel => exact ⟨k + 1, by omega, by go_num, HO, K8⟩
                                      case measure => simp [intOf]; omega
                                  · have hke : k = m.es.length := by omega
                                    have E := Lib.hid (show mayM m = true by rw [EM.out, hok.out, hke, List.drop_length]; rfl)
                                    clear hok
                                    subst hke
                                    go_wp2_with fail
                                    go_ret
                                    exact ⟨by rw [E.out]; rfl, KW.out⟩
                      · have hx2 : decide (524288 < (m.x.size : Int)) = true := decide_eq_true (by omega)
                        have E := Lib.hid (show mayM m = false by unfold mayM; simp [decide_eq_false hx])
                        go_wp2_with fail
                        go_ret
                        exact ⟨by rw [E.out]; rfl, K5.out⟩
                  · have hl2 : decide (4096 < (m.es.length : Int)) = true := decide_eq_true (by omega)
                    have h9 : inB (m.es.length : Int) 0 4096 = false := by unfold inB; exact decide_eq_false (by omega)
                    have E := Lib.hid (show mayM m = false by unfold mayM; simp [spansL, repliesL, Sp.ok, h9])
                    go_wp2_with fail
                    go_ret
                    exact ⟨by rw [E.out]; rfl, K0.out⟩
end Go.Proofs.Ytjojibgihoebaaa.A
