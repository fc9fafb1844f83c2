/-
  Same (the reference's) on two equal states; an acceptor that is none.
-/
import Derived.Test.YtnbllckmeehhjaaO
namespace Go.Proofs.Ytnbllckmeehhjaa.A
open Go.RowKit Go.Proofs.Ytnbllckmeehhjaa.U
set_option linter.unusedVariables false
set_option linter.unusedSimpArgs false
set_option maxRecDepth 100000

set_option maxHeartbeats 6400000 in
theorem same13 (w : World) (D : DS) (A A' : Option Addr) (c c' : Nat) (h : U.Src w A 7 D.es.length (ents D.es)) (h' : U.Src w A' 7 D.es.length (ents D.es)) (hL : D.es.length ≤ 1000000) :
    Calls Try.prog 13 #[dval D A c, dval D A' c'] w (fun e w' => e = .returned (.bool true) ∧ Keep Nothing w w') := by
  have hu := Try.underlying24
  have hu37 := Try.underlying37
  have hm := toList_iff D.sn D.sn
  rw [decide_eq_true rfl] at hm
  have X0 := (Blk.fresh w 24 #[.int .i64 D.pr, .int .i64 D.ba, .string D.sn, .slice A D.es.length c]).alloc (.cells #[.int .i64 D.pr, .int .i64 D.ba, .string D.sn, .slice A' D.es.length c'] 24)
  have Y0 := Blk.fresh (w.alloc (.cells #[.int .i64 D.pr, .int .i64 D.ba, .string D.sn, .slice A D.es.length c] 24)) 24 #[.int .i64 D.pr, .int .i64 D.ba, .string D.sn, .slice A' D.es.length c']
  rw [size_alloc] at Y0
  have K0 := ((Keep.same Nothing w).alloc (.cells #[.int .i64 D.pr, .int .i64 D.ba, .string D.sn, .slice A D.es.length c] 24)).alloc (.cells #[.int .i64 D.pr, .int .i64 D.ba, .string D.sn, .slice A' D.es.length c'] 24)
  have K := Lib.hid K0
  have S1 := Lib.hid (src_keptE h K0)
  have S2 := Lib.hid (src_keptE h' K0)
  have x0 := X0.cell 0
  have x1 := X0.cell 1
  have x2 := X0.cell 2
  have x3 := X0.cell 3
  have y0 := Y0.cell 0
  have y1 := Y0.cell 1
  have y2 := Y0.cell 2
  have y3 := Y0.cell 3
  clear X0 Y0 K0 h h'
  go_enter Try.func13, Try.ntmps13
  go_wp2_with fail
  go_loopw [5] (fun v wr => Drew ((w.alloc (.cells #[.int .i64 D.pr, .int .i64 D.ba, .string D.sn, .slice A D.es.length c] 24)).alloc (.cells #[.int .i64 D.pr, .int .i64 D.ba, .string D.sn, .slice A' D.es.length c'] 24)) wr ∧ ∃ k : Nat, k ≤ D.es.length ∧ v = .int .i64 k) (fun v _ => D.es.length - (intOf v).toNat)
  case atStart => exact ⟨Drew.same _, 0, by omega, by simp⟩
  case round =>
    obtain ⟨⟨nd, rfl⟩, k, hk, rfl⟩ := hrel
    by_cases hlt : k < D.es.length
    · obtain ⟨ad, y, rfl, hy, c0, c1, c2, c3, c4, c5, c6⟩ := ent_at S1.out hlt
      obtain ⟨ad', y', rfl, hy', c0', c1', c2', c3', c4', c5', c6'⟩ := ent_at S2.out hlt
      rw [hy] at hy'
      injection hy' with hy'
      subst hy'
      have hq := fun w => neqE w y y
      simp only [eqE_same, Bool.not_true] at hq
      unfold Ent.cs at hq
      clear hy
      go_wp2_with fail
      go_quiet (fail)
      go_wp2_with fail
      go_roundw
      case rel => exact ⟨(Drew.same _).more _, k + 1, by omega, by go_num⟩
      case measure => simp [intOf]; omega
    · go_wp2_with fail
      go_ret
      exact ⟨rfl, K.out.drewN _⟩
theorem refuses_none (w : World) (x : Int) : Calls Try.prog 27 #[.pointer none, .int .i64 x] w (fun e w' => e = .returned (.bool true) ∧ w' = w) := by
  go_enter Try.func27, Try.ntmps27
  go_wp2_with fail
  go_ret
  exact ⟨rfl, rfl⟩
theorem promised_none (w : World) : Calls Try.prog 16 #[.pointer none] w (fun e w' => e = .returned (.int .i64 0) ∧ w' = w) := by
  go_enter Try.func16, Try.ntmps16
  go_wp2_with fail
  go_ret
  exact ⟨rfl, rfl⟩
theorem from_none' (w : World) (x : Int) : Calls Try.prog 17 #[.pointer none, .int .i64 x] w (fun e w' => e = .returned (.slice none 0 0) ∧ Keep Nothing w w') := by
  go_enter Try.func17, Try.ntmps17
  go_wp2_with fail
  go_ret
  exact ⟨rfl, (Keep.same _ _).alloc _⟩
theorem cut_none (w : World) (x : Int) (s : ByteArray) : Calls Try.prog 23 #[.pointer none, .int .i64 x, .string s] w (fun e w' => e = .returned (.tuple #[]) ∧ Keep Nothing w w') := by
  go_enter Try.func23, Try.ntmps23
  go_wp2_with fail
  go_quiet (fail)
  go_wp2_with fail
  refine bodyPost_ret (results_none (by rfl) _ _ _) rfl ?_
  exact ⟨rfl, ((Keep.same _ _).alloc _).drewN _⟩
theorem durable_none (w : World) : Calls Try.prog 15 #[.pointer none] w (fun e w' => e = .returned (dval zD none 0) ∧ Keep Nothing w w') := by
  have hu := Try.underlying24
  have B := Blk.fresh w 24 zd4
  have p0 := B.cell 0
  have p1 := B.cell 1
  have p2 := B.cell 2
  have p3 := B.cell 3
  go_enter Try.func15, Try.ntmps15
  go_wp2_with fail
  refine bodyPost_ret (v := dval zD none 0) (by simp [results, Try.results15, go_sem, hu, p0, p1, p2, p3]) rfl ?_
  exact ⟨rfl, (Keep.same _ _).alloc _⟩
theorem prepare_none (w : World) (x : Int) : Calls Try.prog 11 #[.pointer none, .int .i64 x] w (fun e w' => e = .returned (.tuple #[outV none 0 0, .bool false]) ∧ Keep Nothing w w') := by
  have hu := Try.underlying33
  have B := Blk.fresh w 33 zo4
  have p0 := B.cell 0
  have p1 := B.cell 1
  have p2 := B.cell 2
  have p3 := B.cell 3
  go_enter Try.func11, Try.ntmps11
  go_wp2_with fail
  refine (refuses_none _ _).mono ?_
  rintro e w' ⟨rfl, rfl⟩
  go_wp2_with fail
  refine bodyPost_ret (v := .tuple #[outV none 0 0, .bool false]) (by simp [results, Try.results11, go_sem, hu, p0, p1, p2, p3]) rfl ?_
  exact ⟨rfl, (Keep.same _ _).alloc _⟩
theorem accept_none (w : World) (x : Int) (e : Ent) : Calls Try.prog 12 #[.pointer none, .int .i64 x, e.val] w (fun e w' => e = .returned (.tuple #[outV none 0 0, .bool false]) ∧ Keep Nothing w w') := by
  have hu := Try.underlying33
  have hu37 := Try.underlying37
  have B' := Blk.fresh (w.alloc (.cells e.cs 37)) 33 zo4
  rw [size_alloc] at B'
  unfold Ent.cs at B'
  have p0 := B'.cell 0
  have p1 := B'.cell 1
  have p2 := B'.cell 2
  have p3 := B'.cell 3
  clear B'
  unfold Ent.val Ent.cs
  go_enter Try.func12, Try.ntmps12
  go_wp2_with fail
  refine (refuses_none _ _).mono ?_
  rintro e2 w' ⟨rfl, rfl⟩
  go_wp2_with fail
  refine bodyPost_ret (v := .tuple #[outV none 0 0, .bool false]) (by simp [results, Try.results12, go_sem, hu, p0, p1, p2, p3]) rfl ?_
  exact ⟨rfl, ((Keep.same _ _).alloc _).alloc _⟩
theorem at_none (w : World) (s : Int) : Calls Try.prog 18 #[.pointer none, .int .i64 s] w (fun e w' => e = .returned (.tuple #[.agg zes, .bool false]) ∧ Keep Nothing w w') := by
  have hu := Try.underlying37
  have B' := Blk.fresh (w.alloc (.cells #[.int .i64 s] 3)) 37 zes
  rw [size_alloc] at B'
  have p0 := B'.cell 0
  have p1 := B'.cell 1
  have p2 := B'.cell 2
  have p3 := B'.cell 3
  have p4 := B'.cell 4
  have p5 := B'.cell 5
  have p6 := B'.cell 6
  clear B'
  go_enter Try.func18, Try.ntmps18
  go_wp2_with fail
  refine bodyPost_ret (v := .tuple #[.agg zes, .bool false]) (by simp [results, Try.results18, go_sem, hu, p0, p1, p2, p3, p4, p5, p6]) rfl ?_
  exact ⟨rfl, ((Keep.same _ _).alloc _).alloc _⟩
end Go.Proofs.Ytnbllckmeehhjaa.A
