/-
  durable: clone, folder, Fold.
-/
import Derived.Test.YtnbllckmeehhjaaD
namespace Go.Proofs.Ytnbllckmeehhjaa.U
open Go.RowKit
set_option linter.unusedVariables false
theorem store4 {w : World} {g t : Nat} {c0 c1 c2 c3 : Value} (B : Blk w g t #[c0, c1, c2, c3]) (v0 v1 v2 v3 : Value) :
    w.cell? ⟨g, 0, none⟩ = some c0 ∧
    w.frozen? ⟨g, 0, none⟩ = false ∧
    (w.setCell ⟨g, 0, none⟩ v0).cell? ⟨g, 1, none⟩ = some c1 ∧
    (w.setCell ⟨g, 0, none⟩ v0).frozen? ⟨g, 1, none⟩ = false ∧
    ((w.setCell ⟨g, 0, none⟩ v0).setCell ⟨g, 1, none⟩ v1).cell? ⟨g, 2, none⟩ = some c2 ∧
    ((w.setCell ⟨g, 0, none⟩ v0).setCell ⟨g, 1, none⟩ v1).frozen? ⟨g, 2, none⟩ = false ∧
    (((w.setCell ⟨g, 0, none⟩ v0).setCell ⟨g, 1, none⟩ v1).setCell ⟨g, 2, none⟩ v2).cell? ⟨g, 3, none⟩ = some c3 ∧
    (((w.setCell ⟨g, 0, none⟩ v0).setCell ⟨g, 1, none⟩ v1).setCell ⟨g, 2, none⟩ v2).frozen? ⟨g, 3, none⟩ = false ∧
    ((((w.setCell ⟨g, 0, none⟩ v0).setCell ⟨g, 1, none⟩ v1).setCell ⟨g, 2, none⟩ v2).setCell ⟨g, 3, none⟩ v3).cell? ⟨g, 0, none⟩ = some v0 ∧
    ((((w.setCell ⟨g, 0, none⟩ v0).setCell ⟨g, 1, none⟩ v1).setCell ⟨g, 2, none⟩ v2).setCell ⟨g, 3, none⟩ v3).cell? ⟨g, 1, none⟩ = some v1 ∧
    ((((w.setCell ⟨g, 0, none⟩ v0).setCell ⟨g, 1, none⟩ v1).setCell ⟨g, 2, none⟩ v2).setCell ⟨g, 3, none⟩ v3).cell? ⟨g, 2, none⟩ = some v2 ∧
    ((((w.setCell ⟨g, 0, none⟩ v0).setCell ⟨g, 1, none⟩ v1).setCell ⟨g, 2, none⟩ v2).setCell ⟨g, 3, none⟩ v3).cell? ⟨g, 3, none⟩ = some v3 ∧
    (w.setCell ⟨g, 0, none⟩ v0).cell? ⟨g, 0, none⟩ = some v0 ∧
    ((w.setCell ⟨g, 0, none⟩ v0).setCell ⟨g, 1, none⟩ v1).cell? ⟨g, 1, none⟩ = some v1 ∧
    (((w.setCell ⟨g, 0, none⟩ v0).setCell ⟨g, 1, none⟩ v1).setCell ⟨g, 2, none⟩ v2).cell? ⟨g, 2, none⟩ = some v2 := by
  have B0 := B
  have B1 : Blk (w.setCell ⟨g, 0, none⟩ v0) g t #[v0, c1, c2, c3] := B0.put 0 v0
  have B2 : Blk ((w.setCell ⟨g, 0, none⟩ v0).setCell ⟨g, 1, none⟩ v1) g t #[v0, v1, c2, c3] := B1.put 1 v1
  have B3 : Blk (((w.setCell ⟨g, 0, none⟩ v0).setCell ⟨g, 1, none⟩ v1).setCell ⟨g, 2, none⟩ v2) g t #[v0, v1, v2, c3] := B2.put 2 v2
  have B4 : Blk ((((w.setCell ⟨g, 0, none⟩ v0).setCell ⟨g, 1, none⟩ v1).setCell ⟨g, 2, none⟩ v2).setCell ⟨g, 3, none⟩ v3) g t #[v0, v1, v2, v3] := B3.put 3 v3
  exact ⟨B0.cell 0, B0.free 0, B1.cell 1, B1.free 1, B2.cell 2, B2.free 2, B3.cell 3, B3.free 3, B4.cell 0, B4.cell 1, B4.cell 2, B4.cell 3, B1.cell 0, B2.cell 1, B3.cell 2⟩
theorem held4 {B : Nat} {w0 w : World} {Q : SP} {g t : Nat} {c0 c1 c2 c3 : Value} (h : Holds B w0 w (star (blkP g t #[c0, c1, c2, c3]) Q)) (hQ : Stable Q) (v0 v1 v2 v3 : Value) : Holds B w0 ((((w.setCell ⟨g, 0, none⟩ v0).setCell ⟨g, 1, none⟩ v1).setCell ⟨g, 2, none⟩ v2).setCell ⟨g, 3, none⟩ v3) (star (blkP g t #[v0, v1, v2, v3]) Q) := by
  have h0 := h
  have h1 : Holds B w0 (w.setCell ⟨g, 0, none⟩ v0) (star (blkP g t #[v0, c1, c2, c3]) Q) := h0.setBlk hQ 0 v0
  have h2 : Holds B w0 ((w.setCell ⟨g, 0, none⟩ v0).setCell ⟨g, 1, none⟩ v1) (star (blkP g t #[v0, v1, c2, c3]) Q) := h1.setBlk hQ 1 v1
  have h3 : Holds B w0 (((w.setCell ⟨g, 0, none⟩ v0).setCell ⟨g, 1, none⟩ v1).setCell ⟨g, 2, none⟩ v2) (star (blkP g t #[v0, v1, v2, c3]) Q) := h2.setBlk hQ 2 v2
  have h4 : Holds B w0 ((((w.setCell ⟨g, 0, none⟩ v0).setCell ⟨g, 1, none⟩ v1).setCell ⟨g, 2, none⟩ v2).setCell ⟨g, 3, none⟩ v3) (star (blkP g t #[v0, v1, v2, v3]) Q) := h3.setBlk hQ 3 v3
  exact h4
theorem blks4 {w : World} {g t : Nat} {c0 c1 c2 c3 : Value} (B : Blk w g t #[c0, c1, c2, c3]) (v0 v1 v2 v3 : Value) : Blk ((((w.setCell ⟨g, 0, none⟩ v0).setCell ⟨g, 1, none⟩ v1).setCell ⟨g, 2, none⟩ v2).setCell ⟨g, 3, none⟩ v3) g t #[v0, v1, v2, v3] ∧ Keep (fun i => i = g) w ((((w.setCell ⟨g, 0, none⟩ v0).setCell ⟨g, 1, none⟩ v1).setCell ⟨g, 2, none⟩ v2).setCell ⟨g, 3, none⟩ v3) := by
  have B0 := B
  have k0 := Keep.same (fun i => i = g) w
  have B1 : Blk (w.setCell ⟨g, 0, none⟩ v0) g t #[v0, c1, c2, c3] := B0.put 0 v0
  have k1 : Keep (fun i => i = g) w (w.setCell ⟨g, 0, none⟩ v0) := k0.set (p := ⟨g, 0, none⟩) (.inl rfl) v0
  have B2 : Blk ((w.setCell ⟨g, 0, none⟩ v0).setCell ⟨g, 1, none⟩ v1) g t #[v0, v1, c2, c3] := B1.put 1 v1
  have k2 : Keep (fun i => i = g) w ((w.setCell ⟨g, 0, none⟩ v0).setCell ⟨g, 1, none⟩ v1) := k1.set (p := ⟨g, 1, none⟩) (.inl rfl) v1
  have B3 : Blk (((w.setCell ⟨g, 0, none⟩ v0).setCell ⟨g, 1, none⟩ v1).setCell ⟨g, 2, none⟩ v2) g t #[v0, v1, v2, c3] := B2.put 2 v2
  have k3 : Keep (fun i => i = g) w (((w.setCell ⟨g, 0, none⟩ v0).setCell ⟨g, 1, none⟩ v1).setCell ⟨g, 2, none⟩ v2) := k2.set (p := ⟨g, 2, none⟩) (.inl rfl) v2
  have B4 : Blk ((((w.setCell ⟨g, 0, none⟩ v0).setCell ⟨g, 1, none⟩ v1).setCell ⟨g, 2, none⟩ v2).setCell ⟨g, 3, none⟩ v3) g t #[v0, v1, v2, v3] := B3.put 3 v3
  have k4 : Keep (fun i => i = g) w ((((w.setCell ⟨g, 0, none⟩ v0).setCell ⟨g, 1, none⟩ v1).setCell ⟨g, 2, none⟩ v2).setCell ⟨g, 3, none⟩ v3) := k3.set (p := ⟨g, 3, none⟩) (.inl rfl) v3
  exact ⟨B4, k4⟩
end Go.Proofs.Ytnbllckmeehhjaa.U
namespace Go.Proofs.Ytnbllckmeehhjaa.A
open Go.RowKit Go.Proofs.Ytnbllckmeehhjaa.U
set_option linter.unusedVariables false
set_option linter.unusedSimpArgs false
set_option maxRecDepth 100000

abbrev dval (D : DS) (A : Option Addr) (c : Nat) : Value := .agg #[.int .i64 D.pr, .int .i64 D.ba, .string D.sn, .slice A D.es.length c]
def FreshD (D : DS) (w : World) (e : Ending) (w' : World) : Prop := ∃ A c, e = .returned (dval D A c) ∧ Row w' 37 7 (.slice A D.es.length c) D.es.length (ents D.es) ∧ Keep Nothing w w' ∧ ∀ k, (Value.slice A D.es.length c).ownBlock = some k → w.heap.size ≤ k
theorem src_keptE {w w' : World} {A : Option Addr} {s n : Nat} {xs : List Value} (h : U.Src w A s n xs) (hk : Keep Nothing w w') : U.Src w' A s n xs :=
  ⟨h.1, fun hn => let ⟨ad, e, hc⟩ := h.2 hn; ⟨ad, e, fun j u hu => hk.cell (hc j u hu) (fun h => h)⟩⟩
abbrev zd4 : Array Value := #[.int .i64 0, .int .i64 0, .string ⟨#[]⟩, .slice none 0 0]
set_option maxHeartbeats 3200000 in
theorem clone42 (w : World) (D : DS) (A : Option Addr) (c : Nat) (h : U.Src w A 7 D.es.length (ents D.es)) (hL : D.es.length ≤ 1000000) :
    Calls Try.prog 42 #[dval D A c] w (FreshD D w) := by
  have hu := Try.underlying24
  have X0 := (Blk.fresh w 24 #[.int .i64 D.pr, .int .i64 D.ba, .string D.sn, .slice A D.es.length c])
  have X1 := Lib.hid (X0.alloc (.cells zd4 24))
  have Y0 := Blk.fresh (w.alloc (.cells #[.int .i64 D.pr, .int .i64 D.ba, .string D.sn, .slice A D.es.length c] 24)) 24 zd4
  rw [show (w.alloc (.cells #[.int .i64 D.pr, .int .i64 D.ba, .string D.sn, .slice A D.es.length c] 24)).heap.size = w.heap.size + 1 by simp] at Y0
  have Y1 := Lib.hid Y0
  have K1 := Lib.hid (((Keep.same Nothing w).alloc (.cells #[.int .i64 D.pr, .int .i64 D.ba, .string D.sn, .slice A D.es.length c] 24)).alloc (.cells zd4 24))
  have HC := Lib.hid (clone_calls _ A D.es.length c D.es (src_keptE h K1.out) hL)
  have x3 := X1.out.cell 3
  clear X0 Y0 h
  go_enter Try.func42, Try.ntmps42
  go_wp2_with fail
  refine HC.out.mono ?_
  rintro e w3 ⟨A3, c3, rfl, hr3, hk3, ho3⟩
  have K3 := Lib.hid (K1.out.then hk3)
  have R3 := Lib.hid hr3
  have O3 := Lib.hid (show ∀ k, (Value.slice A3 D.es.length c3).ownBlock = some k → w.heap.size ≤ k ∧ k ≠ w.heap.size ∧ k ≠ w.heap.size + 1 from fun k hk => by
    have := ho3 k hk
    simp at this
    omega)
  have X3 := X1.out.keep hk3 (fun h => h)
  have Y3 := Y1.out.keep hk3 (fun h => h)
  have f3 := X3.free 3
  have x3' := X3.cell 3
  have X4 := X3.put 3 (.slice A3 D.es.length c3)
  have x40 := X4.cell 0
  have x41 := X4.cell 1
  have x42 := X4.cell 2
  have x43 := X4.cell 3
  have Y4 := Lib.hid (Y3.far (p := ⟨w.heap.size, 3, none⟩) (by show w.heap.size + 1 ≠ w.heap.size; omega) (.slice A3 D.es.length c3))
  obtain ⟨r0, g0, r1, g1, r2, g2, r3, g3, q0, q1, q2, q3, p0, p1, p2⟩ := store4 Y4.out (.int .i64 D.pr) (.int .i64 D.ba) (.string D.sn) (.slice A3 D.es.length c3)
  have KZ := Lib.hid (blks4 Y4.out (.int .i64 D.pr) (.int .i64 D.ba) (.string D.sn) (.slice A3 D.es.length c3)).2
  clear hr3 hk3 ho3 X3 Y3 X4 x3
  go_wp2_with fail
  refine bodyPost_ret (v := dval D A3 c3) (by simp [results, Try.results42, go_sem, hu, p0, p1, p2, q0, q1, q2, q3]) rfl ?_
  refine ⟨A3, c3, rfl, ?_, ?_, fun k hk => (O3.out k hk).1⟩
  · exact (R3.out.far (p := ⟨w.heap.size, 3, none⟩) (fun e => (O3.out _ e).2.1 rfl) _).keep KZ.out (fun g hg e => (O3.out g hg).2.2 e)
  · exact (K3.out.set (p := ⟨w.heap.size, 3, none⟩) (.inr (Nat.le_refl _)) _).trans KZ.out (fun i hi => .inr (by rw [hi]; omega))
end Go.Proofs.Ytnbllckmeehhjaa.A
