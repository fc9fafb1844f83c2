/-
  The scheduler: what a mutex does. Printed by gen_vf.py.
-/
import Derived.Test.YtmohpjkbhpgidaaVE
namespace Go.Proofs.Ytmohpjkbhpgidaa.A
open Go.RowKit Go.Proofs.Ytmohpjkbhpgidaa.U
set_option linter.unusedVariables false
set_option linter.unusedSimpArgs false
set_option maxRecDepth 100000
set_option maxHeartbeats 400000

theorem store3 {w : World} {g t : Nat} {c0 c1 c2 : Value} (B : Blk w g t #[c0, c1, c2]) (v0 v1 v2 : Value) :
    w.cell? ⟨g, 0, none⟩ = some c0 ∧
    w.frozen? ⟨g, 0, none⟩ = false ∧
    (w.setCell ⟨g, 0, none⟩ v0).cell? ⟨g, 1, none⟩ = some c1 ∧
    (w.setCell ⟨g, 0, none⟩ v0).frozen? ⟨g, 1, none⟩ = false ∧
    ((w.setCell ⟨g, 0, none⟩ v0).setCell ⟨g, 1, none⟩ v1).cell? ⟨g, 2, none⟩ = some c2 ∧
    ((w.setCell ⟨g, 0, none⟩ v0).setCell ⟨g, 1, none⟩ v1).frozen? ⟨g, 2, none⟩ = false ∧
    (((w.setCell ⟨g, 0, none⟩ v0).setCell ⟨g, 1, none⟩ v1).setCell ⟨g, 2, none⟩ v2).cell? ⟨g, 0, none⟩ = some v0 ∧
    (((w.setCell ⟨g, 0, none⟩ v0).setCell ⟨g, 1, none⟩ v1).setCell ⟨g, 2, none⟩ v2).cell? ⟨g, 1, none⟩ = some v1 ∧
    (((w.setCell ⟨g, 0, none⟩ v0).setCell ⟨g, 1, none⟩ v1).setCell ⟨g, 2, none⟩ v2).cell? ⟨g, 2, none⟩ = some v2 ∧
    (w.setCell ⟨g, 0, none⟩ v0).cell? ⟨g, 0, none⟩ = some v0 ∧
    ((w.setCell ⟨g, 0, none⟩ v0).setCell ⟨g, 1, none⟩ v1).cell? ⟨g, 1, none⟩ = some v1 := by
  have B0 := B
  have B1 : Blk (w.setCell ⟨g, 0, none⟩ v0) g t #[v0, c1, c2] := B0.put 0 v0
  have B2 : Blk ((w.setCell ⟨g, 0, none⟩ v0).setCell ⟨g, 1, none⟩ v1) g t #[v0, v1, c2] := B1.put 1 v1
  have B3 : Blk (((w.setCell ⟨g, 0, none⟩ v0).setCell ⟨g, 1, none⟩ v1).setCell ⟨g, 2, none⟩ v2) g t #[v0, v1, v2] := B2.put 2 v2
  exact ⟨B0.cell 0, B0.free 0, B1.cell 1, B1.free 1, B2.cell 2, B2.free 2, B3.cell 0, B3.cell 1, B3.cell 2, B1.cell 0, B2.cell 1⟩
theorem blks3 {w : World} {g t : Nat} {c0 c1 c2 : Value} (B : Blk w g t #[c0, c1, c2]) (v0 v1 v2 : Value) : Blk (((w.setCell ⟨g, 0, none⟩ v0).setCell ⟨g, 1, none⟩ v1).setCell ⟨g, 2, none⟩ v2) g t #[v0, v1, v2] ∧ Keep (fun i => i = g) w (((w.setCell ⟨g, 0, none⟩ v0).setCell ⟨g, 1, none⟩ v1).setCell ⟨g, 2, none⟩ v2) := by
  have B0 := B
  have k0 := Keep.same (fun i => i = g) w
  have B1 : Blk (w.setCell ⟨g, 0, none⟩ v0) g t #[v0, c1, c2] := B0.put 0 v0
  have k1 : Keep (fun i => i = g) w (w.setCell ⟨g, 0, none⟩ v0) := k0.set (p := ⟨g, 0, none⟩) (.inl rfl) v0
  have B2 : Blk ((w.setCell ⟨g, 0, none⟩ v0).setCell ⟨g, 1, none⟩ v1) g t #[v0, v1, c2] := B1.put 1 v1
  have k2 : Keep (fun i => i = g) w ((w.setCell ⟨g, 0, none⟩ v0).setCell ⟨g, 1, none⟩ v1) := k1.set (p := ⟨g, 1, none⟩) (.inl rfl) v1
  have B3 : Blk (((w.setCell ⟨g, 0, none⟩ v0).setCell ⟨g, 1, none⟩ v1).setCell ⟨g, 2, none⟩ v2) g t #[v0, v1, v2] := B2.put 2 v2
  have k3 : Keep (fun i => i = g) w (((w.setCell ⟨g, 0, none⟩ v0).setCell ⟨g, 1, none⟩ v1).setCell ⟨g, 2, none⟩ v2) := k2.set (p := ⟨g, 2, none⟩) (.inl rfl) v2
  exact ⟨B3, k3⟩
theorem held3 {B : Nat} {w0 w : World} {Q : SP} {g t : Nat} {c0 c1 c2 : Value} (h : Holds B w0 w (star (blkP g t #[c0, c1, c2]) Q)) (hQ : Stable Q) (v0 v1 v2 : Value) : Holds B w0 (((w.setCell ⟨g, 0, none⟩ v0).setCell ⟨g, 1, none⟩ v1).setCell ⟨g, 2, none⟩ v2) (star (blkP g t #[v0, v1, v2]) Q) := by
  have h0 := h
  have h1 : Holds B w0 (w.setCell ⟨g, 0, none⟩ v0) (star (blkP g t #[v0, c1, c2]) Q) := h0.setBlk hQ 0 v0
  have h2 : Holds B w0 ((w.setCell ⟨g, 0, none⟩ v0).setCell ⟨g, 1, none⟩ v1) (star (blkP g t #[v0, v1, c2]) Q) := h1.setBlk hQ 1 v1
  have h3 : Holds B w0 (((w.setCell ⟨g, 0, none⟩ v0).setCell ⟨g, 1, none⟩ v1).setCell ⟨g, 2, none⟩ v2) (star (blkP g t #[v0, v1, v2]) Q) := h2.setBlk hQ 2 v2
  exact h3

def wakeL (n e : Int) : List Int := if e = 0 ∧ 0 ≤ n then [n] else []
/-- What an answer is, and what holds with it. -/
def DoPost (B : Nat) (w0 : World) (wait : Bool) (wk : List Int) (er : Int) (P : SP) (e : Ending) (w' : World) : Prop :=
  ∃ A c, e = .returned (.agg #[.bool wait, .slice A wk.length c, .int .i64 er]) ∧ Holds B w0 w' (star (rowP 3 1 (.slice A wk.length c) wk.length (ints wk)) P)
section
variable {B : Nat} {w0 w : World} {Q : SP} {b g : Nat} {h : Bool} {who : Int} {L : List Wt} {x : Op3} {tv : Value} {id : Int}
abbrev d3 (w : World) (g : Nat) (x : Op3) : World := ((w.alloc (.cells #[.pointer (some ⟨g, 0, none⟩)] 172)).alloc (.cells x.cs 97)).alloc (.cells #[.bool false, .slice none 0 0, .int .i64 0] 150)
theorem do_start (hh : Holds B w0 w (star (mP g h who L) Q)) (hQ : Stable Q) (x : Op3) : Holds B w0 (d3 w g x) (star (mP g h who L) (star (blkP (w.heap.size + 1 + 1) 150 #[.bool false, .slice none 0 0, .int .i64 0]) (star (blkP (w.heap.size + 1) 97 x.cs) (star (blkP w.heap.size 172 #[.pointer (some ⟨g, 0, none⟩)]) Q)))) := by
  have S1 : Stable (star (mP g h who L) Q) := (mP_stable _ _ _ _).star hQ
  have h1 := hh.newBlk S1 172 #[.pointer (some ⟨g, 0, none⟩)]
  have h2 := h1.newBlk ((blkP_stable _ _ _).star S1) 97 x.cs
  have h3 := h2.newBlk ((blkP_stable _ _ _).star ((blkP_stable _ _ _).star S1)) 150 #[.bool false, .slice none 0 0, .int .i64 0]
  rw [size_alloc, size_alloc] at h3
  exact h3.perm (by ac_rfl)
theorem do_lock (hh : Holds B w0 w (star (mP g h who L) Q)) (hQ : Stable Q) (hL : L.length ≤ 1000000) (hk : x.k = 1) :
    Calls Try.prog 134 #[.agg #[.pointer (some ⟨g, 0, none⟩)], tv, .int .i64 id, x.val] w (DoPost B w0 (!(mLock h who L id).1) [] (mLock h who L id).2.1 (star (mP g (mLock h who L id).2.2.1 (mLock h who L id).2.2.2.1 (mLock h who L id).2.2.2.2) Q)) := by
  have hu := Try.underlying172
  have hu2 := Try.underlying97
  have hu3 := Try.underlying150
  have D1 : (x.k == 1) = true := by simp [hk]
  have h1 := do_start hh hQ x
  have SQ := Lib.hid (show Stable (star (blkP (w.heap.size + 1 + 1) 150 #[.bool false, .slice none 0 0, .int .i64 0]) (star (blkP (w.heap.size + 1) 97 x.cs) (star (blkP w.heap.size 172 #[.pointer (some ⟨g, 0, none⟩)]) Q))) from (blkP_stable _ _ _).star ((blkP_stable _ _ _).star ((blkP_stable _ _ _).star hQ)))
  have HC := Lib.hid (s_mlock h1 SQ.out hL id)
  have c0 := (blk_at' (show Holds B w0 (d3 w g x) (star (blkP w.heap.size 172 #[.pointer (some ⟨g, 0, none⟩)]) (star (mP g h who L) (star (blkP (w.heap.size + 1 + 1) 150 #[.bool false, .slice none 0 0, .int .i64 0]) (star (blkP (w.heap.size + 1) 97 x.cs) Q)))) from h1.perm (by ac_rfl))).cell 0
  have o0 := (blk_at' (show Holds B w0 (d3 w g x) (star (blkP (w.heap.size + 1) 97 x.cs) (star (mP g h who L) (star (blkP (w.heap.size + 1 + 1) 150 #[.bool false, .slice none 0 0, .int .i64 0]) (star (blkP w.heap.size 172 #[.pointer (some ⟨g, 0, none⟩)]) Q)))) from h1.perm (by ac_rfl))).cell 0
  have HQ := Lib.hid hQ
  generalize mLock h who L id = r at *
  obtain ⟨r1, r2, r3, r4, r5⟩ := r
  dsimp only at HC ⊢
  clear h1 hh hQ hk
  unfold Op3.val Op3.cs
  go_enter Try.func134, Try.ntmps134
  go_wp2_with fail
  refine HC.out.mono ?_
  rintro e w5 ⟨rfl, h5⟩
  have h6 : Holds B w0 w5 (star (blkP (w.heap.size + 1 + 1) 150 #[.bool false, .slice none 0 0, .int .i64 0]) (star (mP g r3 r4 r5) (star (blkP (w.heap.size + 1) 97 x.cs) (star (blkP w.heap.size 172 #[.pointer (some ⟨g, 0, none⟩)]) Q)))) := h5.perm (by ac_rfl)
  have S6 : Stable (star (mP g r3 r4 r5) (star (blkP (w.heap.size + 1) 97 x.cs) (star (blkP w.heap.size 172 #[.pointer (some ⟨g, 0, none⟩)]) Q))) := (mP_stable _ _ _ _).star ((blkP_stable _ _ _).star ((blkP_stable _ _ _).star HQ.out))
  obtain ⟨a0, b0, a1, b1, a2, b2, q0, q1, q2, p0, p1⟩ := store3 (blk_at' h6) (.bool (!r1)) (.slice none 0 0) (.int .i64 r2)
  have H7 := Lib.hid (held3 h6 S6 (.bool (!r1)) (.slice none 0 0) (.int .i64 r2))
  clear h5 h6 S6 c0 o0
  go_wp2_with fail
  refine bodyPost_ret (v := .agg #[.bool (!r1), .slice none 0 0, .int .i64 r2]) (by simp [results, Try.results134, go_sem, hu3, q0, q1, q2]) rfl ?_
  refine ⟨none, 0, rfl, ?_⟩
  have g8 : Holds B w0 (((w5.setCell ⟨w.heap.size + 1 + 1, 0, none⟩ (.bool (!r1))).setCell ⟨w.heap.size + 1 + 1, 1, none⟩ (.slice none 0 0)).setCell ⟨w.heap.size + 1 + 1, 2, none⟩ (.int .i64 r2)) (star (mP g r3 r4 r5) (star (blkP (w.heap.size + 1) 97 x.cs) (star (blkP w.heap.size 172 #[.pointer (some ⟨g, 0, none⟩)]) Q))) := H7.out.drop
  have g9 : Holds B w0 (((w5.setCell ⟨w.heap.size + 1 + 1, 0, none⟩ (.bool (!r1))).setCell ⟨w.heap.size + 1 + 1, 1, none⟩ (.slice none 0 0)).setCell ⟨w.heap.size + 1 + 1, 2, none⟩ (.int .i64 r2)) (star (blkP (w.heap.size + 1) 97 x.cs) (star (blkP w.heap.size 172 #[.pointer (some ⟨g, 0, none⟩)]) (star (mP g r3 r4 r5) Q))) := g8.perm (by ac_rfl)
  exact g9.drop.drop.newRow ((mP_stable _ _ _ _).star HQ.out) (Row.nil _ 3 1) (Keep.same _ _) (fun k hk => by simp [Value.ownBlock] at hk)
theorem do_unlock (hh : Holds B w0 w (star (mP g h who L) Q)) (hQ : Stable Q) (hL : L.length ≤ 1000000) (hk : x.k = 2) :
    Calls Try.prog 134 #[.agg #[.pointer (some ⟨g, 0, none⟩)], tv, .int .i64 id, x.val] w (DoPost B w0 false (wakeL (mUnlock h who L id).1 (mUnlock h who L id).2.1) (mUnlock h who L id).2.1 (star (mP g (mUnlock h who L id).2.2.1 (mUnlock h who L id).2.2.2.1 (mUnlock h who L id).2.2.2.2) Q)) := by
  have hu := Try.underlying172
  have hu2 := Try.underlying97
  have hu3 := Try.underlying150
  have D1 : (x.k == 1) = false := by simp [hk]
  have h1 := do_start hh hQ x
  have SQ := Lib.hid (show Stable (star (blkP (w.heap.size + 1 + 1) 150 #[.bool false, .slice none 0 0, .int .i64 0]) (star (blkP (w.heap.size + 1) 97 x.cs) (star (blkP w.heap.size 172 #[.pointer (some ⟨g, 0, none⟩)]) Q))) from (blkP_stable _ _ _).star ((blkP_stable _ _ _).star ((blkP_stable _ _ _).star hQ)))
  have HC := Lib.hid (s_munlock h1 SQ.out hL id)
  have c0 := (blk_at' (show Holds B w0 (d3 w g x) (star (blkP w.heap.size 172 #[.pointer (some ⟨g, 0, none⟩)]) (star (mP g h who L) (star (blkP (w.heap.size + 1 + 1) 150 #[.bool false, .slice none 0 0, .int .i64 0]) (star (blkP (w.heap.size + 1) 97 x.cs) Q)))) from h1.perm (by ac_rfl))).cell 0
  have o0 := (blk_at' (show Holds B w0 (d3 w g x) (star (blkP (w.heap.size + 1) 97 x.cs) (star (mP g h who L) (star (blkP (w.heap.size + 1 + 1) 150 #[.bool false, .slice none 0 0, .int .i64 0]) (star (blkP w.heap.size 172 #[.pointer (some ⟨g, 0, none⟩)]) Q)))) from h1.perm (by ac_rfl))).cell 0
  have HQ := Lib.hid hQ
  generalize mUnlock h who L id = r at *
  obtain ⟨r1, r2, r3, r4, r5⟩ := r
  dsimp only at HC ⊢
  clear h1 hh hQ hk
  by_cases hw : r2 = 0 ∧ 0 ≤ r1
  · have hwl : wakeL r1 r2 = [r1] := by unfold wakeL; rw [if_pos hw]
    have WL := Lib.hid hwl
    have e0 : (r2 == 0) = true := by simp [hw.1]
    have e1 : decide (0 ≤ r1) = true := decide_eq_true hw.2
    clear hwl hw
    unfold Op3.val Op3.cs
    go_enter Try.func134, Try.ntmps134
    go_wp2_with fail
    refine HC.out.mono ?_
    rintro e w5 ⟨rfl, h5⟩
    have S5 : Stable (star (mP g r3 r4 r5) (star (blkP (w.heap.size + 1 + 1) 150 #[.bool false, .slice none 0 0, .int .i64 0]) (star (blkP (w.heap.size + 1) 97 x.cs) (star (blkP w.heap.size 172 #[.pointer (some ⟨g, 0, none⟩)]) Q)))) := (mP_stable _ _ _ _).star SQ.out
    have h6 := h5.newBlk S5 150 #[.bool false, .slice (some ⟨w5.heap.size + 1, 0, none⟩) 1 1, .int .i64 r2]
    have h7 := h6.newRow ((blkP_stable _ _ _).star S5) (Row.fresh (w5.alloc (.cells #[.bool false, .slice (some ⟨w5.heap.size + 1, 0, none⟩) 1 1, .int .i64 r2] 150)) 3 1 1 #[.int .i64 r1] rfl (by unfold maxLen; omega)) ((Keep.same _ _).alloc _) (fun k hk => by simp [Value.ownBlock] at hk; simp; omega)
    rw [size_alloc] at h7
    have h10 : Holds B w0 ((w5.alloc (.cells #[.bool false, .slice (some ⟨w5.heap.size + 1, 0, none⟩) 1 1, .int .i64 r2] 150)).alloc (.cells #[.int .i64 r1] 3)) (star (blkP (w.heap.size + 1 + 1) 150 #[.bool false, .slice none 0 0, .int .i64 0]) (star (blkP w5.heap.size 150 #[.bool false, .slice (some ⟨w5.heap.size + 1, 0, none⟩) 1 1, .int .i64 r2]) (star (rowP 3 1 (.slice (some ⟨w5.heap.size + 1, 0, none⟩) 1 1) 1 [.int .i64 r1]) (star (mP g r3 r4 r5) (star (blkP (w.heap.size + 1) 97 x.cs) (star (blkP w.heap.size 172 #[.pointer (some ⟨g, 0, none⟩)]) Q)))))) := h7.perm (by
      show star (rowP 3 1 (.slice (some ⟨w5.heap.size + 1, 0, none⟩) 1 1) 1 [.int .i64 r1]) _ = _
      ac_rfl)
    have S10 : Stable (star (blkP w5.heap.size 150 #[.bool false, .slice (some ⟨w5.heap.size + 1, 0, none⟩) 1 1, .int .i64 r2]) (star (rowP 3 1 (.slice (some ⟨w5.heap.size + 1, 0, none⟩) 1 1) 1 [.int .i64 r1]) (star (mP g r3 r4 r5) (star (blkP (w.heap.size + 1) 97 x.cs) (star (blkP w.heap.size 172 #[.pointer (some ⟨g, 0, none⟩)]) Q))))) := (blkP_stable _ _ _).star ((rowP_stable _ _ _ _ _).star ((mP_stable _ _ _ _).star ((blkP_stable _ _ _).star ((blkP_stable _ _ _).star HQ.out))))
    obtain ⟨a0, b0, a1, b1, a2, b2, q0, q1, q2, p0, p1⟩ := store3 (blk_at' h10) (.bool false) (.slice (some ⟨w5.heap.size + 1, 0, none⟩) 1 1) (.int .i64 r2)
    have H11 := Lib.hid (held3 h10 S10 (.bool false) (.slice (some ⟨w5.heap.size + 1, 0, none⟩) 1 1) (.int .i64 r2))
    clear h5 h6 h7 h10 S5 S10 c0 o0
    go_wp2_with fail
    refine bodyPost_ret (v := .agg #[.bool false, .slice (some ⟨w5.heap.size + 1, 0, none⟩) 1 1, .int .i64 r2]) (by simp [results, Try.results134, go_sem, hu3, q0, q1, q2]) rfl ?_
    rw [WL.out]
    refine ⟨some ⟨w5.heap.size + 1, 0, none⟩, 1, rfl, ?_⟩
    have k1 := H11.out.drop.drop
    have k2 : Holds B w0 _ (star (blkP (w.heap.size + 1) 97 x.cs) (star (blkP w.heap.size 172 #[.pointer (some ⟨g, 0, none⟩)]) (star (rowP 3 1 (.slice (some ⟨w5.heap.size + 1, 0, none⟩) 1 1) 1 [.int .i64 r1]) (star (mP g r3 r4 r5) Q)))) := k1.perm (by ac_rfl)
    exact k2.drop.drop
  · have hwl : wakeL r1 r2 = [] := by unfold wakeL; rw [if_neg hw]
    have WL := Lib.hid hwl
    clear hwl
    rcases (show r2 ≠ 0 ∨ (r2 = 0 ∧ ¬ 0 ≤ r1) by omega) with e0 | ⟨e0, e1⟩
    all_goals
      first | (have d0 : (r2 == 0) = false := by simp [e0]) | (have d0 : (r2 == 0) = true := by simp [e0])
      try have d1 : decide (0 ≤ r1) = false := decide_eq_false e1
      clear e0 hw
      try clear e1
      unfold Op3.val Op3.cs
      go_enter Try.func134, Try.ntmps134
      go_wp2_with fail
      refine HC.out.mono ?_
      rintro e w5 ⟨rfl, h5⟩
      have S5 : Stable (star (mP g r3 r4 r5) (star (blkP (w.heap.size + 1 + 1) 150 #[.bool false, .slice none 0 0, .int .i64 0]) (star (blkP (w.heap.size + 1) 97 x.cs) (star (blkP w.heap.size 172 #[.pointer (some ⟨g, 0, none⟩)]) Q)))) := (mP_stable _ _ _ _).star SQ.out
      have h6 := h5.newBlk S5 150 #[.bool false, .slice none 0 0, .int .i64 r2]
      have h10 : Holds B w0 _ (star (blkP (w.heap.size + 1 + 1) 150 #[.bool false, .slice none 0 0, .int .i64 0]) (star (blkP w5.heap.size 150 #[.bool false, .slice none 0 0, .int .i64 r2]) (star (mP g r3 r4 r5) (star (blkP (w.heap.size + 1) 97 x.cs) (star (blkP w.heap.size 172 #[.pointer (some ⟨g, 0, none⟩)]) Q))))) := h6.perm (by ac_rfl)
      have S10 : Stable (star (blkP w5.heap.size 150 #[.bool false, .slice none 0 0, .int .i64 r2]) (star (mP g r3 r4 r5) (star (blkP (w.heap.size + 1) 97 x.cs) (star (blkP w.heap.size 172 #[.pointer (some ⟨g, 0, none⟩)]) Q)))) := (blkP_stable _ _ _).star ((mP_stable _ _ _ _).star ((blkP_stable _ _ _).star ((blkP_stable _ _ _).star HQ.out)))
      obtain ⟨a0, b0, a1, b1, a2, b2, q0, q1, q2, p0, p1⟩ := store3 (blk_at' h10) (.bool false) (.slice none 0 0) (.int .i64 r2)
      have H11 := Lib.hid (held3 h10 S10 (.bool false) (.slice none 0 0) (.int .i64 r2))
      clear h5 h6 h10 S5 S10 c0 o0
      go_wp2_with fail
      refine bodyPost_ret (v := .agg #[.bool false, .slice none 0 0, .int .i64 r2]) (by simp [results, Try.results134, go_sem, hu3, q0, q1, q2]) rfl ?_
      rw [WL.out]
      refine ⟨none, 0, rfl, ?_⟩
      have k1 := H11.out.drop.drop
      have k2 : Holds B w0 _ (star (blkP (w.heap.size + 1) 97 x.cs) (star (blkP w.heap.size 172 #[.pointer (some ⟨g, 0, none⟩)]) (star (mP g r3 r4 r5) Q))) := k1.perm (by ac_rfl)
      exact k2.drop.drop.newRow ((mP_stable _ _ _ _).star HQ.out) (Row.nil _ 3 1) (Keep.same _ _) (fun k hk => by simp [Value.ownBlock] at hk)
end
end Go.Proofs.Ytmohpjkbhpgidaa.A
