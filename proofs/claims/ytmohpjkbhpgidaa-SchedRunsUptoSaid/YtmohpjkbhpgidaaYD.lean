/-
  The scheduler: what a mutex, an rwlock, a group does. Printed by gen_yd.py.
-/
import Derived.Test.YtmohpjkbhpgidaaYA
namespace Go.Proofs.Ytmohpjkbhpgidaa.A
open Go.RowKit Go.Proofs.Ytmohpjkbhpgidaa.U
set_option linter.unusedVariables false
set_option linter.unusedSimpArgs false
set_option maxRecDepth 100000
set_option maxHeartbeats 400000

theorem store3 {w : World} {g t : Nat} {c0 c1 c2 : Value} (B : Blk w g t #[c0, c1, c2]) (v0 v1 v2 : Value) :
    w.cell? ⟨g, 0, none⟩ = some c0 ∧
    w.frozen? ⟨g, 0, none⟩ = false ∧
    (w.setCell ⟨g, 0, none⟩ v0).cell? ⟨g, 1, none⟩ = some c1 ∧
    (w.setCell ⟨g, 0, none⟩ v0).frozen? ⟨g, 1, none⟩ = false ∧
    ((w.setCell ⟨g, 0, none⟩ v0).setCell ⟨g, 1, none⟩ v1).cell? ⟨g, 2, none⟩ = some c2 ∧
    ((w.setCell ⟨g, 0, none⟩ v0).setCell ⟨g, 1, none⟩ v1).frozen? ⟨g, 2, none⟩ = false ∧
    (((w.setCell ⟨g, 0, none⟩ v0).setCell ⟨g, 1, none⟩ v1).setCell ⟨g, 2, none⟩ v2).cell? ⟨g, 0, none⟩ = some v0 ∧
    (((w.setCell ⟨g, 0, none⟩ v0).setCell ⟨g, 1, none⟩ v1).setCell ⟨g, 2, none⟩ v2).cell? ⟨g, 1, none⟩ = some v1 ∧
    (((w.setCell ⟨g, 0, none⟩ v0).setCell ⟨g, 1, none⟩ v1).setCell ⟨g, 2, none⟩ v2).cell? ⟨g, 2, none⟩ = some v2 ∧
    (w.setCell ⟨g, 0, none⟩ v0).cell? ⟨g, 0, none⟩ = some v0 ∧
    ((w.setCell ⟨g, 0, none⟩ v0).setCell ⟨g, 1, none⟩ v1).cell? ⟨g, 1, none⟩ = some v1 := by
  have B0 := B
  have B1 : Blk (w.setCell ⟨g, 0, none⟩ v0) g t #[v0, c1, c2] := B0.put 0 v0
  have B2 : Blk ((w.setCell ⟨g, 0, none⟩ v0).setCell ⟨g, 1, none⟩ v1) g t #[v0, v1, c2] := B1.put 1 v1
  have B3 : Blk (((w.setCell ⟨g, 0, none⟩ v0).setCell ⟨g, 1, none⟩ v1).setCell ⟨g, 2, none⟩ v2) g t #[v0, v1, v2] := B2.put 2 v2
  exact ⟨B0.cell 0, B0.free 0, B1.cell 1, B1.free 1, B2.cell 2, B2.free 2, B3.cell 0, B3.cell 1, B3.cell 2, B1.cell 0, B2.cell 1⟩
theorem blks3 {w : World} {g t : Nat} {c0 c1 c2 : Value} (B : Blk w g t #[c0, c1, c2]) (v0 v1 v2 : Value) : Blk (((w.setCell ⟨g, 0, none⟩ v0).setCell ⟨g, 1, none⟩ v1).setCell ⟨g, 2, none⟩ v2) g t #[v0, v1, v2] ∧ Keep (fun i => i = g) w (((w.setCell ⟨g, 0, none⟩ v0).setCell ⟨g, 1, none⟩ v1).setCell ⟨g, 2, none⟩ v2) := by
  have B0 := B
  have k0 := Keep.same (fun i => i = g) w
  have B1 : Blk (w.setCell ⟨g, 0, none⟩ v0) g t #[v0, c1, c2] := B0.put 0 v0
  have k1 : Keep (fun i => i = g) w (w.setCell ⟨g, 0, none⟩ v0) := k0.set (p := ⟨g, 0, none⟩) (.inl rfl) v0
  have B2 : Blk ((w.setCell ⟨g, 0, none⟩ v0).setCell ⟨g, 1, none⟩ v1) g t #[v0, v1, c2] := B1.put 1 v1
  have k2 : Keep (fun i => i = g) w ((w.setCell ⟨g, 0, none⟩ v0).setCell ⟨g, 1, none⟩ v1) := k1.set (p := ⟨g, 1, none⟩) (.inl rfl) v1
  have B3 : Blk (((w.setCell ⟨g, 0, none⟩ v0).setCell ⟨g, 1, none⟩ v1).setCell ⟨g, 2, none⟩ v2) g t #[v0, v1, v2] := B2.put 2 v2
  have k3 : Keep (fun i => i = g) w (((w.setCell ⟨g, 0, none⟩ v0).setCell ⟨g, 1, none⟩ v1).setCell ⟨g, 2, none⟩ v2) := k2.set (p := ⟨g, 2, none⟩) (.inl rfl) v2
  exact ⟨B3, k3⟩
theorem held3 {B : Nat} {w0 w : World} {Q : SP} {g t : Nat} {c0 c1 c2 : Value} (h : Holds B w0 w (star (blkP g t #[c0, c1, c2]) Q)) (hQ : Stable Q) (v0 v1 v2 : Value) : Holds B w0 (((w.setCell ⟨g, 0, none⟩ v0).setCell ⟨g, 1, none⟩ v1).setCell ⟨g, 2, none⟩ v2) (star (blkP g t #[v0, v1, v2]) Q) := by
  have h0 := h
  have h1 : Holds B w0 (w.setCell ⟨g, 0, none⟩ v0) (star (blkP g t #[v0, c1, c2]) Q) := h0.setBlk hQ 0 v0
  have h2 : Holds B w0 ((w.setCell ⟨g, 0, none⟩ v0).setCell ⟨g, 1, none⟩ v1) (star (blkP g t #[v0, v1, c2]) Q) := h1.setBlk hQ 1 v1
  have h3 : Holds B w0 (((w.setCell ⟨g, 0, none⟩ v0).setCell ⟨g, 1, none⟩ v1).setCell ⟨g, 2, none⟩ v2) (star (blkP g t #[v0, v1, v2]) Q) := h2.setBlk hQ 2 v2
  exact h3
section
variable {B : Nat} {w0 w : World} {Q : SP} {b : Nat}
theorem y_mlock {h : Bool} {who : Int} {L : List Wt} (hh : Holds B w0 w (star (mP b h who L) Q)) (hQ : Stable Q) (hL : L.length ≤ 1000000) (x : Int) :
    Calls Try.prog 30 #[.pointer (some ⟨b, 0, none⟩), .int .i64 x] w (fun e w' => e = .returned (.tuple #[.bool (mLock h who L x).1, .int .i64 (mLock h who L x).2.1]) ∧
      Holds B w0 w' (star (mP b (mLock h who L x).2.2.1 (mLock h who L x).2.2.2.1 (mLock h who L x).2.2.2.2) Q)) :=
  hh.on_left hQ (post := fun e => e = .returned (.tuple #[.bool (mLock h who L x).1, .int .i64 (mLock h who L x).2.1])) fun F hm => mlock_calls w b F h who L hm hL x
theorem y_munlock {h : Bool} {who : Int} {L : List Wt} (hh : Holds B w0 w (star (mP b h who L) Q)) (hQ : Stable Q) (hL : L.length ≤ 1000000) (x : Int) :
    Calls Try.prog 32 #[.pointer (some ⟨b, 0, none⟩), .int .i64 x] w (fun e w' => e = .returned (.tuple #[.int .i64 (mUnlock h who L x).1, .int .i64 (mUnlock h who L x).2.1]) ∧
      Holds B w0 w' (star (mP b (mUnlock h who L x).2.2.1 (mUnlock h who L x).2.2.2.1 (mUnlock h who L x).2.2.2.2) Q)) :=
  hh.on_left hQ (post := fun e => e = .returned (.tuple #[.int .i64 (mUnlock h who L x).1, .int .i64 (mUnlock h who L x).2.1])) fun F hm => munlock_calls w b F h who L hm hL x
end
def wakeL (n e : Int) : List Int := if e = 0 ∧ 0 ≤ n then [n] else []
/-- What an answer is, and what holds with it. -/
def AnsPost (B : Nat) (w0 : World) (wait : Bool) (wk : List Int) (er : Int) (P : SP) (e : Ending) (w' : World) : Prop :=
  ∃ A c, e = .returned (.agg #[.bool wait, .slice A wk.length c, .int .i64 er]) ∧ Holds B w0 w' (star (rowP 3 1 (.slice A wk.length c) wk.length (ints wk)) P)
section
variable {B : Nat} {w0 w : World} {Q : SP} {b g : Nat} {h : Bool} {who : Int} {L : List Wt} {x : Op3} {tv : Value} {id : Int}
abbrev d3 (w : World) (g : Nat) (x : Op3) : World := ((w.alloc (.cells #[.pointer (some ⟨g, 0, none⟩)] 172)).alloc (.cells x.cs 97)).alloc (.cells #[.bool false, .slice none 0 0, .int .i64 0] 150)
theorem do_start (hh : Holds B w0 w (star (mP g h who L) Q)) (hQ : Stable Q) (x : Op3) : Holds B w0 (d3 w g x) (star (mP g h who L) (star (blkP (w.heap.size + 1 + 1) 150 #[.bool false, .slice none 0 0, .int .i64 0]) (star (blkP (w.heap.size + 1) 97 x.cs) (star (blkP w.heap.size 172 #[.pointer (some ⟨g, 0, none⟩)]) Q)))) := by
  have S1 : Stable (star (mP g h who L) Q) := (mP_stable _ _ _ _).star hQ
  have h1 := hh.newBlk S1 172 #[.pointer (some ⟨g, 0, none⟩)]
  have h2 := h1.newBlk ((blkP_stable _ _ _).star S1) 97 x.cs
  have h3 := h2.newBlk ((blkP_stable _ _ _).star ((blkP_stable _ _ _).star S1)) 150 #[.bool false, .slice none 0 0, .int .i64 0]
  rw [size_alloc, size_alloc] at h3
  exact h3.perm (by ac_rfl)
theorem do_lock (hh : Holds B w0 w (star (mP g h who L) Q)) (hQ : Stable Q) (hL : L.length ≤ 1000000) (hk : x.k = 1) :
    Calls Try.prog 134 #[.agg #[.pointer (some ⟨g, 0, none⟩)], tv, .int .i64 id, x.val] w (AnsPost B w0 (!(mLock h who L id).1) [] (mLock h who L id).2.1 (star (mP g (mLock h who L id).2.2.1 (mLock h who L id).2.2.2.1 (mLock h who L id).2.2.2.2) Q)) := by
  have hu := Try.underlying172
  have hu2 := Try.underlying97
  have hu3 := Try.underlying150
  have D1 : (x.k == 1) = true := by simp [hk]
  have h1 := do_start hh hQ x
  have SQ := Lib.hid (show Stable (star (blkP (w.heap.size + 1 + 1) 150 #[.bool false, .slice none 0 0, .int .i64 0]) (star (blkP (w.heap.size + 1) 97 x.cs) (star (blkP w.heap.size 172 #[.pointer (some ⟨g, 0, none⟩)]) Q))) from (blkP_stable _ _ _).star ((blkP_stable _ _ _).star ((blkP_stable _ _ _).star hQ)))
  have HC := Lib.hid (y_mlock h1 SQ.out hL id)
  have c0 := (blk_at' (show Holds B w0 (d3 w g x) (star (blkP w.heap.size 172 #[.pointer (some ⟨g, 0, none⟩)]) (star (mP g h who L) (star (blkP (w.heap.size + 1 + 1) 150 #[.bool false, .slice none 0 0, .int .i64 0]) (star (blkP (w.heap.size + 1) 97 x.cs) Q)))) from h1.perm (by ac_rfl))).cell 0
  have o0 := (blk_at' (show Holds B w0 (d3 w g x) (star (blkP (w.heap.size + 1) 97 x.cs) (star (mP g h who L) (star (blkP (w.heap.size + 1 + 1) 150 #[.bool false, .slice none 0 0, .int .i64 0]) (star (blkP w.heap.size 172 #[.pointer (some ⟨g, 0, none⟩)]) Q)))) from h1.perm (by ac_rfl))).cell 0
  have HQ := Lib.hid hQ
  generalize mLock h who L id = r at *
  obtain ⟨r1, r2, r3, r4, r5⟩ := r
  dsimp only at HC ⊢
  clear h1 hh hQ hk
  unfold Op3.val Op3.cs
  go_enter Try.func134, Try.ntmps134
  go_wp2_with fail
  refine HC.out.mono ?_
  rintro e w5 ⟨rfl, h5⟩
  have h6 : Holds B w0 w5 (star (blkP (w.heap.size + 1 + 1) 150 #[.bool false, .slice none 0 0, .int .i64 0]) (star (mP g r3 r4 r5) (star (blkP (w.heap.size + 1) 97 x.cs) (star (blkP w.heap.size 172 #[.pointer (some ⟨g, 0, none⟩)]) Q)))) := h5.perm (by ac_rfl)
  have S6 : Stable (star (mP g r3 r4 r5) (star (blkP (w.heap.size + 1) 97 x.cs) (star (blkP w.heap.size 172 #[.pointer (some ⟨g, 0, none⟩)]) Q))) := (mP_stable _ _ _ _).star ((blkP_stable _ _ _).star ((blkP_stable _ _ _).star HQ.out))
  obtain ⟨a0, b0, a1, b1, a2, b2, q0, q1, q2, p0, p1⟩ := store3 (blk_at' h6) (.bool (!r1)) (.slice none 0 0) (.int .i64 r2)
  have H7 := Lib.hid (held3 h6 S6 (.bool (!r1)) (.slice none 0 0) (.int .i64 r2))
  clear h5 h6 S6 c0 o0
  go_wp2_with fail
  refine bodyPost_ret (v := .agg #[.bool (!r1), .slice none 0 0, .int .i64 r2]) (by simp [results, Try.results134, go_sem, hu3, q0, q1, q2]) rfl ?_
  refine ⟨none, 0, rfl, ?_⟩
  have g8 : Holds B w0 (((w5.setCell ⟨w.heap.size + 1 + 1, 0, none⟩ (.bool (!r1))).setCell ⟨w.heap.size + 1 + 1, 1, none⟩ (.slice none 0 0)).setCell ⟨w.heap.size + 1 + 1, 2, none⟩ (.int .i64 r2)) (star (mP g r3 r4 r5) (star (blkP (w.heap.size + 1) 97 x.cs) (star (blkP w.heap.size 172 #[.pointer (some ⟨g, 0, none⟩)]) Q))) := H7.out.drop
  have g9 : Holds B w0 (((w5.setCell ⟨w.heap.size + 1 + 1, 0, none⟩ (.bool (!r1))).setCell ⟨w.heap.size + 1 + 1, 1, none⟩ (.slice none 0 0)).setCell ⟨w.heap.size + 1 + 1, 2, none⟩ (.int .i64 r2)) (star (blkP (w.heap.size + 1) 97 x.cs) (star (blkP w.heap.size 172 #[.pointer (some ⟨g, 0, none⟩)]) (star (mP g r3 r4 r5) Q))) := g8.perm (by ac_rfl)
  exact g9.drop.drop.newRow ((mP_stable _ _ _ _).star HQ.out) (Row.nil _ 3 1) (Keep.same _ _) (fun k hk => by simp [Value.ownBlock] at hk)
theorem do_unlock (hh : Holds B w0 w (star (mP g h who L) Q)) (hQ : Stable Q) (hL : L.length ≤ 1000000) (hk : x.k = 2) :
    Calls Try.prog 134 #[.agg #[.pointer (some ⟨g, 0, none⟩)], tv, .int .i64 id, x.val] w (AnsPost B w0 false (wakeL (mUnlock h who L id).1 (mUnlock h who L id).2.1) (mUnlock h who L id).2.1 (star (mP g (mUnlock h who L id).2.2.1 (mUnlock h who L id).2.2.2.1 (mUnlock h who L id).2.2.2.2) Q)) := by
  have hu := Try.underlying172
  have hu2 := Try.underlying97
  have hu3 := Try.underlying150
  have D1 : (x.k == 1) = false := by simp [hk]
  have h1 := do_start hh hQ x
  have SQ := Lib.hid (show Stable (star (blkP (w.heap.size + 1 + 1) 150 #[.bool false, .slice none 0 0, .int .i64 0]) (star (blkP (w.heap.size + 1) 97 x.cs) (star (blkP w.heap.size 172 #[.pointer (some ⟨g, 0, none⟩)]) Q))) from (blkP_stable _ _ _).star ((blkP_stable _ _ _).star ((blkP_stable _ _ _).star hQ)))
  have HC := Lib.hid (y_munlock h1 SQ.out hL id)
  have c0 := (blk_at' (show Holds B w0 (d3 w g x) (star (blkP w.heap.size 172 #[.pointer (some ⟨g, 0, none⟩)]) (star (mP g h who L) (star (blkP (w.heap.size + 1 + 1) 150 #[.bool false, .slice none 0 0, .int .i64 0]) (star (blkP (w.heap.size + 1) 97 x.cs) Q)))) from h1.perm (by ac_rfl))).cell 0
  have o0 := (blk_at' (show Holds B w0 (d3 w g x) (star (blkP (w.heap.size + 1) 97 x.cs) (star (mP g h who L) (star (blkP (w.heap.size + 1 + 1) 150 #[.bool false, .slice none 0 0, .int .i64 0]) (star (blkP w.heap.size 172 #[.pointer (some ⟨g, 0, none⟩)]) Q)))) from h1.perm (by ac_rfl))).cell 0
  have HQ := Lib.hid hQ
  generalize mUnlock h who L id = r at *
  obtain ⟨r1, r2, r3, r4, r5⟩ := r
  dsimp only at HC ⊢
  clear h1 hh hQ hk
  by_cases hw : r2 = 0 ∧ 0 ≤ r1
  · have hwl : wakeL r1 r2 = [r1] := by unfold wakeL; rw [if_pos hw]
    have WL := Lib.hid hwl
    have e0 : (r2 == 0) = true := by simp [hw.1]
    have e1 : decide (0 ≤ r1) = true := decide_eq_true hw.2
    clear hwl hw
    unfold Op3.val Op3.cs
    go_enter Try.func134, Try.ntmps134
    go_wp2_with fail
    refine HC.out.mono ?_
    rintro e w5 ⟨rfl, h5⟩
    have S5 : Stable (star (mP g r3 r4 r5) (star (blkP (w.heap.size + 1 + 1) 150 #[.bool false, .slice none 0 0, .int .i64 0]) (star (blkP (w.heap.size + 1) 97 x.cs) (star (blkP w.heap.size 172 #[.pointer (some ⟨g, 0, none⟩)]) Q)))) := (mP_stable _ _ _ _).star SQ.out
    have h6 := h5.newBlk S5 150 #[.bool false, .slice (some ⟨w5.heap.size + 1, 0, none⟩) 1 1, .int .i64 r2]
    have h7 := h6.newRow ((blkP_stable _ _ _).star S5) (Row.fresh (w5.alloc (.cells #[.bool false, .slice (some ⟨w5.heap.size + 1, 0, none⟩) 1 1, .int .i64 r2] 150)) 3 1 1 #[.int .i64 r1] rfl (by unfold maxLen; omega)) ((Keep.same _ _).alloc _) (fun k hk => by simp [Value.ownBlock] at hk; simp; omega)
    rw [size_alloc] at h7
    have h10 : Holds B w0 ((w5.alloc (.cells #[.bool false, .slice (some ⟨w5.heap.size + 1, 0, none⟩) 1 1, .int .i64 r2] 150)).alloc (.cells #[.int .i64 r1] 3)) (star (blkP (w.heap.size + 1 + 1) 150 #[.bool false, .slice none 0 0, .int .i64 0]) (star (blkP w5.heap.size 150 #[.bool false, .slice (some ⟨w5.heap.size + 1, 0, none⟩) 1 1, .int .i64 r2]) (star (rowP 3 1 (.slice (some ⟨w5.heap.size + 1, 0, none⟩) 1 1) 1 [.int .i64 r1]) (star (mP g r3 r4 r5) (star (blkP (w.heap.size + 1) 97 x.cs) (star (blkP w.heap.size 172 #[.pointer (some ⟨g, 0, none⟩)]) Q)))))) := h7.perm (by
      show star (rowP 3 1 (.slice (some ⟨w5.heap.size + 1, 0, none⟩) 1 1) 1 [.int .i64 r1]) _ = _
      ac_rfl)
    have S10 : Stable (star (blkP w5.heap.size 150 #[.bool false, .slice (some ⟨w5.heap.size + 1, 0, none⟩) 1 1, .int .i64 r2]) (star (rowP 3 1 (.slice (some ⟨w5.heap.size + 1, 0, none⟩) 1 1) 1 [.int .i64 r1]) (star (mP g r3 r4 r5) (star (blkP (w.heap.size + 1) 97 x.cs) (star (blkP w.heap.size 172 #[.pointer (some ⟨g, 0, none⟩)]) Q))))) := (blkP_stable _ _ _).star ((rowP_stable _ _ _ _ _).star ((mP_stable _ _ _ _).star ((blkP_stable _ _ _).star ((blkP_stable _ _ _).star HQ.out))))
    obtain ⟨a0, b0, a1, b1, a2, b2, q0, q1, q2, p0, p1⟩ := store3 (blk_at' h10) (.bool false) (.slice (some ⟨w5.heap.size + 1, 0, none⟩) 1 1) (.int .i64 r2)
    have H11 := Lib.hid (held3 h10 S10 (.bool false) (.slice (some ⟨w5.heap.size + 1, 0, none⟩) 1 1) (.int .i64 r2))
    clear h5 h6 h7 h10 S5 S10 c0 o0
    go_wp2_with fail
    refine bodyPost_ret (v := .agg #[.bool false, .slice (some ⟨w5.heap.size + 1, 0, none⟩) 1 1, .int .i64 r2]) (by simp [results, Try.results134, go_sem, hu3, q0, q1, q2]) rfl ?_
    rw [WL.out]
    refine ⟨some ⟨w5.heap.size + 1, 0, none⟩, 1, rfl, ?_⟩
    have k1 := H11.out.drop.drop
    have k2 : Holds B w0 _ (star (blkP (w.heap.size + 1) 97 x.cs) (star (blkP w.heap.size 172 #[.pointer (some ⟨g, 0, none⟩)]) (star (rowP 3 1 (.slice (some ⟨w5.heap.size + 1, 0, none⟩) 1 1) 1 [.int .i64 r1]) (star (mP g r3 r4 r5) Q)))) := k1.perm (by ac_rfl)
    exact k2.drop.drop
  · have hwl : wakeL r1 r2 = [] := by unfold wakeL; rw [if_neg hw]
    have WL := Lib.hid hwl
    clear hwl
    rcases (show r2 ≠ 0 ∨ (r2 = 0 ∧ ¬ 0 ≤ r1) by omega) with e0 | ⟨e0, e1⟩
    all_goals
      first | (have d0 : (r2 == 0) = false := by simp [e0]) | (have d0 : (r2 == 0) = true := by simp [e0])
      try have d1 : decide (0 ≤ r1) = false := decide_eq_false e1
      clear e0 hw
      try clear e1
      unfold Op3.val Op3.cs
      go_enter Try.func134, Try.ntmps134
      go_wp2_with fail
      refine HC.out.mono ?_
      rintro e w5 ⟨rfl, h5⟩
      have S5 : Stable (star (mP g r3 r4 r5) (star (blkP (w.heap.size + 1 + 1) 150 #[.bool false, .slice none 0 0, .int .i64 0]) (star (blkP (w.heap.size + 1) 97 x.cs) (star (blkP w.heap.size 172 #[.pointer (some ⟨g, 0, none⟩)]) Q)))) := (mP_stable _ _ _ _).star SQ.out
      have h6 := h5.newBlk S5 150 #[.bool false, .slice none 0 0, .int .i64 r2]
      have h10 : Holds B w0 _ (star (blkP (w.heap.size + 1 + 1) 150 #[.bool false, .slice none 0 0, .int .i64 0]) (star (blkP w5.heap.size 150 #[.bool false, .slice none 0 0, .int .i64 r2]) (star (mP g r3 r4 r5) (star (blkP (w.heap.size + 1) 97 x.cs) (star (blkP w.heap.size 172 #[.pointer (some ⟨g, 0, none⟩)]) Q))))) := h6.perm (by ac_rfl)
      have S10 : Stable (star (blkP w5.heap.size 150 #[.bool false, .slice none 0 0, .int .i64 r2]) (star (mP g r3 r4 r5) (star (blkP (w.heap.size + 1) 97 x.cs) (star (blkP w.heap.size 172 #[.pointer (some ⟨g, 0, none⟩)]) Q)))) := (blkP_stable _ _ _).star ((mP_stable _ _ _ _).star ((blkP_stable _ _ _).star ((blkP_stable _ _ _).star HQ.out)))
      obtain ⟨a0, b0, a1, b1, a2, b2, q0, q1, q2, p0, p1⟩ := store3 (blk_at' h10) (.bool false) (.slice none 0 0) (.int .i64 r2)
      have H11 := Lib.hid (held3 h10 S10 (.bool false) (.slice none 0 0) (.int .i64 r2))
      clear h5 h6 h10 S5 S10 c0 o0
      go_wp2_with fail
      refine bodyPost_ret (v := .agg #[.bool false, .slice none 0 0, .int .i64 r2]) (by simp [results, Try.results134, go_sem, hu3, q0, q1, q2]) rfl ?_
      rw [WL.out]
      refine ⟨none, 0, rfl, ?_⟩
      have k1 := H11.out.drop.drop
      have k2 : Holds B w0 _ (star (blkP (w.heap.size + 1) 97 x.cs) (star (blkP w.heap.size 172 #[.pointer (some ⟨g, 0, none⟩)]) (star (mP g r3 r4 r5) Q))) := k1.perm (by ac_rfl)
      exact k2.drop.drop.newRow ((mP_stable _ _ _ _).star HQ.out) (Row.nil _ 3 1) (Keep.same _ _) (fun k hk => by simp [Value.ownBlock] at hk)
abbrev d3t (w : World) (g ty : Nat) (x : Op3) : World := ((w.alloc (.cells #[.pointer (some ⟨g, 0, none⟩)] ty)).alloc (.cells x.cs 97)).alloc (.cells #[.bool false, .slice none 0 0, .int .i64 0] 150)
theorem do_start_t {P : SP} (hh : Holds B w0 w (star P Q)) (hP : Stable P) (hQ : Stable Q) (x : Op3) (ty : Nat) : Holds B w0 (d3t w g ty x) (star P (star (blkP (w.heap.size + 1 + 1) 150 #[.bool false, .slice none 0 0, .int .i64 0]) (star (blkP (w.heap.size + 1) 97 x.cs) (star (blkP w.heap.size ty #[.pointer (some ⟨g, 0, none⟩)]) Q)))) := by
  have S1 : Stable (star P Q) := hP.star hQ
  have h1 := hh.newBlk S1 ty #[.pointer (some ⟨g, 0, none⟩)]
  have h2 := h1.newBlk ((blkP_stable _ _ _).star S1) 97 x.cs
  have h3 := h2.newBlk ((blkP_stable _ _ _).star ((blkP_stable _ _ _).star S1)) 150 #[.bool false, .slice none 0 0, .int .i64 0]
  rw [size_alloc, size_alloc] at h3
  exact h3.perm (by ac_rfl)
theorem do_rlock1 {W : List Int} {wr : Bool} {L : List Wt} (hh : Holds B w0 w (star (rwP g W wr L) Q)) (hQ : Stable Q) (hL : L.length ≤ 1000000) (hW : W.length ≤ 1000000) (hri : Rising W) (hk : x.k = 1) :
    Calls Try.prog 135 #[.agg #[.pointer (some ⟨g, 0, none⟩)], tv, .int .i64 id, x.val] w (AnsPost B w0 (!(rwLock W wr L id false).1) ([]) ((rwLock W wr L id false).2.1) (star (rwP g (rwLock W wr L id false).2.2.1 (rwLock W wr L id false).2.2.2.1 (rwLock W wr L id false).2.2.2.2) Q)) := by
  have hu := Try.underlying174
  have hu2 := Try.underlying97
  have hu3 := Try.underlying150
  have D1 : (x.k == 1) = true := by simp [hk]
  have D3 : (x.k == 3) = false := by simp [hk]
  have D4 : (x.k == 4) = false := by simp [hk]
  have h1 := do_start_t (g := g) hh (rwP_stable _ _ _ _) hQ x 174
  have SQ := Lib.hid (show Stable (star (blkP (w.heap.size + 1 + 1) 150 #[.bool false, .slice none 0 0, .int .i64 0]) (star (blkP (w.heap.size + 1) 97 x.cs) (star (blkP w.heap.size 174 #[.pointer (some ⟨g, 0, none⟩)]) Q))) from (blkP_stable _ _ _).star ((blkP_stable _ _ _).star ((blkP_stable _ _ _).star hQ)))
  have HC := Lib.hid (x_rwlock h1 SQ.out hL hW hri id false)
  have c0 := (blk_at' (show Holds B w0 (d3t w g 174 x) (star (blkP w.heap.size 174 #[.pointer (some ⟨g, 0, none⟩)]) (star (rwP g W wr L) (star (blkP (w.heap.size + 1 + 1) 150 #[.bool false, .slice none 0 0, .int .i64 0]) (star (blkP (w.heap.size + 1) 97 x.cs) Q)))) from h1.perm (by ac_rfl))).cell 0
  have XO := blk_at' (show Holds B w0 (d3t w g 174 x) (star (blkP (w.heap.size + 1) 97 x.cs) (star (rwP g W wr L) (star (blkP (w.heap.size + 1 + 1) 150 #[.bool false, .slice none 0 0, .int .i64 0]) (star (blkP w.heap.size 174 #[.pointer (some ⟨g, 0, none⟩)]) Q)))) from h1.perm (by ac_rfl))
  have o0 := XO.cell 0
  have o2 := XO.cell 2
  have HQ := Lib.hid hQ
  generalize rwLock W wr L id false = r at *
  obtain ⟨r1, r2, r3, r4, r5⟩ := r
  dsimp only at HC ⊢
  clear hL hW hri
  clear h1 hh hQ hk XO
  unfold Op3.val Op3.cs
  go_enter Try.func135, Try.ntmps135
  go_wp2_with fail
  refine HC.out.mono ?_
  rintro e w5 ⟨rfl, h5⟩
  have h6 : Holds B w0 w5 (star (blkP (w.heap.size + 1 + 1) 150 #[.bool false, .slice none 0 0, .int .i64 0]) (star (rwP g r3 r4 r5) (star (blkP (w.heap.size + 1) 97 x.cs) (star (blkP w.heap.size 174 #[.pointer (some ⟨g, 0, none⟩)]) Q)))) := h5.perm (by ac_rfl)
  have S6 : Stable (star (rwP g r3 r4 r5) (star (blkP (w.heap.size + 1) 97 x.cs) (star (blkP w.heap.size 174 #[.pointer (some ⟨g, 0, none⟩)]) Q))) := (rwP_stable _ _ _ _).star ((blkP_stable _ _ _).star ((blkP_stable _ _ _).star HQ.out))
  obtain ⟨a0, b0, a1, b1, a2, b2, q0, q1, q2, p0, p1⟩ := store3 (blk_at' h6) (.bool (!r1)) (.slice none 0 0) (.int .i64 r2)
  have H7 := Lib.hid (held3 h6 S6 (.bool (!r1)) (.slice none 0 0) (.int .i64 r2))
  clear h5 h6 S6 c0 o0 o2
  go_wp2_with fail
  refine bodyPost_ret (v := .agg #[.bool (!r1), .slice none 0 0, .int .i64 r2]) (by simp [results, Try.results135, go_sem, hu3, q0, q1, q2]) rfl ?_
  refine ⟨none, 0, rfl, ?_⟩
  have g8 := H7.out.drop
  have g9 : Holds B w0 (((w5.setCell ⟨w.heap.size + 1 + 1, 0, none⟩ (.bool (!r1))).setCell ⟨w.heap.size + 1 + 1, 1, none⟩ (.slice none 0 0)).setCell ⟨w.heap.size + 1 + 1, 2, none⟩ (.int .i64 r2)) (star (blkP (w.heap.size + 1) 97 x.cs) (star (blkP w.heap.size 174 #[.pointer (some ⟨g, 0, none⟩)]) (star (rwP g r3 r4 r5) Q))) := g8.perm (by ac_rfl)
  exact g9.drop.drop.newRow ((rwP_stable _ _ _ _).star HQ.out) (Row.nil _ 3 1) (Keep.same _ _) (fun k hk => by simp [Value.ownBlock] at hk)
theorem do_rlock3 {W : List Int} {wr : Bool} {L : List Wt} (hh : Holds B w0 w (star (rwP g W wr L) Q)) (hQ : Stable Q) (hL : L.length ≤ 1000000) (hW : W.length ≤ 1000000) (hri : Rising W) (hk : x.k = 3) :
    Calls Try.prog 135 #[.agg #[.pointer (some ⟨g, 0, none⟩)], tv, .int .i64 id, x.val] w (AnsPost B w0 (!(rwLock W wr L id true).1) ([]) ((rwLock W wr L id true).2.1) (star (rwP g (rwLock W wr L id true).2.2.1 (rwLock W wr L id true).2.2.2.1 (rwLock W wr L id true).2.2.2.2) Q)) := by
  have hu := Try.underlying174
  have hu2 := Try.underlying97
  have hu3 := Try.underlying150
  have D1 : (x.k == 1) = false := by simp [hk]
  have D3 : (x.k == 3) = true := by simp [hk]
  have h1 := do_start_t (g := g) hh (rwP_stable _ _ _ _) hQ x 174
  have SQ := Lib.hid (show Stable (star (blkP (w.heap.size + 1 + 1) 150 #[.bool false, .slice none 0 0, .int .i64 0]) (star (blkP (w.heap.size + 1) 97 x.cs) (star (blkP w.heap.size 174 #[.pointer (some ⟨g, 0, none⟩)]) Q))) from (blkP_stable _ _ _).star ((blkP_stable _ _ _).star ((blkP_stable _ _ _).star hQ)))
  have HC := Lib.hid (x_rwlock h1 SQ.out hL hW hri id true)
  have c0 := (blk_at' (show Holds B w0 (d3t w g 174 x) (star (blkP w.heap.size 174 #[.pointer (some ⟨g, 0, none⟩)]) (star (rwP g W wr L) (star (blkP (w.heap.size + 1 + 1) 150 #[.bool false, .slice none 0 0, .int .i64 0]) (star (blkP (w.heap.size + 1) 97 x.cs) Q)))) from h1.perm (by ac_rfl))).cell 0
  have XO := blk_at' (show Holds B w0 (d3t w g 174 x) (star (blkP (w.heap.size + 1) 97 x.cs) (star (rwP g W wr L) (star (blkP (w.heap.size + 1 + 1) 150 #[.bool false, .slice none 0 0, .int .i64 0]) (star (blkP w.heap.size 174 #[.pointer (some ⟨g, 0, none⟩)]) Q)))) from h1.perm (by ac_rfl))
  have o0 := XO.cell 0
  have o2 := XO.cell 2
  have HQ := Lib.hid hQ
  generalize rwLock W wr L id true = r at *
  obtain ⟨r1, r2, r3, r4, r5⟩ := r
  dsimp only at HC ⊢
  clear hL hW hri
  clear h1 hh hQ hk XO
  unfold Op3.val Op3.cs
  go_enter Try.func135, Try.ntmps135
  go_wp2_with fail
  refine HC.out.mono ?_
  rintro e w5 ⟨rfl, h5⟩
  have h6 : Holds B w0 w5 (star (blkP (w.heap.size + 1 + 1) 150 #[.bool false, .slice none 0 0, .int .i64 0]) (star (rwP g r3 r4 r5) (star (blkP (w.heap.size + 1) 97 x.cs) (star (blkP w.heap.size 174 #[.pointer (some ⟨g, 0, none⟩)]) Q)))) := h5.perm (by ac_rfl)
  have S6 : Stable (star (rwP g r3 r4 r5) (star (blkP (w.heap.size + 1) 97 x.cs) (star (blkP w.heap.size 174 #[.pointer (some ⟨g, 0, none⟩)]) Q))) := (rwP_stable _ _ _ _).star ((blkP_stable _ _ _).star ((blkP_stable _ _ _).star HQ.out))
  obtain ⟨a0, b0, a1, b1, a2, b2, q0, q1, q2, p0, p1⟩ := store3 (blk_at' h6) (.bool (!r1)) (.slice none 0 0) (.int .i64 r2)
  have H7 := Lib.hid (held3 h6 S6 (.bool (!r1)) (.slice none 0 0) (.int .i64 r2))
  clear h5 h6 S6 c0 o0 o2
  go_wp2_with fail
  refine bodyPost_ret (v := .agg #[.bool (!r1), .slice none 0 0, .int .i64 r2]) (by simp [results, Try.results135, go_sem, hu3, q0, q1, q2]) rfl ?_
  refine ⟨none, 0, rfl, ?_⟩
  have g8 := H7.out.drop
  have g9 : Holds B w0 (((w5.setCell ⟨w.heap.size + 1 + 1, 0, none⟩ (.bool (!r1))).setCell ⟨w.heap.size + 1 + 1, 1, none⟩ (.slice none 0 0)).setCell ⟨w.heap.size + 1 + 1, 2, none⟩ (.int .i64 r2)) (star (blkP (w.heap.size + 1) 97 x.cs) (star (blkP w.heap.size 174 #[.pointer (some ⟨g, 0, none⟩)]) (star (rwP g r3 r4 r5) Q))) := g8.perm (by ac_rfl)
  exact g9.drop.drop.newRow ((rwP_stable _ _ _ _).star HQ.out) (Row.nil _ 3 1) (Keep.same _ _) (fun k hk => by simp [Value.ownBlock] at hk)
theorem do_runlock2 {W : List Int} {wr : Bool} {L : List Wt} (hh : Holds B w0 w (star (rwP g W wr L) Q)) (hQ : Stable Q) (hL : L.length ≤ 500000) (hW : W.length ≤ 500000) (hg : Good W L) (hk : x.k = 2) :
    Calls Try.prog 135 #[.agg #[.pointer (some ⟨g, 0, none⟩)], tv, .int .i64 id, x.val] w (AnsPost B w0 (false) ((rwUnlock W wr L id false).1) ((rwUnlock W wr L id false).2.1) (star (rwP g (rwUnlock W wr L id false).2.2.1 (rwUnlock W wr L id false).2.2.2.1 (rwUnlock W wr L id false).2.2.2.2) Q)) := by
  have hu := Try.underlying174
  have hu2 := Try.underlying97
  have hu3 := Try.underlying150
  have D1 : (x.k == 1) = false := by simp [hk]
  have D3 : (x.k == 3) = false := by simp [hk]
  have D4 : (x.k == 4) = false := by simp [hk]
  have h1 := do_start_t (g := g) hh (rwP_stable _ _ _ _) hQ x 174
  have SQ := Lib.hid (show Stable (star (blkP (w.heap.size + 1 + 1) 150 #[.bool false, .slice none 0 0, .int .i64 0]) (star (blkP (w.heap.size + 1) 97 x.cs) (star (blkP w.heap.size 174 #[.pointer (some ⟨g, 0, none⟩)]) Q))) from (blkP_stable _ _ _).star ((blkP_stable _ _ _).star ((blkP_stable _ _ _).star hQ)))
  have HC := Lib.hid (x_rwunlock h1 SQ.out hL hW hg id false)
  have c0 := (blk_at' (show Holds B w0 (d3t w g 174 x) (star (blkP w.heap.size 174 #[.pointer (some ⟨g, 0, none⟩)]) (star (rwP g W wr L) (star (blkP (w.heap.size + 1 + 1) 150 #[.bool false, .slice none 0 0, .int .i64 0]) (star (blkP (w.heap.size + 1) 97 x.cs) Q)))) from h1.perm (by ac_rfl))).cell 0
  have XO := blk_at' (show Holds B w0 (d3t w g 174 x) (star (blkP (w.heap.size + 1) 97 x.cs) (star (rwP g W wr L) (star (blkP (w.heap.size + 1 + 1) 150 #[.bool false, .slice none 0 0, .int .i64 0]) (star (blkP w.heap.size 174 #[.pointer (some ⟨g, 0, none⟩)]) Q)))) from h1.perm (by ac_rfl))
  have o0 := XO.cell 0
  have o2 := XO.cell 2
  have HQ := Lib.hid hQ
  generalize rwUnlock W wr L id false = r at *
  obtain ⟨r1, r2, r3, r4, r5⟩ := r
  dsimp only at HC ⊢
  clear hL hW hg
  clear h1 hh hQ hk XO
  unfold Op3.val Op3.cs
  go_enter Try.func135, Try.ntmps135
  go_wp2_with fail
  refine HC.out.mono ?_
  rintro e w5 ⟨A5, c5, rfl, h5⟩
  have h6 : Holds B w0 w5 (star (blkP (w.heap.size + 1 + 1) 150 #[.bool false, .slice none 0 0, .int .i64 0]) (star (rowP 3 1 (.slice A5 r1.length c5) r1.length (ints r1)) (star (rwP g r3 r4 r5) (star (blkP (w.heap.size + 1) 97 x.cs) (star (blkP w.heap.size 174 #[.pointer (some ⟨g, 0, none⟩)]) Q))))) := h5.perm (by ac_rfl)
  have S6 : Stable (star (rowP 3 1 (.slice A5 r1.length c5) r1.length (ints r1)) (star (rwP g r3 r4 r5) (star (blkP (w.heap.size + 1) 97 x.cs) (star (blkP w.heap.size 174 #[.pointer (some ⟨g, 0, none⟩)]) Q)))) := (rowP_stable _ _ _ _ _).star ((rwP_stable _ _ _ _).star ((blkP_stable _ _ _).star ((blkP_stable _ _ _).star HQ.out)))
  obtain ⟨a0, b0, a1, b1, a2, b2, q0, q1, q2, p0, p1⟩ := store3 (blk_at' h6) (.bool false) (.slice A5 r1.length c5) (.int .i64 r2)
  have H7 := Lib.hid (held3 h6 S6 (.bool false) (.slice A5 r1.length c5) (.int .i64 r2))
  clear h5 h6 S6 c0 o0 o2
  go_wp2_with fail
  refine bodyPost_ret (v := .agg #[.bool false, .slice A5 r1.length c5, .int .i64 r2]) (by simp [results, Try.results135, go_sem, hu3, q0, q1, q2]) rfl ?_
  refine ⟨A5, c5, rfl, ?_⟩
  have g8 := H7.out.drop
  have g9 : Holds B w0 (((w5.setCell ⟨w.heap.size + 1 + 1, 0, none⟩ (.bool false)).setCell ⟨w.heap.size + 1 + 1, 1, none⟩ (.slice A5 r1.length c5)).setCell ⟨w.heap.size + 1 + 1, 2, none⟩ (.int .i64 r2)) (star (blkP (w.heap.size + 1) 97 x.cs) (star (blkP w.heap.size 174 #[.pointer (some ⟨g, 0, none⟩)]) (star (rowP 3 1 (.slice A5 r1.length c5) r1.length (ints r1)) (star (rwP g r3 r4 r5) Q)))) := g8.perm (by ac_rfl)
  exact g9.drop.drop
theorem do_runlock4 {W : List Int} {wr : Bool} {L : List Wt} (hh : Holds B w0 w (star (rwP g W wr L) Q)) (hQ : Stable Q) (hL : L.length ≤ 500000) (hW : W.length ≤ 500000) (hg : Good W L) (hk : x.k = 4) :
    Calls Try.prog 135 #[.agg #[.pointer (some ⟨g, 0, none⟩)], tv, .int .i64 id, x.val] w (AnsPost B w0 (false) ((rwUnlock W wr L id true).1) ((rwUnlock W wr L id true).2.1) (star (rwP g (rwUnlock W wr L id true).2.2.1 (rwUnlock W wr L id true).2.2.2.1 (rwUnlock W wr L id true).2.2.2.2) Q)) := by
  have hu := Try.underlying174
  have hu2 := Try.underlying97
  have hu3 := Try.underlying150
  have D1 : (x.k == 1) = false := by simp [hk]
  have D3 : (x.k == 3) = false := by simp [hk]
  have D4 : (x.k == 4) = true := by simp [hk]
  have h1 := do_start_t (g := g) hh (rwP_stable _ _ _ _) hQ x 174
  have SQ := Lib.hid (show Stable (star (blkP (w.heap.size + 1 + 1) 150 #[.bool false, .slice none 0 0, .int .i64 0]) (star (blkP (w.heap.size + 1) 97 x.cs) (star (blkP w.heap.size 174 #[.pointer (some ⟨g, 0, none⟩)]) Q))) from (blkP_stable _ _ _).star ((blkP_stable _ _ _).star ((blkP_stable _ _ _).star hQ)))
  have HC := Lib.hid (x_rwunlock h1 SQ.out hL hW hg id true)
  have c0 := (blk_at' (show Holds B w0 (d3t w g 174 x) (star (blkP w.heap.size 174 #[.pointer (some ⟨g, 0, none⟩)]) (star (rwP g W wr L) (star (blkP (w.heap.size + 1 + 1) 150 #[.bool false, .slice none 0 0, .int .i64 0]) (star (blkP (w.heap.size + 1) 97 x.cs) Q)))) from h1.perm (by ac_rfl))).cell 0
  have XO := blk_at' (show Holds B w0 (d3t w g 174 x) (star (blkP (w.heap.size + 1) 97 x.cs) (star (rwP g W wr L) (star (blkP (w.heap.size + 1 + 1) 150 #[.bool false, .slice none 0 0, .int .i64 0]) (star (blkP w.heap.size 174 #[.pointer (some ⟨g, 0, none⟩)]) Q)))) from h1.perm (by ac_rfl))
  have o0 := XO.cell 0
  have o2 := XO.cell 2
  have HQ := Lib.hid hQ
  generalize rwUnlock W wr L id true = r at *
  obtain ⟨r1, r2, r3, r4, r5⟩ := r
  dsimp only at HC ⊢
  clear hL hW hg
  clear h1 hh hQ hk XO
  unfold Op3.val Op3.cs
  go_enter Try.func135, Try.ntmps135
  go_wp2_with fail
  refine HC.out.mono ?_
  rintro e w5 ⟨A5, c5, rfl, h5⟩
  have h6 : Holds B w0 w5 (star (blkP (w.heap.size + 1 + 1) 150 #[.bool false, .slice none 0 0, .int .i64 0]) (star (rowP 3 1 (.slice A5 r1.length c5) r1.length (ints r1)) (star (rwP g r3 r4 r5) (star (blkP (w.heap.size + 1) 97 x.cs) (star (blkP w.heap.size 174 #[.pointer (some ⟨g, 0, none⟩)]) Q))))) := h5.perm (by ac_rfl)
  have S6 : Stable (star (rowP 3 1 (.slice A5 r1.length c5) r1.length (ints r1)) (star (rwP g r3 r4 r5) (star (blkP (w.heap.size + 1) 97 x.cs) (star (blkP w.heap.size 174 #[.pointer (some ⟨g, 0, none⟩)]) Q)))) := (rowP_stable _ _ _ _ _).star ((rwP_stable _ _ _ _).star ((blkP_stable _ _ _).star ((blkP_stable _ _ _).star HQ.out)))
  obtain ⟨a0, b0, a1, b1, a2, b2, q0, q1, q2, p0, p1⟩ := store3 (blk_at' h6) (.bool false) (.slice A5 r1.length c5) (.int .i64 r2)
  have H7 := Lib.hid (held3 h6 S6 (.bool false) (.slice A5 r1.length c5) (.int .i64 r2))
  clear h5 h6 S6 c0 o0 o2
  go_wp2_with fail
  refine bodyPost_ret (v := .agg #[.bool false, .slice A5 r1.length c5, .int .i64 r2]) (by simp [results, Try.results135, go_sem, hu3, q0, q1, q2]) rfl ?_
  refine ⟨A5, c5, rfl, ?_⟩
  have g8 := H7.out.drop
  have g9 : Holds B w0 (((w5.setCell ⟨w.heap.size + 1 + 1, 0, none⟩ (.bool false)).setCell ⟨w.heap.size + 1 + 1, 1, none⟩ (.slice A5 r1.length c5)).setCell ⟨w.heap.size + 1 + 1, 2, none⟩ (.int .i64 r2)) (star (blkP (w.heap.size + 1) 97 x.cs) (star (blkP w.heap.size 174 #[.pointer (some ⟨g, 0, none⟩)]) (star (rowP 3 1 (.slice A5 r1.length c5) r1.length (ints r1)) (star (rwP g r3 r4 r5) Q)))) := g8.perm (by ac_rfl)
  exact g9.drop.drop
theorem do_gadd {n : Int} {L : List Int} (hh : Holds B w0 w (star (qP 135 g [.int .i64 n] L) Q)) (hQ : Stable Q) (hn : 0 ≤ n) (hm : n ≤ 1073741824) (hd : -9223372036854775808 ≤ x.n) (hd' : x.n ≤ 9223372036854775807) (hk : x.k = 5) :
    Calls Try.prog 136 #[.agg #[.pointer (some ⟨g, 0, none⟩)], tv, .int .i64 id, x.val] w (AnsPost B w0 (false) (gR n x.n L) (gE n x.n) (star (qP 135 g [.int .i64 (gN n x.n)] (gL n x.n L)) Q)) := by
  have hu := Try.underlying176
  have hu2 := Try.underlying97
  have hu3 := Try.underlying150
  have D5 : (x.k == 5) = true := by simp [hk]
  have h1 := do_start_t (g := g) hh (qP_stable _ _ _ _) hQ x 176
  have SQ := Lib.hid (show Stable (star (blkP (w.heap.size + 1 + 1) 150 #[.bool false, .slice none 0 0, .int .i64 0]) (star (blkP (w.heap.size + 1) 97 x.cs) (star (blkP w.heap.size 176 #[.pointer (some ⟨g, 0, none⟩)]) Q))) from (blkP_stable _ _ _).star ((blkP_stable _ _ _).star ((blkP_stable _ _ _).star hQ)))
  have HC := Lib.hid (show Calls Try.prog 49 #[.pointer (some ⟨g, 0, none⟩), .int .i64 x.n] (d3t w g 176 x) (fun e w' => ∃ (A : Option Addr) (c : Nat), e = .returned (.tuple #[.slice A (gR n x.n L).length c, .int .i64 (gE n x.n)]) ∧ Holds B w0 w' (star (rowP 3 1 (.slice A (gR n x.n L).length c) (gR n x.n L).length (ints (gR n x.n L))) (star (qP 135 g [.int .i64 (gN n x.n)] (gL n x.n L)) (star (blkP (w.heap.size + 1 + 1) 150 #[.bool false, .slice none 0 0, .int .i64 0]) (star (blkP (w.heap.size + 1) 97 x.cs) (star (blkP w.heap.size 176 #[.pointer (some ⟨g, 0, none⟩)]) Q)))))) from
    (Holds.on_left_ex h1 SQ.out (α := Option Addr × Nat) (post := fun a e => e = .returned (.tuple #[.slice a.1 (gR n x.n L).length a.2, .int .i64 (gE n x.n)])) (P' := fun a => star (rowP 3 1 (.slice a.1 (gR n x.n L).length a.2) (gR n x.n L).length (ints (gR n x.n L))) (qP 135 g [.int .i64 (gN n x.n)] (gL n x.n L))) fun F hm' => add_calls _ g F n x.n L hm' hn hm hd hd').mono fun e w' ⟨a, he, h⟩ => ⟨a.1, a.2, he, h.perm (by ac_rfl)⟩)
  have c0 := (blk_at' (show Holds B w0 (d3t w g 176 x) (star (blkP w.heap.size 176 #[.pointer (some ⟨g, 0, none⟩)]) (star (qP 135 g [.int .i64 n] L) (star (blkP (w.heap.size + 1 + 1) 150 #[.bool false, .slice none 0 0, .int .i64 0]) (star (blkP (w.heap.size + 1) 97 x.cs) Q)))) from h1.perm (by ac_rfl))).cell 0
  have XO := blk_at' (show Holds B w0 (d3t w g 176 x) (star (blkP (w.heap.size + 1) 97 x.cs) (star (qP 135 g [.int .i64 n] L) (star (blkP (w.heap.size + 1 + 1) 150 #[.bool false, .slice none 0 0, .int .i64 0]) (star (blkP w.heap.size 176 #[.pointer (some ⟨g, 0, none⟩)]) Q)))) from h1.perm (by ac_rfl))
  have o0 := XO.cell 0
  have o2 := XO.cell 2
  have HQ := Lib.hid hQ
  generalize gR n x.n L = r1 at *
  generalize gE n x.n = r2 at *
  generalize gN n x.n = r3 at *
  generalize gL n x.n L = r4 at *
  clear hn hm hd hd'
  clear h1 hh hQ hk XO
  unfold Op3.val Op3.cs
  go_enter Try.func136, Try.ntmps136
  go_wp2_with fail
  refine HC.out.mono ?_
  rintro e w5 ⟨A5, c5, rfl, h5⟩
  have h6 : Holds B w0 w5 (star (blkP (w.heap.size + 1 + 1) 150 #[.bool false, .slice none 0 0, .int .i64 0]) (star (rowP 3 1 (.slice A5 r1.length c5) r1.length (ints r1)) (star (qP 135 g [.int .i64 r3] r4) (star (blkP (w.heap.size + 1) 97 x.cs) (star (blkP w.heap.size 176 #[.pointer (some ⟨g, 0, none⟩)]) Q))))) := h5.perm (by ac_rfl)
  have S6 : Stable (star (rowP 3 1 (.slice A5 r1.length c5) r1.length (ints r1)) (star (qP 135 g [.int .i64 r3] r4) (star (blkP (w.heap.size + 1) 97 x.cs) (star (blkP w.heap.size 176 #[.pointer (some ⟨g, 0, none⟩)]) Q)))) := (rowP_stable _ _ _ _ _).star ((qP_stable _ _ _ _).star ((blkP_stable _ _ _).star ((blkP_stable _ _ _).star HQ.out)))
  obtain ⟨a0, b0, a1, b1, a2, b2, q0, q1, q2, p0, p1⟩ := store3 (blk_at' h6) (.bool false) (.slice A5 r1.length c5) (.int .i64 r2)
  have H7 := Lib.hid (held3 h6 S6 (.bool false) (.slice A5 r1.length c5) (.int .i64 r2))
  clear h5 h6 S6 c0 o0 o2
  go_wp2_with fail
  refine bodyPost_ret (v := .agg #[.bool false, .slice A5 r1.length c5, .int .i64 r2]) (by simp [results, Try.results136, go_sem, hu3, q0, q1, q2]) rfl ?_
  refine ⟨A5, c5, rfl, ?_⟩
  have g8 := H7.out.drop
  have g9 : Holds B w0 (((w5.setCell ⟨w.heap.size + 1 + 1, 0, none⟩ (.bool false)).setCell ⟨w.heap.size + 1 + 1, 1, none⟩ (.slice A5 r1.length c5)).setCell ⟨w.heap.size + 1 + 1, 2, none⟩ (.int .i64 r2)) (star (blkP (w.heap.size + 1) 97 x.cs) (star (blkP w.heap.size 176 #[.pointer (some ⟨g, 0, none⟩)]) (star (rowP 3 1 (.slice A5 r1.length c5) r1.length (ints r1)) (star (qP 135 g [.int .i64 r3] r4) Q)))) := g8.perm (by ac_rfl)
  exact g9.drop.drop
theorem do_gwait {n : Int} {L : List Int} (hh : Holds B w0 w (star (qP 135 g [.int .i64 n] L) Q)) (hQ : Stable Q) (hL : L.length ≤ 1000000) (hk : x.k = 6) :
    Calls Try.prog 136 #[.agg #[.pointer (some ⟨g, 0, none⟩)], tv, .int .i64 id, x.val] w (AnsPost B w0 (!(wB n L id)) ([]) (wE L id) (star (qP 135 g [.int .i64 n] (wL n L id)) Q)) := by
  have hu := Try.underlying176
  have hu2 := Try.underlying97
  have hu3 := Try.underlying150
  have D5 : (x.k == 5) = false := by simp [hk]
  have h1 := do_start_t (g := g) hh (qP_stable _ _ _ _) hQ x 176
  have SQ := Lib.hid (show Stable (star (blkP (w.heap.size + 1 + 1) 150 #[.bool false, .slice none 0 0, .int .i64 0]) (star (blkP (w.heap.size + 1) 97 x.cs) (star (blkP w.heap.size 176 #[.pointer (some ⟨g, 0, none⟩)]) Q))) from (blkP_stable _ _ _).star ((blkP_stable _ _ _).star ((blkP_stable _ _ _).star hQ)))
  have HC := Lib.hid (h1.on_left SQ.out (post := fun e => e = .returned (.tuple #[.bool (wB n L id), .int .i64 (wE L id)])) fun F hm => wait_calls _ g F n id L hm hL)
  have c0 := (blk_at' (show Holds B w0 (d3t w g 176 x) (star (blkP w.heap.size 176 #[.pointer (some ⟨g, 0, none⟩)]) (star (qP 135 g [.int .i64 n] L) (star (blkP (w.heap.size + 1 + 1) 150 #[.bool false, .slice none 0 0, .int .i64 0]) (star (blkP (w.heap.size + 1) 97 x.cs) Q)))) from h1.perm (by ac_rfl))).cell 0
  have XO := blk_at' (show Holds B w0 (d3t w g 176 x) (star (blkP (w.heap.size + 1) 97 x.cs) (star (qP 135 g [.int .i64 n] L) (star (blkP (w.heap.size + 1 + 1) 150 #[.bool false, .slice none 0 0, .int .i64 0]) (star (blkP w.heap.size 176 #[.pointer (some ⟨g, 0, none⟩)]) Q)))) from h1.perm (by ac_rfl))
  have o0 := XO.cell 0
  have o2 := XO.cell 2
  have HQ := Lib.hid hQ
  generalize wB n L id = r1 at *
  generalize wE L id = r2 at *
  generalize wL n L id = r3 at *
  clear hL
  clear h1 hh hQ hk XO
  unfold Op3.val Op3.cs
  go_enter Try.func136, Try.ntmps136
  go_wp2_with fail
  refine HC.out.mono ?_
  rintro e w5 ⟨rfl, h5⟩
  have h6 : Holds B w0 w5 (star (blkP (w.heap.size + 1 + 1) 150 #[.bool false, .slice none 0 0, .int .i64 0]) (star (qP 135 g [.int .i64 n] r3) (star (blkP (w.heap.size + 1) 97 x.cs) (star (blkP w.heap.size 176 #[.pointer (some ⟨g, 0, none⟩)]) Q)))) := h5.perm (by ac_rfl)
  have S6 : Stable (star (qP 135 g [.int .i64 n] r3) (star (blkP (w.heap.size + 1) 97 x.cs) (star (blkP w.heap.size 176 #[.pointer (some ⟨g, 0, none⟩)]) Q))) := (qP_stable _ _ _ _).star ((blkP_stable _ _ _).star ((blkP_stable _ _ _).star HQ.out))
  obtain ⟨a0, b0, a1, b1, a2, b2, q0, q1, q2, p0, p1⟩ := store3 (blk_at' h6) (.bool (!r1)) (.slice none 0 0) (.int .i64 r2)
  have H7 := Lib.hid (held3 h6 S6 (.bool (!r1)) (.slice none 0 0) (.int .i64 r2))
  clear h5 h6 S6 c0 o0 o2
  go_wp2_with fail
  refine bodyPost_ret (v := .agg #[.bool (!r1), .slice none 0 0, .int .i64 r2]) (by simp [results, Try.results136, go_sem, hu3, q0, q1, q2]) rfl ?_
  refine ⟨none, 0, rfl, ?_⟩
  have g8 := H7.out.drop
  have g9 : Holds B w0 (((w5.setCell ⟨w.heap.size + 1 + 1, 0, none⟩ (.bool (!r1))).setCell ⟨w.heap.size + 1 + 1, 1, none⟩ (.slice none 0 0)).setCell ⟨w.heap.size + 1 + 1, 2, none⟩ (.int .i64 r2)) (star (blkP (w.heap.size + 1) 97 x.cs) (star (blkP w.heap.size 176 #[.pointer (some ⟨g, 0, none⟩)]) (star (qP 135 g [.int .i64 n] r3) Q))) := g8.perm (by ac_rfl)
  exact g9.drop.drop.newRow ((qP_stable _ _ _ _).star HQ.out) (Row.nil _ 3 1) (Keep.same _ _) (fun k hk => by simp [Value.ownBlock] at hk)
end
end Go.Proofs.Ytmohpjkbhpgidaa.A
