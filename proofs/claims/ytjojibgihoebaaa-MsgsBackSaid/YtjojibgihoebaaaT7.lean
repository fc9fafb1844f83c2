/-
  A command out of bytes.
-/
import Derived.Test.YtjojibgihoebaaaT6
import Derived.Test.YtjojibgihoebaaaK
namespace Go.Proofs.Ytjojibgihoebaaa.A
open Go.RowKit Go.Proofs.Ytjojibgihoebaaa.U
set_option linter.unusedVariables false
set_option linter.unusedSimpArgs false
set_option maxRecDepth 100000

def dx1 (s : ByteArray) : Rd := uN ⟨s, false⟩
def dx2 (s : ByteArray) : Rd := uN (dx1 s)
def dx3 (s : ByteArray) : Rd := uN (dx2 s)
def dx4 (s : ByteArray) : Rd := tN (dx3 s)
def dx5 (s : ByteArray) : Rd := uN (dx4 s)
def decC (s : ByteArray) : Cmd := ⟨iV ⟨s, false⟩, iV (dx1 s), iV (dx2 s), tV (dx3 s), iV (dx4 s)⟩
def decOk (s : ByteArray) : Bool := decide (dV (dx5 s) = 0) && mayB (decC s)
def zeroC : Cmd := ⟨0, 0, 0, ByteArray.empty, 0⟩
def decR (s : ByteArray) : Cmd := if decOk s then decC s else zeroC
def okF (b : Bool) : Int := if b then 0 else 2
theorem dV_two {x : Rd} (h : ¬ dV x = 0) : dV x = 2 := by
  unfold dV at *
  split at h <;> split <;> simp_all
theorem dx3_size (s : ByteArray) : (dx3 s).s.size ≤ s.size := Nat.le_trans (uN_size _) (Nat.le_trans (uN_size _) (uN_size _))
abbrev zcs : Array Value := #[.int .i64 0, .int .i64 0, .int .i64 0, .string ByteArray.empty, .int .i64 0]
theorem store5 {w : World} {g t : Nat} {c0 c1 c2 c3 c4 : Value} (B : Blk w g t #[c0, c1, c2, c3, c4]) (v0 v1 v2 v3 v4 : Value) :
    w.cell? ⟨g, 0, none⟩ = some c0 ∧
    w.frozen? ⟨g, 0, none⟩ = false ∧
    (w.setCell ⟨g, 0, none⟩ v0).cell? ⟨g, 1, none⟩ = some c1 ∧
    (w.setCell ⟨g, 0, none⟩ v0).frozen? ⟨g, 1, none⟩ = false ∧
    ((w.setCell ⟨g, 0, none⟩ v0).setCell ⟨g, 1, none⟩ v1).cell? ⟨g, 2, none⟩ = some c2 ∧
    ((w.setCell ⟨g, 0, none⟩ v0).setCell ⟨g, 1, none⟩ v1).frozen? ⟨g, 2, none⟩ = false ∧
    (((w.setCell ⟨g, 0, none⟩ v0).setCell ⟨g, 1, none⟩ v1).setCell ⟨g, 2, none⟩ v2).cell? ⟨g, 3, none⟩ = some c3 ∧
    (((w.setCell ⟨g, 0, none⟩ v0).setCell ⟨g, 1, none⟩ v1).setCell ⟨g, 2, none⟩ v2).frozen? ⟨g, 3, none⟩ = false ∧
    ((((w.setCell ⟨g, 0, none⟩ v0).setCell ⟨g, 1, none⟩ v1).setCell ⟨g, 2, none⟩ v2).setCell ⟨g, 3, none⟩ v3).cell? ⟨g, 4, none⟩ = some c4 ∧
    ((((w.setCell ⟨g, 0, none⟩ v0).setCell ⟨g, 1, none⟩ v1).setCell ⟨g, 2, none⟩ v2).setCell ⟨g, 3, none⟩ v3).frozen? ⟨g, 4, none⟩ = false ∧
    (((((w.setCell ⟨g, 0, none⟩ v0).setCell ⟨g, 1, none⟩ v1).setCell ⟨g, 2, none⟩ v2).setCell ⟨g, 3, none⟩ v3).setCell ⟨g, 4, none⟩ v4).cell? ⟨g, 0, none⟩ = some v0 ∧
    (((((w.setCell ⟨g, 0, none⟩ v0).setCell ⟨g, 1, none⟩ v1).setCell ⟨g, 2, none⟩ v2).setCell ⟨g, 3, none⟩ v3).setCell ⟨g, 4, none⟩ v4).cell? ⟨g, 1, none⟩ = some v1 ∧
    (((((w.setCell ⟨g, 0, none⟩ v0).setCell ⟨g, 1, none⟩ v1).setCell ⟨g, 2, none⟩ v2).setCell ⟨g, 3, none⟩ v3).setCell ⟨g, 4, none⟩ v4).cell? ⟨g, 2, none⟩ = some v2 ∧
    (((((w.setCell ⟨g, 0, none⟩ v0).setCell ⟨g, 1, none⟩ v1).setCell ⟨g, 2, none⟩ v2).setCell ⟨g, 3, none⟩ v3).setCell ⟨g, 4, none⟩ v4).cell? ⟨g, 3, none⟩ = some v3 ∧
    (((((w.setCell ⟨g, 0, none⟩ v0).setCell ⟨g, 1, none⟩ v1).setCell ⟨g, 2, none⟩ v2).setCell ⟨g, 3, none⟩ v3).setCell ⟨g, 4, none⟩ v4).cell? ⟨g, 4, none⟩ = some v4 ∧
    (w.setCell ⟨g, 0, none⟩ v0).cell? ⟨g, 0, none⟩ = some v0 ∧
    ((w.setCell ⟨g, 0, none⟩ v0).setCell ⟨g, 1, none⟩ v1).cell? ⟨g, 1, none⟩ = some v1 ∧
    (((w.setCell ⟨g, 0, none⟩ v0).setCell ⟨g, 1, none⟩ v1).setCell ⟨g, 2, none⟩ v2).cell? ⟨g, 2, none⟩ = some v2 ∧
    ((((w.setCell ⟨g, 0, none⟩ v0).setCell ⟨g, 1, none⟩ v1).setCell ⟨g, 2, none⟩ v2).setCell ⟨g, 3, none⟩ v3).cell? ⟨g, 3, none⟩ = some v3 := by
  have B0 := B
  have B1 : Blk (w.setCell ⟨g, 0, none⟩ v0) g t #[v0, c1, c2, c3, c4] := B0.put 0 v0
  have B2 : Blk ((w.setCell ⟨g, 0, none⟩ v0).setCell ⟨g, 1, none⟩ v1) g t #[v0, v1, c2, c3, c4] := B1.put 1 v1
  have B3 : Blk (((w.setCell ⟨g, 0, none⟩ v0).setCell ⟨g, 1, none⟩ v1).setCell ⟨g, 2, none⟩ v2) g t #[v0, v1, v2, c3, c4] := B2.put 2 v2
  have B4 : Blk ((((w.setCell ⟨g, 0, none⟩ v0).setCell ⟨g, 1, none⟩ v1).setCell ⟨g, 2, none⟩ v2).setCell ⟨g, 3, none⟩ v3) g t #[v0, v1, v2, v3, c4] := B3.put 3 v3
  have B5 : Blk (((((w.setCell ⟨g, 0, none⟩ v0).setCell ⟨g, 1, none⟩ v1).setCell ⟨g, 2, none⟩ v2).setCell ⟨g, 3, none⟩ v3).setCell ⟨g, 4, none⟩ v4) g t #[v0, v1, v2, v3, v4] := B4.put 4 v4
  exact ⟨B0.cell 0, B0.free 0, B1.cell 1, B1.free 1, B2.cell 2, B2.free 2, B3.cell 3, B3.free 3, B4.cell 4, B4.free 4, B5.cell 0, B5.cell 1, B5.cell 2, B5.cell 3, B5.cell 4, B1.cell 0, B2.cell 1, B3.cell 2, B4.cell 3⟩
theorem below5 {B : Nat} {w0 w : World} {Q : SP} {g t : Nat} {c0 c1 c2 c3 c4 : Value} (h : Holds B w0 w (star (blkP g t #[c0, c1, c2, c3, c4]) Q)) (hQ : Stable Q) (v0 v1 v2 v3 v4 : Value) : Below B w0 (((((w.setCell ⟨g, 0, none⟩ v0).setCell ⟨g, 1, none⟩ v1).setCell ⟨g, 2, none⟩ v2).setCell ⟨g, 3, none⟩ v3).setCell ⟨g, 4, none⟩ v4) := by
  exact (((((h.setBlk hQ 0 v0).setBlk hQ 1 v1).setBlk hQ 2 v2).setBlk hQ 3 v3).setBlk hQ 4 v4).below
theorem store7 {w : World} {g t : Nat} {c0 c1 c2 c3 c4 c5 c6 : Value} (B : Blk w g t #[c0, c1, c2, c3, c4, c5, c6]) (v0 v1 v2 v3 v4 v5 v6 : Value) :
    w.cell? ⟨g, 0, none⟩ = some c0 ∧
    w.frozen? ⟨g, 0, none⟩ = false ∧
    (w.setCell ⟨g, 0, none⟩ v0).cell? ⟨g, 1, none⟩ = some c1 ∧
    (w.setCell ⟨g, 0, none⟩ v0).frozen? ⟨g, 1, none⟩ = false ∧
    ((w.setCell ⟨g, 0, none⟩ v0).setCell ⟨g, 1, none⟩ v1).cell? ⟨g, 2, none⟩ = some c2 ∧
    ((w.setCell ⟨g, 0, none⟩ v0).setCell ⟨g, 1, none⟩ v1).frozen? ⟨g, 2, none⟩ = false ∧
    (((w.setCell ⟨g, 0, none⟩ v0).setCell ⟨g, 1, none⟩ v1).setCell ⟨g, 2, none⟩ v2).cell? ⟨g, 3, none⟩ = some c3 ∧
    (((w.setCell ⟨g, 0, none⟩ v0).setCell ⟨g, 1, none⟩ v1).setCell ⟨g, 2, none⟩ v2).frozen? ⟨g, 3, none⟩ = false ∧
    ((((w.setCell ⟨g, 0, none⟩ v0).setCell ⟨g, 1, none⟩ v1).setCell ⟨g, 2, none⟩ v2).setCell ⟨g, 3, none⟩ v3).cell? ⟨g, 4, none⟩ = some c4 ∧
    ((((w.setCell ⟨g, 0, none⟩ v0).setCell ⟨g, 1, none⟩ v1).setCell ⟨g, 2, none⟩ v2).setCell ⟨g, 3, none⟩ v3).frozen? ⟨g, 4, none⟩ = false ∧
    (((((w.setCell ⟨g, 0, none⟩ v0).setCell ⟨g, 1, none⟩ v1).setCell ⟨g, 2, none⟩ v2).setCell ⟨g, 3, none⟩ v3).setCell ⟨g, 4, none⟩ v4).cell? ⟨g, 5, none⟩ = some c5 ∧
    (((((w.setCell ⟨g, 0, none⟩ v0).setCell ⟨g, 1, none⟩ v1).setCell ⟨g, 2, none⟩ v2).setCell ⟨g, 3, none⟩ v3).setCell ⟨g, 4, none⟩ v4).frozen? ⟨g, 5, none⟩ = false ∧
    ((((((w.setCell ⟨g, 0, none⟩ v0).setCell ⟨g, 1, none⟩ v1).setCell ⟨g, 2, none⟩ v2).setCell ⟨g, 3, none⟩ v3).setCell ⟨g, 4, none⟩ v4).setCell ⟨g, 5, none⟩ v5).cell? ⟨g, 6, none⟩ = some c6 ∧
    ((((((w.setCell ⟨g, 0, none⟩ v0).setCell ⟨g, 1, none⟩ v1).setCell ⟨g, 2, none⟩ v2).setCell ⟨g, 3, none⟩ v3).setCell ⟨g, 4, none⟩ v4).setCell ⟨g, 5, none⟩ v5).frozen? ⟨g, 6, none⟩ = false ∧
    (((((((w.setCell ⟨g, 0, none⟩ v0).setCell ⟨g, 1, none⟩ v1).setCell ⟨g, 2, none⟩ v2).setCell ⟨g, 3, none⟩ v3).setCell ⟨g, 4, none⟩ v4).setCell ⟨g, 5, none⟩ v5).setCell ⟨g, 6, none⟩ v6).cell? ⟨g, 0, none⟩ = some v0 ∧
    (((((((w.setCell ⟨g, 0, none⟩ v0).setCell ⟨g, 1, none⟩ v1).setCell ⟨g, 2, none⟩ v2).setCell ⟨g, 3, none⟩ v3).setCell ⟨g, 4, none⟩ v4).setCell ⟨g, 5, none⟩ v5).setCell ⟨g, 6, none⟩ v6).cell? ⟨g, 1, none⟩ = some v1 ∧
    (((((((w.setCell ⟨g, 0, none⟩ v0).setCell ⟨g, 1, none⟩ v1).setCell ⟨g, 2, none⟩ v2).setCell ⟨g, 3, none⟩ v3).setCell ⟨g, 4, none⟩ v4).setCell ⟨g, 5, none⟩ v5).setCell ⟨g, 6, none⟩ v6).cell? ⟨g, 2, none⟩ = some v2 ∧
    (((((((w.setCell ⟨g, 0, none⟩ v0).setCell ⟨g, 1, none⟩ v1).setCell ⟨g, 2, none⟩ v2).setCell ⟨g, 3, none⟩ v3).setCell ⟨g, 4, none⟩ v4).setCell ⟨g, 5, none⟩ v5).setCell ⟨g, 6, none⟩ v6).cell? ⟨g, 3, none⟩ = some v3 ∧
    (((((((w.setCell ⟨g, 0, none⟩ v0).setCell ⟨g, 1, none⟩ v1).setCell ⟨g, 2, none⟩ v2).setCell ⟨g, 3, none⟩ v3).setCell ⟨g, 4, none⟩ v4).setCell ⟨g, 5, none⟩ v5).setCell ⟨g, 6, none⟩ v6).cell? ⟨g, 4, none⟩ = some v4 ∧
    (((((((w.setCell ⟨g, 0, none⟩ v0).setCell ⟨g, 1, none⟩ v1).setCell ⟨g, 2, none⟩ v2).setCell ⟨g, 3, none⟩ v3).setCell ⟨g, 4, none⟩ v4).setCell ⟨g, 5, none⟩ v5).setCell ⟨g, 6, none⟩ v6).cell? ⟨g, 5, none⟩ = some v5 ∧
    (((((((w.setCell ⟨g, 0, none⟩ v0).setCell ⟨g, 1, none⟩ v1).setCell ⟨g, 2, none⟩ v2).setCell ⟨g, 3, none⟩ v3).setCell ⟨g, 4, none⟩ v4).setCell ⟨g, 5, none⟩ v5).setCell ⟨g, 6, none⟩ v6).cell? ⟨g, 6, none⟩ = some v6 ∧
    (w.setCell ⟨g, 0, none⟩ v0).cell? ⟨g, 0, none⟩ = some v0 ∧
    ((w.setCell ⟨g, 0, none⟩ v0).setCell ⟨g, 1, none⟩ v1).cell? ⟨g, 1, none⟩ = some v1 ∧
    (((w.setCell ⟨g, 0, none⟩ v0).setCell ⟨g, 1, none⟩ v1).setCell ⟨g, 2, none⟩ v2).cell? ⟨g, 2, none⟩ = some v2 ∧
    ((((w.setCell ⟨g, 0, none⟩ v0).setCell ⟨g, 1, none⟩ v1).setCell ⟨g, 2, none⟩ v2).setCell ⟨g, 3, none⟩ v3).cell? ⟨g, 3, none⟩ = some v3 ∧
    (((((w.setCell ⟨g, 0, none⟩ v0).setCell ⟨g, 1, none⟩ v1).setCell ⟨g, 2, none⟩ v2).setCell ⟨g, 3, none⟩ v3).setCell ⟨g, 4, none⟩ v4).cell? ⟨g, 4, none⟩ = some v4 ∧
    ((((((w.setCell ⟨g, 0, none⟩ v0).setCell ⟨g, 1, none⟩ v1).setCell ⟨g, 2, none⟩ v2).setCell ⟨g, 3, none⟩ v3).setCell ⟨g, 4, none⟩ v4).setCell ⟨g, 5, none⟩ v5).cell? ⟨g, 5, none⟩ = some v5 := by
  have B0 := B
  have B1 : Blk (w.setCell ⟨g, 0, none⟩ v0) g t #[v0, c1, c2, c3, c4, c5, c6] := B0.put 0 v0
  have B2 : Blk ((w.setCell ⟨g, 0, none⟩ v0).setCell ⟨g, 1, none⟩ v1) g t #[v0, v1, c2, c3, c4, c5, c6] := B1.put 1 v1
  have B3 : Blk (((w.setCell ⟨g, 0, none⟩ v0).setCell ⟨g, 1, none⟩ v1).setCell ⟨g, 2, none⟩ v2) g t #[v0, v1, v2, c3, c4, c5, c6] := B2.put 2 v2
  have B4 : Blk ((((w.setCell ⟨g, 0, none⟩ v0).setCell ⟨g, 1, none⟩ v1).setCell ⟨g, 2, none⟩ v2).setCell ⟨g, 3, none⟩ v3) g t #[v0, v1, v2, v3, c4, c5, c6] := B3.put 3 v3
  have B5 : Blk (((((w.setCell ⟨g, 0, none⟩ v0).setCell ⟨g, 1, none⟩ v1).setCell ⟨g, 2, none⟩ v2).setCell ⟨g, 3, none⟩ v3).setCell ⟨g, 4, none⟩ v4) g t #[v0, v1, v2, v3, v4, c5, c6] := B4.put 4 v4
  have B6 : Blk ((((((w.setCell ⟨g, 0, none⟩ v0).setCell ⟨g, 1, none⟩ v1).setCell ⟨g, 2, none⟩ v2).setCell ⟨g, 3, none⟩ v3).setCell ⟨g, 4, none⟩ v4).setCell ⟨g, 5, none⟩ v5) g t #[v0, v1, v2, v3, v4, v5, c6] := B5.put 5 v5
  have B7 : Blk (((((((w.setCell ⟨g, 0, none⟩ v0).setCell ⟨g, 1, none⟩ v1).setCell ⟨g, 2, none⟩ v2).setCell ⟨g, 3, none⟩ v3).setCell ⟨g, 4, none⟩ v4).setCell ⟨g, 5, none⟩ v5).setCell ⟨g, 6, none⟩ v6) g t #[v0, v1, v2, v3, v4, v5, v6] := B6.put 6 v6
  exact ⟨B0.cell 0, B0.free 0, B1.cell 1, B1.free 1, B2.cell 2, B2.free 2, B3.cell 3, B3.free 3, B4.cell 4, B4.free 4, B5.cell 5, B5.free 5, B6.cell 6, B6.free 6, B7.cell 0, B7.cell 1, B7.cell 2, B7.cell 3, B7.cell 4, B7.cell 5, B7.cell 6, B1.cell 0, B2.cell 1, B3.cell 2, B4.cell 3, B5.cell 4, B6.cell 5⟩
theorem below7 {B : Nat} {w0 w : World} {Q : SP} {g t : Nat} {c0 c1 c2 c3 c4 c5 c6 : Value} (h : Holds B w0 w (star (blkP g t #[c0, c1, c2, c3, c4, c5, c6]) Q)) (hQ : Stable Q) (v0 v1 v2 v3 v4 v5 v6 : Value) : Below B w0 (((((((w.setCell ⟨g, 0, none⟩ v0).setCell ⟨g, 1, none⟩ v1).setCell ⟨g, 2, none⟩ v2).setCell ⟨g, 3, none⟩ v3).setCell ⟨g, 4, none⟩ v4).setCell ⟨g, 5, none⟩ v5).setCell ⟨g, 6, none⟩ v6) := by
  exact (((((((h.setBlk hQ 0 v0).setBlk hQ 1 v1).setBlk hQ 2 v2).setBlk hQ 3 v3).setBlk hQ 4 v4).setBlk hQ 5 v5).setBlk hQ 6 v6).below
set_option maxHeartbeats 6400000 in
theorem dec_calls (w : World) (s : ByteArray) (hs : s.size ≤ 9223372036854775807) : Calls Try.prog 40 #[.string s] w (fun e w' => e = .returned (.tuple #[(decR s).val, .int .i64 (okF (decOk s))]) ∧ Keep Nothing w w') := by
  have hu := Try.underlying52
  have hb : ∀ w', Below w.heap.size w w' → Keep Nothing w w' := fun w' h => Keep.of_below h _
  have H0 := Lib.hid ((Holds.start w).newBlk none_stable 52 zcs)
  have SB := Lib.hid blkP_stable
  have SN := Lib.hid none_stable
  have hs3 := Nat.le_trans (dx3_size s) hs
  have X1 := Lib.hid (show uN ⟨s, false⟩ = dx1 s from rfl)
  have X2 := Lib.hid (show uN (dx1 s) = dx2 s from rfl)
  have X3 := Lib.hid (show uN (dx2 s) = dx3 s from rfl)
  have X4 := Lib.hid (show tN (dx3 s) = dx4 s from rfl)
  have X5 := Lib.hid (show uN (dx4 s) = dx5 s from rfl)
  have HM := Lib.hid (fun w => may_calls w (decC s))
  have OK := Lib.hid (show decOk s = (decide (dV (dx5 s) = 0) && mayB (decC s)) from rfl)
  have RR := Lib.hid (show decR s = if decOk s then decC s else zeroC from rfl)
  have DC := Lib.hid (show decC s = ⟨iV ⟨s, false⟩, iV (dx1 s), iV (dx2 s), tV (dx3 s), iV (dx4 s)⟩ from rfl)
  unfold maySpec at HM
  generalize hm : mayB (decC s) = m at HM OK
  clear hm
  rw [DC.out] at HM
  unfold Cmd.val Cmd.cs at HM
  go_enter Try.func40, Try.ntmps40
  go_wp2_with fail
  refine (of_calls _ _).mono ?_
  rintro e w1 ⟨rfl, hw1⟩
  have H1 := Lib.hid (show Holds w.heap.size w w1 (star (blkP (w.heap.size + 1) 97 (Rd.mk s false).cs) (star (blkP w.heap.size 52 zcs) none_)) by
    rw [hw1]
    have := H0.out.newBlk ((SB.out _ _ _).star SN.out) 97 (Rd.mk s false).cs
    rw [show (w.alloc (.cells zcs 52)).heap.size = w.heap.size + 1 by simp] at this
    exact this)
  clear hw1
  go_wp2_with fail
  refine (x_rdi H1.out ((SB.out _ _ _).star SN.out)).mono ?_
  rintro e w2 ⟨rfl, h2⟩
  rw [X1.out] at h2
  have H3 := Lib.hid (Holds.second (h2.newBlk ((SB.out _ _ _).star ((SB.out _ _ _).star SN.out)) 52 #[.int .i64 (iV ⟨s, false⟩), .int .i64 0, .int .i64 0, .string ByteArray.empty, .int .i64 0]))
  clear h2
  go_wp2_with fail
  refine (x_rdi H3.out ((SB.out _ _ _).star ((SB.out _ _ _).star SN.out))).mono ?_
  rintro e w3 ⟨rfl, h3⟩
  rw [X2.out] at h3
  have H4 := Lib.hid h3
  clear h3
  have d := (blk_at H4.out.drop).cell 1
  have f := (blk_at H4.out.drop).free 1
  have H5 := Lib.hid (show Holds w.heap.size w (w3.setCell ⟨w2.heap.size, 1, none⟩ (.int .i64 (iV (dx1 s)))) (star (blkP (w.heap.size + 1) 97 (dx2 s).cs) (star (blkP w2.heap.size 52 #[.int .i64 (iV ⟨s, false⟩), .int .i64 (iV (dx1 s)), .int .i64 0, .string ByteArray.empty, .int .i64 0]) (star (blkP w.heap.size 52 zcs) none_))) from
    Holds.second ((Holds.second H4.out).setBlk ((SB.out _ _ _).star ((SB.out _ _ _).star SN.out)) 1 (.int .i64 (iV (dx1 s)))))
  go_wp2_with fail
  clear d f
  refine (x_rdi H5.out ((SB.out _ _ _).star ((SB.out _ _ _).star SN.out))).mono ?_
  rintro e w6 ⟨rfl, h6⟩
  rw [X3.out] at h6
  have H6 := Lib.hid h6
  clear h6
  have d := (blk_at H6.out.drop).cell 2
  have f := (blk_at H6.out.drop).free 2
  have H7 := Lib.hid (show Holds w.heap.size w (w6.setCell ⟨w2.heap.size, 2, none⟩ (.int .i64 (iV (dx2 s)))) (star (blkP (w.heap.size + 1) 97 (dx3 s).cs) (star (blkP w2.heap.size 52 #[.int .i64 (iV ⟨s, false⟩), .int .i64 (iV (dx1 s)), .int .i64 (iV (dx2 s)), .string ByteArray.empty, .int .i64 0]) (star (blkP w.heap.size 52 zcs) none_))) from
    Holds.second ((Holds.second H6.out).setBlk ((SB.out _ _ _).star ((SB.out _ _ _).star SN.out)) 2 (.int .i64 (iV (dx2 s)))))
  go_wp2_with fail
  clear d f
  refine (x_rdt H7.out ((SB.out _ _ _).star ((SB.out _ _ _).star SN.out)) hs3).mono ?_
  rintro e w8 ⟨rfl, h8⟩
  rw [X4.out] at h8
  have H8 := Lib.hid h8
  clear h8
  have d := (blk_at H8.out.drop).cell 3
  have f := (blk_at H8.out.drop).free 3
  have H9 := Lib.hid (show Holds w.heap.size w (w8.setCell ⟨w2.heap.size, 3, none⟩ (.string (tV (dx3 s)))) (star (blkP (w.heap.size + 1) 97 (dx4 s).cs) (star (blkP w2.heap.size 52 #[.int .i64 (iV ⟨s, false⟩), .int .i64 (iV (dx1 s)), .int .i64 (iV (dx2 s)), .string (tV (dx3 s)), .int .i64 0]) (star (blkP w.heap.size 52 zcs) none_))) from
    Holds.second ((Holds.second H8.out).setBlk ((SB.out _ _ _).star ((SB.out _ _ _).star SN.out)) 3 (.string (tV (dx3 s)))))
  go_wp2_with fail
  clear d f
  refine (x_rdi H9.out ((SB.out _ _ _).star ((SB.out _ _ _).star SN.out))).mono ?_
  rintro e w10 ⟨rfl, h10⟩
  rw [X5.out] at h10
  have H10 := Lib.hid h10
  clear h10
  have d := (blk_at H10.out.drop).cell 4
  have f := (blk_at H10.out.drop).free 4
  have H11 := Lib.hid (show Holds w.heap.size w (w10.setCell ⟨w2.heap.size, 4, none⟩ (.int .i64 (iV (dx4 s)))) (star (blkP (w.heap.size + 1) 97 (dx5 s).cs) (star (blkP w2.heap.size 52 #[.int .i64 (iV ⟨s, false⟩), .int .i64 (iV (dx1 s)), .int .i64 (iV (dx2 s)), .string (tV (dx3 s)), .int .i64 (iV (dx4 s))]) (star (blkP w.heap.size 52 zcs) none_))) from
    Holds.second ((Holds.second H10.out).setBlk ((SB.out _ _ _).star ((SB.out _ _ _).star SN.out)) 4 (.int .i64 (iV (dx4 s)))))
  go_wp2_with fail
  clear d f
  refine (x_rdd H11.out).mono ?_
  rintro e w12 ⟨rfl, rfl⟩
  have c0 := (blk_at H11.out.drop).cell 0
  have c1 := (blk_at H11.out.drop).cell 1
  have c2 := (blk_at H11.out.drop).cell 2
  have c3 := (blk_at H11.out.drop).cell 3
  have c4 := (blk_at H11.out.drop).cell 4
  generalize hwW : w10.setCell ⟨w2.heap.size, 4, none⟩ (.int .i64 (iV (dx4 s))) = wW at *
  rcases hd : decide (dV (dx5 s) = 0) with _ | _
  · rw [hd] at OK
    have hd' := of_decide_eq_false hd
    clear hd
    have dn : dV (dx5 s) = 2 := dV_two hd'
    rw [dn]
    clear hd' dn
    obtain ⟨r0, f0, r1, f1, r2, f2, r3, f3, r4, f4, q0, q1, q2, q3, q4, p0, p1, p2, p3⟩ := store5 (blk_at H11.out.drop.drop) (.int .i64 0) (.int .i64 0) (.int .i64 0) (.string ⟨#[]⟩) (.int .i64 0)
    have L := Lib.hid (below5 H11.out.drop.drop SN.out (.int .i64 0) (.int .i64 0) (.int .i64 0) (.string ⟨#[]⟩) (.int .i64 0))
    go_wp2_with fail
    refine bodyPost_ret (v := .tuple #[.agg zcs, .int .i64 2]) (by simp [results, Try.results40, go_sem, hu, p0, p1, p2, p3, q0, q1, q2, q3, q4]; rfl) rfl ?_
    have OF : decOk s = false := by rw [OK.out]; rfl
    exact ⟨by rw [RR.out, OF]; rfl, hb _ L.out⟩
  · rw [hd] at OK
    have hd' : dV (dx5 s) = 0 := of_decide_eq_true hd
    rw [hd']
    clear hd hd'
    go_wp2_with fail
    refine (HM.out _).mono ?_
    rintro e w12 ⟨rfl, hk⟩
    have H12 := Lib.hid (H11.out.kept ((SB.out _ _ _).star ((SB.out _ _ _).star ((SB.out _ _ _).star SN.out))) hk)
    clear hk
    cases m with
    | false =>
      obtain ⟨r0, f0, r1, f1, r2, f2, r3, f3, r4, f4, q0, q1, q2, q3, q4, p0, p1, p2, p3⟩ := store5 (blk_at H12.out.drop.drop) (.int .i64 0) (.int .i64 0) (.int .i64 0) (.string ⟨#[]⟩) (.int .i64 0)
      have L := Lib.hid (below5 H12.out.drop.drop SN.out (.int .i64 0) (.int .i64 0) (.int .i64 0) (.string ⟨#[]⟩) (.int .i64 0))
      go_wp2_with fail
      refine bodyPost_ret (v := .tuple #[.agg zcs, .int .i64 2]) (by simp [results, Try.results40, go_sem, hu, p0, p1, p2, p3, q0, q1, q2, q3, q4]; rfl) rfl ?_
      have OF : decOk s = false := by rw [OK.out]; rfl
      exact ⟨by rw [RR.out, OF]; rfl, hb _ L.out⟩
    | true =>
      have c0 := (blk_at H12.out.drop).cell 0
      have c1 := (blk_at H12.out.drop).cell 1
      have c2 := (blk_at H12.out.drop).cell 2
      have c3 := (blk_at H12.out.drop).cell 3
      have c4 := (blk_at H12.out.drop).cell 4
      obtain ⟨r0, f0, r1, f1, r2, f2, r3, f3, r4, f4, q0, q1, q2, q3, q4, p0, p1, p2, p3⟩ := store5 (blk_at H12.out.drop.drop) (.int .i64 (iV ⟨s, false⟩)) (.int .i64 (iV (dx1 s))) (.int .i64 (iV (dx2 s))) (.string (tV (dx3 s))) (.int .i64 (iV (dx4 s)))
      have L := Lib.hid (below5 H12.out.drop.drop SN.out (.int .i64 (iV ⟨s, false⟩)) (.int .i64 (iV (dx1 s))) (.int .i64 (iV (dx2 s))) (.string (tV (dx3 s))) (.int .i64 (iV (dx4 s))))
      go_wp2_with fail
      refine bodyPost_ret (v := .tuple #[(decC s).val, .int .i64 0]) (by simp [results, Try.results40, go_sem, hu, decC, Cmd.val, Cmd.cs, p0, p1, p2, p3, q0, q1, q2, q3, q4]) rfl ?_
      have OF : decOk s = true := by rw [OK.out]; rfl
      exact ⟨by rw [RR.out, OF]; rfl, hb _ L.out⟩
end Go.Proofs.Ytjojibgihoebaaa.A
