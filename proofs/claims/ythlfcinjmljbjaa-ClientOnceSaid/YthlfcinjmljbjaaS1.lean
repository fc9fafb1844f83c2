/-
  Commands: in, within, pack.
-/
import Derived.Test.YthlfcinjmljbjaaG
namespace Go.Proofs.Ythlfcinjmljbjaa.A
open Go.RowKit Go.Proofs.Ythlfcinjmljbjaa.U
set_option linter.unusedVariables false
set_option linter.unusedSimpArgs false
set_option maxRecDepth 100000

def inB (n lo hi : Int) : Bool := decide (lo ≤ n ∧ n ≤ hi)
theorem in_calls (w : World) (n lo hi : Int) : Calls Try.prog 43 #[.int .i64 n, .int .i64 lo, .int .i64 hi] w (fun e w' => e = .returned (.bool (inB n lo hi)) ∧ w' = w) := by
  by_cases h1 : lo ≤ n
  · have g1 : decide (lo ≤ n) = true := decide_eq_true h1
    by_cases h2 : n ≤ hi
    · have D := Lib.hid (show inB n lo hi = true from decide_eq_true ⟨h1, h2⟩)
      have g2 : decide (n ≤ hi) = true := decide_eq_true h2
      go_enter Try.func43, Try.ntmps43
      go_wp2_with fail
      go_ret
      exact ⟨by rw [D.out]; rfl, rfl⟩
    · have D := Lib.hid (show inB n lo hi = false from decide_eq_false (fun h => h2 h.2))
      have g2 : decide (n ≤ hi) = false := decide_eq_false h2
      go_enter Try.func43, Try.ntmps43
      go_wp2_with fail
      go_ret
      exact ⟨by rw [D.out]; rfl, rfl⟩
  · have D := Lib.hid (show inB n lo hi = false from decide_eq_false (fun h => h1 h.1))
    have g1 : decide (lo ≤ n) = false := decide_eq_false h1
    go_enter Try.func43, Try.ntmps43
    go_wp2_with fail
    go_ret
    exact ⟨by rw [D.out]; rfl, rfl⟩
theorem within_calls (w : World) (n lo hi : Int) : Calls Try.prog 52 #[.int .i64 n, .int .i64 lo, .int .i64 hi] w (fun e w' => e = .returned (.bool (inB n lo hi)) ∧ w' = w) := by
  by_cases h1 : lo ≤ n
  · have g1 : decide (lo ≤ n) = true := decide_eq_true h1
    by_cases h2 : n ≤ hi
    · have D := Lib.hid (show inB n lo hi = true from decide_eq_true ⟨h1, h2⟩)
      have g2 : decide (n ≤ hi) = true := decide_eq_true h2
      go_enter Try.func52, Try.ntmps52
      go_wp2_with fail
      go_ret
      exact ⟨by rw [D.out]; rfl, rfl⟩
    · have D := Lib.hid (show inB n lo hi = false from decide_eq_false (fun h => h2 h.2))
      have g2 : decide (n ≤ hi) = false := decide_eq_false h2
      go_enter Try.func52, Try.ntmps52
      go_wp2_with fail
      go_ret
      exact ⟨by rw [D.out]; rfl, rfl⟩
  · have D := Lib.hid (show inB n lo hi = false from decide_eq_false (fun h => h1 h.1))
    have g1 : decide (lo ≤ n) = false := decide_eq_false h1
    go_enter Try.func52, Try.ntmps52
    go_wp2_with fail
    go_ret
    exact ⟨by rw [D.out]; rfl, rfl⟩
structure Cmd where
  k : Int
  s : Int
  q : Int
  nm : ByteArray
  n : Int
def Cmd.cs (c : Cmd) : Array Value := #[.int .i64 c.k, .int .i64 c.s, .int .i64 c.q, .string c.nm, .int .i64 c.n]
def Cmd.val (c : Cmd) : Value := .agg c.cs
theorem pack_calls (w : World) (c : Cmd) : Calls Try.prog 42 #[c.val] w (fun e w' => e = .returned (.agg #[.int .i64 c.k, .int .i64 c.s, .int .i64 c.q, .int .i64 c.n]) ∧ Keep Nothing w w') := by
  have hu := Try.underlying31
  have hu2 := Try.underlying89
  unfold Cmd.val Cmd.cs
  go_enter Try.func42, Try.ntmps42
  go_wp2_with fail
  have D := Blk.fresh (w.alloc (.cells #[.int .i64 c.k, .int .i64 c.s, .int .i64 c.q, .string c.nm, .int .i64 c.n] 31)) 89 #[.int .i64 c.k, .int .i64 c.s, .int .i64 c.q, .int .i64 c.n]
  rw [show (w.alloc (.cells #[.int .i64 c.k, .int .i64 c.s, .int .i64 c.q, .string c.nm, .int .i64 c.n] 31)).heap.size = w.heap.size + 1 by simp] at D
  have d0 := D.cell 0
  have d1 := D.cell 1
  have d2 := D.cell 2
  have d3 := D.cell 3
  refine bodyPost_ret (v := .agg #[.int .i64 c.k, .int .i64 c.s, .int .i64 c.q, .int .i64 c.n]) (by simp [results, Try.results42, go_sem, hu2]) rfl ?_
  exact ⟨rfl, ((Keep.same Nothing w).alloc _).alloc _⟩
def MayP (c : Cmd) : Prop :=
  (c.k = 0 ∧ c.s = 0 ∧ c.q = 0 ∧ c.nm.size = 0 ∧ c.n = 0) ∨
  (c.k = 1 ∧ c.s = 0 ∧ c.q = 0 ∧ c.nm.size = 0 ∧ 1 ≤ c.n ∧ c.n ≤ 1099511627776) ∨
  (c.k = 4 ∧ 1 ≤ c.s ∧ c.s ≤ 1073741824 ∧ c.q = 0 ∧ c.nm.size = 0 ∧ 1 ≤ c.n ∧ c.n ≤ 1099511627776) ∨
  (c.k = 2 ∧ 0 ≤ c.s ∧ c.s ≤ 7 ∧ 1 ≤ c.q ∧ c.q ≤ 1073741824 ∧ c.nm.size = 0 ∧ c.n = 0) ∨
  (c.k = 3 ∧ 1 ≤ c.s ∧ c.s ≤ 1073741824 ∧ 1 ≤ c.q ∧ c.q ≤ 1073741824 ∧ c.nm.size = 0 ∧ c.n = 0) ∨
  (c.k = 9 ∧ 1 ≤ c.s ∧ c.s ≤ 1073741824 ∧ 1 ≤ c.q ∧ c.q ≤ 1073741824 ∧ 1 ≤ c.nm.size ∧ c.nm.size ≤ 64 ∧ -1073741824 ≤ c.n ∧ c.n ≤ 1073741824) ∨
  ((c.k = 5 ∨ c.k = 6 ∨ c.k = 7 ∨ c.k = 8 ∨ c.k = 10 ∨ c.k = 11 ∨ c.k = 12) ∧ 1 ≤ c.s ∧ c.s ≤ 1073741824 ∧ 1 ≤ c.q ∧ c.q ≤ 1073741824 ∧ 1 ≤ c.nm.size ∧ c.nm.size ≤ 64 ∧ c.n = 0)
instance (c : Cmd) : Decidable (MayP c) := by unfold MayP; infer_instance
def mayB (c : Cmd) : Bool := decide (MayP c)
theorem may_t {c : Cmd} (h : MayP c) : mayB c = true := decide_eq_true h
theorem may_f {c : Cmd} (h : ¬ MayP c) : mayB c = false := decide_eq_false h
def maySpec (c : Cmd) (w : World) (e : Ending) (w' : World) : Prop := e = .returned (.bool (mayB c)) ∧ Keep Nothing w w'
end Go.Proofs.Ythlfcinjmljbjaa.A
