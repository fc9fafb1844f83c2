/-
  Contracts of guard's functions.
-/
import Derived.Test.YtgjkbhhlgcjlgaaM
import Derived.Recover
import Derived.Defers
import Derived.LaidEql
namespace Go.Proofs.Ytgjkbhhlgcjlgaa.A
open Go.RowKit Go.Proofs.Ytgjkbhhlgcjlgaa.U
set_option linter.unusedVariables false
set_option linter.unusedSimpArgs false

theorem catch_panic (g : Nat) (x n : Int) (older : List PanicEntry) (w : World) (hb : Blk w g 28 #[.int .i64 x]) :
    CallsD Try.prog 15 #[.pointer (some ⟨g, 0, none⟩)] (.panicking ({ v := .iface 47 (.agg #[.int .i64 n]), recovered := false } :: older)) w fun e u' w' =>
      e = .returned (.tuple #[]) ∧ u' = .panicking ({ v := .iface 47 (.agg #[.int .i64 n]), recovered := true } :: older) ∧ w' = (w.alloc (.cells #[.int .i64 n] 47)).setCell ⟨g, 0, none⟩ (.int .i64 n) := by
  have hta : ∀ (v : Value) (W : World), (Instr.typeAssert (.iface 47 v) 20 47 true).run Try.prog W = .ok (.tuple #[v, .bool true]) W := fun v W => by rfl
  have hu47 := Try.underlying47
  refine callsD_of_wpS Try.func15 rfl fun c₀ cs hu => ?_
  apply wpS_seq
  apply wpS_region
  simp [wpOpsS, go_sem, recoverD, hu, Try.ntmps15, Exit.thenS]
  refine wpS_of_wp ?_
  have e0 : (#[Value.pointer (some ⟨g, 0, none⟩)] ++ (Array.replicate 11 undef).setIfInBounds 3 (Value.iface 47 (Value.agg #[Value.int IntKind.i64 n]))) =
    #[Value.pointer (some ⟨g, 0, none⟩), undef, undef, undef, Value.iface 47 (Value.agg #[Value.int IntKind.i64 n]), undef, undef, undef, undef, undef, undef, undef] := rfl
  rw [e0]
  clear e0
  refine (fun (Q : Exit → Act → World → Prop) (h : ∀ a', a'.defers = [] → Q .normal a' ((w.alloc (.cells #[.int .i64 n] 47)).setCell ⟨g, 0, none⟩ (.int .i64 n))) => (?_ : Code.wp _ _ Q _ _)) _ ?_
  · have HQ := Lib.hid h
    have hb1 := hb.alloc (.cells #[.int .i64 n] 47)
    have hc := hb1.cell 0
    have hz := hb1.free 0
    clear h hb hb1
    go_wp2
    exact HQ.out _ rfl
  · intro a' ha
    cases c₀
    simp_all [bodyPostS, results, Try.results15]
theorem catch_idle (g : Nat) (w : World) :
    CallsD Try.prog 15 #[.pointer (some ⟨g, 0, none⟩)] .returning w fun e u' w' => e = .returned (.tuple #[]) ∧ u' = .returning ∧ w' = w := by
  have hnil : ∀ (W : World), (binOp .eql 20 .nilIface .nilIface).run Try.prog W = .ok (.bool true) W := fun W => by rfl
  refine callsD_of_wpS Try.func15 rfl fun c₀ cs hu => ?_
  apply wpS_seq
  apply wpS_region
  simp [wpOpsS, go_sem, recoverD, hu, Try.ntmps15, Exit.thenS]
  refine wpS_of_wp ?_
  have e0 : (#[Value.pointer (some ⟨g, 0, none⟩)] ++ (Array.replicate 11 undef).setIfInBounds 3 Value.nilIface) =
    #[Value.pointer (some ⟨g, 0, none⟩), undef, undef, undef, Value.nilIface, undef, undef, undef, undef, undef, undef, undef] := rfl
  rw [e0]
  clear e0
  refine (fun (Q : Exit → Act → World → Prop) (h : ∀ a', a'.defers = [] → Q .normal a' w) => (?_ : Code.wp _ _ Q _ _)) _ ?_
  · have HQ := Lib.hid h
    clear h
    go_wp2
    exact HQ.out _ rfl
  · intro a' ha
    cases c₀
    simp_all [bodyPostS, results, Try.results15]

/-! ### New, must -/
theorem new_calls (w : World) : Calls Try.prog 7 #[] w (fun e w' => e = .returned (.pointer (some ⟨w.heap.size + 1, 0, none⟩)) ∧ w' = (w.alloc (.map #[] 0)).alloc (.cells #[.map (some w.heap.size), .slice none 0 0] 45)) := by
  have hu := Try.underlying45
  have hmm := @run_makeMap Try.prog
  go_enter Try.func7, Try.ntmps7
  go_wp2
  go_outline
  go_ret
  exact ⟨rfl, rfl⟩
theorem must_ok (n : Int) (w : World) : Calls Try.prog 16 #[.bool true, .int .i64 n] w (Pure w (.tuple #[])) := by
  go_enter Try.func16, Try.ntmps16
  go_wp2
  go_end0
  exact ⟨rfl, Drew.same _⟩
theorem must_not (n : Int) (w : World) : Calls Try.prog 16 #[.bool false, .int .i64 n] w (fun e w' => e = .panicked [{ v := .iface 47 (.agg #[.int .i64 n]), recovered := false }] ∧ w' = w) := by
  go_enter Try.func16, Try.ntmps16
  go_wp2
  go_outline
  exact ⟨rfl, rfl, rfl⟩
end Go.Proofs.Ytgjkbhhlgcjlgaa.A
