/-
  The client: send.
-/
import Derived.Test.YthlfcinjmljbjaaD7
namespace Go.Proofs.Ythlfcinjmljbjaa.A
open Go.RowKit Go.Proofs.Ythlfcinjmljbjaa.U
set_option linter.unusedVariables false
set_option linter.unusedSimpArgs false
set_option maxRecDepth 100000

/-- A message that asks. -/
abbrev askCs (S : CS) (o : Oc) : Array Value := #[.int .i64 11, .int .i64 (5 + S.id), .int .i64 S.server, .int .i64 0, .int .i64 0, .int .i64 0, .int .i64 0, .int .i64 0, .slice none 0 0, .int .i64 o.cmd.k, .int .i64 o.cmd.s, .int .i64 o.cmd.q, .string o.cmd.nm, .int .i64 o.cmd.n, .int .i64 0, .int .i64 0, .int .i64 0, .int .u64 0, .int .i64 0, .string ⟨#[]⟩]
theorem send21 (w : World) (b ob : Nat) (S : CS) (o : Oc) (A : Option Addr) (m c : Nat) (now : Int) (h : Blk w b 62 (S.cs (some ⟨ob, 0, none⟩) A m c)) (ho : Blk w ob 66 o.cs) (hne : ob ≠ b) (hid : 0 ≤ S.id ∧ S.id < 8) :
    Calls Try.prog 21 #[.pointer (some ⟨b, 0, none⟩), .int .i64 now] w (fun e w' => e = .returned (.slice (some ⟨w.heap.size, 0, none⟩) 1 1) ∧ w' = ((w.setCell ⟨ob, 6, none⟩ (.int .i64 now)).alloc (.cells (askCs S o) 40)).drew) := by
  have hu := Try.underlying62
  have hu2 := Try.underlying66
  have hu3 := Try.underlying31
  have hu4 := Try.underlying40
  have c7 := h.cell 7
  have o6 := ho.cell 6
  have f6 := ho.free 6
  have B1 := Lib.hid (h.far (p := ⟨ob, 6, none⟩) (fun e => hne e.symm) (.int .i64 now))
  have O1 := Lib.hid (ho.put 6 (.int .i64 now))
  have hH := And.intro B1.out (And.intro (B1.out.cell 3) (And.intro (B1.out.cell 7) (And.intro (O1.out.cell 0) (And.intro (O1.out.cell 1) (And.intro (O1.out.cell 2) (And.intro (O1.out.cell 3) (O1.out.cell 4)))))))
  have HN := Lib.hid (fun w' (hb : Blk w' b 62 (S.cs (some ⟨ob, 0, none⟩) A m c)) => node22 w' b S _ A m c hb hid)
  clear h ho hid
  go_enter Try.func21, Try.ntmps21
  go_wp2_with fail
  go_region_held3 (fun w' => Blk w' b 62 (S.cs (some ⟨ob, 0, none⟩) A m c) ∧ w'.cell? ⟨b, 3, none⟩ = some (.int .i64 S.server) ∧ w'.cell? ⟨b, 7, none⟩ = some (.pointer (some ⟨ob, 0, none⟩)) ∧ w'.cell? ⟨ob, 0, none⟩ = some (.int .i64 o.cmd.k) ∧ w'.cell? ⟨ob, 1, none⟩ = some (.int .i64 o.cmd.s) ∧ w'.cell? ⟨ob, 2, none⟩ = some (.int .i64 o.cmd.q) ∧ w'.cell? ⟨ob, 3, none⟩ = some (.string o.cmd.nm) ∧ w'.cell? ⟨ob, 4, none⟩ = some (.int .i64 o.cmd.n)) (first | exact hH | (refine And.intro (Blk.drew (Blk.alloc B1.out _)) ?_; go_keep) | (refine And.intro (Blk.alloc B1.out _) ?_; go_keep) | go_keep) ((first | (go_at_call 22; refine (HN.out _ (by first | assumption | exact hH.1)).mono ?_; rintro e w7 ⟨rfl, rfl⟩)))
  all_goals go_wp2_with fail
  all_goals go_ret
  all_goals exact ⟨rfl, rfl⟩
end Go.Proofs.Ythlfcinjmljbjaa.A
