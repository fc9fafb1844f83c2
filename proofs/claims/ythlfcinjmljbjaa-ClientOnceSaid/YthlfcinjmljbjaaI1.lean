/-
  The client's law: tell.
-/
import Derived.Test.YthlfcinjmljbjaaF8
namespace Go.Proofs.Ythlfcinjmljbjaa.A
open Go.RowKit Go.Proofs.Ythlfcinjmljbjaa.U
set_option linter.unusedVariables false
set_option linter.unusedSimpArgs false
set_option maxRecDepth 100000

/-- The answer of a server to client 2. -/
abbrev tellM (r : Rp) : Mg := ⟨12, 0, 7, 0, 0, 0, 0, 0, .slice none 0 0, ⟨0, 0, 0, ⟨#[]⟩, 0⟩, r, ⟨#[]⟩⟩
abbrev zMg : Mg := ⟨0, 0, 0, 0, 0, 0, 0, 0, .slice none 0 0, ⟨0, 0, 0, ⟨#[]⟩, 0⟩, ⟨0, 0, 0, 0, 0⟩, ⟨#[]⟩⟩
theorem hi40 : (Try.prog.info? 40).map (·.size) = some 20 := by kernel_rfl
theorem one_results {fn : Func} {p : Tmp} {tmps : Array Value} {w : World} {g : Nat} {cs : Array Value} (h : fn.results = #[.cell p 40]) (hp : tmps.getD p undef = .pointer (some ⟨g, 0, none⟩)) (hg : Blk w g 40 cs) (hi : (Try.prog.info? 40).map (·.size) = some cs.size) :
    (results fn tmps).run Try.prog w = .ok (.agg cs) w := by
  have hl := run_loadVar_row (P := Try.prog) w g 40 40 cs (0, 0) _ hg Try.underlying40 rfl hi
  have hp' : tmps[p]?.getD undef = .pointer (some ⟨g, 0, none⟩) := by simpa using hp
  simp [results, h, hp', asAddr, hl]
theorem tell11 (w : World) (r : Rp) : Calls Try.prog 11 #[r.val] w (fun e w' => e = .returned (tellM r).val ∧ Keep Nothing w w') := by
  have hu := Try.underlying40
  have hu2 := Try.underlying38
  have Z := Blk.fresh (w.alloc (.cells r.cs 38)) 40 zMg.cs
  rw [size_alloc] at Z
  have ZZ := Lib.hid Z
  have R0 := (Blk.fresh w 38 r.cs).alloc (.cells zMg.cs 40)
  have r0 := R0.cell 0
  have r1 := R0.cell 1
  have r2 := R0.cell 2
  have r3 := R0.cell 3
  have r4 := R0.cell 4
  clear Z R0
  go_enter Try.func11, Try.ntmps11
  go_wp2_with (refine wpList_store_row (by rfl) 40 (.tmp 2) (.tmp 4) (by rfl) (w.heap.size + 1) (tellM r).cs (by rfl) (by rfl) 40 zMg.cs ZZ.out hi40 rfl (by simp [Value.oneCell']) ?_)
  refine bodyPost_ret (v := (tellM r).val) (one_results (p := 2) (by rfl) (by rfl) (ZZ.out.setRow _) hi40) rfl ?_
  exact ⟨rfl, (((Keep.same Nothing w).alloc _).alloc _).setRow (.inr (by simp)) _⟩
end Go.Proofs.Ythlfcinjmljbjaa.A
