/-
  Small words for the client's texts.
-/
import Derived.Test.YthlfcinjmljbjaaW
import Derived.Test.YthlfcinjmljbjaaX
import Derived.Test.YthlfcinjmljbjaaZ
import Derived.Test.YthlfcinjmljbjaaQ
import Derived.Deep.RegionHeld3
import Derived.Laws.StructEq
namespace Go.Proofs.Ythlfcinjmljbjaa.A
open Go.RowKit Go.Proofs.Ythlfcinjmljbjaa.U
abbrev I64 (n : Int) : Prop := -9223372036854775808 ≤ n ∧ n ≤ 9223372036854775807
abbrev unit_ : Ending → Prop := fun e => e = .returned (.tuple #[])
theorem size0 {s : ByteArray} (h : s.size = 0) : s = ByteArray.empty := ByteArray.ext (Array.eq_empty_of_size_eq_zero h)
theorem list_ne {s : ByteArray} (h : s.size ≠ 0) : (s.toList == []) = false := by
  rw [beq_eq_false_iff_ne, ByteArray.toList_eq]
  intro e
  exact h (by have := congrArg List.length e; simpa using this)
theorem toList_iff' (s t : ByteArray) : (s.toList == t.toList) = decide (s = t) := by
  rw [ByteArray.toList_eq, ByteArray.toList_eq]
  by_cases h : s = t
  · subst h; simp
  · rw [decide_eq_false h, beq_eq_false_iff_ne]
    intro e
    exact h (ByteArray.ext (Array.ext' e))
end Go.Proofs.Ythlfcinjmljbjaa.A
