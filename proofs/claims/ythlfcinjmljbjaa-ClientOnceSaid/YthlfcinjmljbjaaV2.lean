/-
  Equality of commands and of entries.
-/
import Derived.Test.YthlfcinjmljbjaaT1
import Derived.Test.YthlfcinjmljbjaaG
import Derived.Laws.StructEq
namespace Go.Proofs.Ythlfcinjmljbjaa.A
open Go.RowKit Go.Proofs.Ythlfcinjmljbjaa.U
set_option linter.unusedVariables false
set_option linter.unusedSimpArgs false
set_option maxRecDepth 100000

def eqC (c d : Cmd) : Bool := decide (c.k = d.k ∧ c.s = d.s ∧ c.q = d.q ∧ c.nm = d.nm ∧ c.n = d.n)
theorem eqC_iff {c d : Cmd} : eqC c d = true ↔ c = d := by
  unfold eqC
  rw [decide_eq_true_iff]
  constructor
  · rintro ⟨a, b, e, f, g⟩
    cases c; cases d
    simp only at a b e f g
    subst a b e f g
    rfl
  · rintro rfl
    exact ⟨rfl, rfl, rfl, rfl, rfl⟩
theorem eqC_same (c : Cmd) : eqC c c = true := eqC_iff.2 rfl
theorem same_bytes (s s' : ByteArray) : (s.data.toList == s'.data.toList) = decide (s = s') := by
  have := toList_iff' s s'
  rwa [ByteArray.toList_eq, ByteArray.toList_eq] at this
theorem equalC (w : World) (d : Nat) (c e : Cmd) : (Op.equalIn (d + 2) 31 (.agg c.cs) (.agg e.cs)).run Try.prog w = .ok (eqC c e) w := by
  have hu52 := Try.underlying31
  have hu3 := Try.underlying3
  have hu9 := Try.underlying9
  have hf : Try.prog.underlying 31 = some (.struct (Try.prog.fieldsOf 31)) := by kernel_rfl
  have hh : Try.prog.stoodInHeld 31 = false := by kernel_rfl
  unfold Cmd.cs
  rw [run_equalIn_agg w (d + 1) 31 _ _ hf hh]
  have hfl : (Try.prog.fieldsOf 31).toList = (match Try.prog.underlying 31 with | some (.struct fs) => fs.toList | _ => []) := by kernel_rfl
  rw [hfl, hu52]
  have p0 : ∀ (a b c d e : Value) (W : World), (part 3 #[a, b, c, d, e] 0).run Try.prog W = .ok a W := fun a b c d e W => by rfl
  have p1 : ∀ (a b c d e : Value) (W : World), (part 3 #[a, b, c, d, e] 1).run Try.prog W = .ok b W := fun a b c d e W => by rfl
  have p2 : ∀ (a b c d e : Value) (W : World), (part 3 #[a, b, c, d, e] 2).run Try.prog W = .ok c W := fun a b c d e W => by rfl
  have p3 : ∀ (a b c d e : Value) (W : World), (part 9 #[a, b, c, d, e] 3).run Try.prog W = .ok d W := fun a b c d e W => by rfl
  have p4 : ∀ (a b c d e : Value) (W : World), (part 3 #[a, b, c, d, e] 4).run Try.prog W = .ok e W := fun a b c d e W => by rfl
  have q3 := fun x y => run_equalIn_int (P := Try.prog) w d 3 .i64 .i64 x y hu3
  have q9 : ∀ s s' : ByteArray, (Op.equalIn (d + 1) 9 (.string s) (.string s')).run Try.prog w = .ok (decide (s = s')) w := fun s s' => by
    rw [← toList_iff']
    exact run_equalIn_string (P := Try.prog) w d 9 s s' hu9
  simp [Op.eqFields, p0, p1, p2, p3, p4, q3, q9, Result.andThen]
  unfold eqC
  by_cases h0 : c.k = e.k <;> by_cases h1 : c.s = e.s <;> by_cases h2 : c.q = e.q <;> by_cases h3 : c.nm = e.nm <;> by_cases h4 : c.n = e.n <;> simp [h0, h1, h2, h3, h4, p0, p1, p2, p3, p4, q3, q9, Result.andThen]
theorem eql52 (w : World) (c e : Cmd) : (binOp .eql 31 (.agg c.cs) (.agg e.cs)).run Try.prog w = .ok (.bool (eqC c e)) w := by
  rw [run_eql_struct, show (10000 : Nat) = 9998 + 2 from rfl, equalC]; rfl
theorem neq52 (w : World) (c e : Cmd) : (binOp .neq 31 (.agg c.cs) (.agg e.cs)).run Try.prog w = .ok (.bool (!eqC c e)) w := by
  rw [run_neq_struct, show (10000 : Nat) = 9998 + 2 from rfl, equalC]; rfl
end Go.Proofs.Ythlfcinjmljbjaa.A
