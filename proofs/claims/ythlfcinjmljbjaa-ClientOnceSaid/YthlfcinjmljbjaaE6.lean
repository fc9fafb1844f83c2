/-
  Equality of Held.
-/
import Derived.Test.YthlfcinjmljbjaaE5
namespace Go.Proofs.Ythlfcinjmljbjaa.A
open Go.RowKit Go.Proofs.Ythlfcinjmljbjaa.U
set_option linter.unusedVariables false
set_option linter.unusedSimpArgs false
set_option maxRecDepth 100000

theorem eqH_def (a b : Hd) : eqH a b = decide (a.nm = b.nm ∧ a.rd = b.rd ∧ a.tk = b.tk) := by
  unfold eqH
  congr 1
  apply propext
  constructor
  · rintro rfl; exact ⟨rfl, rfl, rfl⟩
  · rintro ⟨h1, h2, h3⟩
    cases a; cases b
    simp only at h1 h2 h3
    subst h1 h2 h3
    rfl
theorem equalH (w : World) (d : Nat) (c e : Hd) : (Op.equalIn (d + 2) 46 (.agg c.cs) (.agg e.cs)).run Try.prog w = .ok (eqH c e) w := by
  have hu46 := Try.underlying46
  have hu4 := Try.underlying4
  have hu9 := Try.underlying9
  have hu36 := Try.underlying36
  have hf : Try.prog.underlying 46 = some (.struct (Try.prog.fieldsOf 46)) := by kernel_rfl
  have hh : Try.prog.stoodInHeld 46 = false := by kernel_rfl
  unfold Hd.cs
  rw [run_equalIn_agg w (d + 1) 46 _ _ hf hh]
  have hfl : (Try.prog.fieldsOf 46).toList = (match Try.prog.underlying 46 with | some (.struct fs) => fs.toList | _ => []) := by kernel_rfl
  rw [hfl, hu46]
  have p0 : ∀ (a b c : Value) (W : World), (part 9 #[a, b, c] 0).run Try.prog W = .ok a W := fun a b c W => by rfl
  have p1 : ∀ (a b c : Value) (W : World), (part 4 #[a, b, c] 1).run Try.prog W = .ok b W := fun a b c W => by rfl
  have p2 : ∀ (a b c : Value) (W : World), (part 36 #[a, b, c] 2).run Try.prog W = .ok c W := fun a b c W => by rfl
  have q9 : ∀ s s' : ByteArray, (Op.equalIn (d + 1) 9 (.string s) (.string s')).run Try.prog w = .ok (decide (s = s')) w := fun s s' => by
    rw [← toList_iff']
    exact run_equalIn_string (P := Try.prog) w d 9 s s' hu9
  have q36 := fun x y => run_equalIn_int (P := Try.prog) w d 36 .u64 .u64 x y hu36
  have q4 : ∀ x y : Bool, (Op.equalIn (d + 1) 4 (.bool x) (.bool y)).run Try.prog w = .ok (x == y) w := fun x y => by
    exact run_equalIn_bool (P := Try.prog) w d 4 x y hu4
  simp [Op.eqFields, p0, p1, p2, q9, q36, q4, Result.andThen]
  rw [eqH_def]
  by_cases h0 : c.nm = e.nm <;> by_cases h1 : c.rd = e.rd <;> by_cases h2 : c.tk = e.tk <;> simp [h0, h1, h2, p0, p1, p2, q9, q36, q4, Result.andThen]
theorem eql46 (w : World) (c e : Hd) : (binOp .eql 46 (.agg c.cs) (.agg e.cs)).run Try.prog w = .ok (.bool (eqH c e)) w := by
  rw [run_eql_struct, show (10000 : Nat) = 9998 + 2 from rfl, equalH]; rfl
theorem neq46 (w : World) (c e : Hd) : (binOp .neq 46 (.agg c.cs) (.agg e.cs)).run Try.prog w = .ok (.bool (!eqH c e)) w := by
  rw [run_neq_struct, show (10000 : Nat) = 9998 + 2 from rfl, equalH]; rfl
end Go.Proofs.Ythlfcinjmljbjaa.A
