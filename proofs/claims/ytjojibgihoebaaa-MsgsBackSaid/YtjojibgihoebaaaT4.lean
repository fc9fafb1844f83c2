/-
  Entries: may one be.
-/
import Derived.Test.YtjojibgihoebaaaT3
namespace Go.Proofs.Ytjojibgihoebaaa.A
open Go.RowKit Go.Proofs.Ytjojibgihoebaaa.U
set_option linter.unusedVariables false
set_option linter.unusedSimpArgs false
set_option maxRecDepth 100000

structure Ent where
  a : Int
  b : Int
  c : Cmd
def Ent.val (x : Ent) : Value := .agg #[.int .i64 x.a, .int .i64 x.b, .int .i64 x.c.k, .int .i64 x.c.s, .int .i64 x.c.q, .string x.c.nm, .int .i64 x.c.n]
def entB (x : Ent) : Bool := inB x.a 1 1099511627776 && inB x.b 0 1099511627776 && mayB x.c
theorem entry_calls (w : World) (x : Ent) : Calls Try.prog 57 #[x.val] w (fun e w' => e = .returned (.bool (entB x)) ∧ Keep Nothing w w') := by
  have hu := Try.underlying54
  have hu2 := Try.underlying52
  have HA := fun w => in_calls w x.a 1 1099511627776
  have HB := fun w => in_calls w x.b 0 1099511627776
  have HM := Lib.hid (fun w => may_calls w x.c)
  unfold maySpec at HM
  have cells := Blk.fresh w 54 #[.int .i64 x.a, .int .i64 x.b, .int .i64 x.c.k, .int .i64 x.c.s, .int .i64 x.c.q, .string x.c.nm, .int .i64 x.c.n]
  have c0 := cells.cell 0
  have c1 := cells.cell 1
  have c2 := cells.cell 2
  have c3 := cells.cell 3
  have c4 := cells.cell 4
  have c5 := cells.cell 5
  have c6 := cells.cell 6
  have K0 := Lib.hid ((Keep.same Nothing w).alloc (.cells #[.int .i64 x.a, .int .i64 x.b, .int .i64 x.c.k, .int .i64 x.c.s, .int .i64 x.c.q, .string x.c.nm, .int .i64 x.c.n] 54))
  have EB := Lib.hid (show entB x = (inB x.a 1 1099511627776 && inB x.b 0 1099511627776 && mayB x.c) from rfl)
  clear cells
  unfold Cmd.val Cmd.cs at HM
  unfold Ent.val
  generalize mayB x.c = m at *
  cases h1 : inB x.a 1 1099511627776 with
  | false =>
    rw [h1] at HA EB
    have HA' := Lib.hid HA
    clear HA HB h1
    go_enter Try.func57, Try.ntmps57
    go_wp2_with fail
    refine (HA'.out _).mono ?_
    rintro e w' ⟨rfl, rfl⟩
    go_wp2_with fail
    go_ret
    exact ⟨by rw [EB.out]; rfl, K0.out⟩
  | true =>
    rw [h1] at HA EB
    cases h2 : inB x.b 0 1099511627776 with
    | false =>
      rw [h2] at HB EB
      have HA' := Lib.hid HA
      have HB' := Lib.hid HB
      clear HA HB h1 h2
      go_enter Try.func57, Try.ntmps57
      go_wp2_with fail
      refine (HA'.out _).mono ?_
      rintro e w' ⟨rfl, rfl⟩
      go_wp2_with fail
      refine (HB'.out _).mono ?_
      rintro e w' ⟨rfl, rfl⟩
      go_wp2_with fail
      go_ret
      exact ⟨by rw [EB.out]; rfl, K0.out⟩
    | true =>
      rw [h2] at HB EB
      have HA' := Lib.hid HA
      have HB' := Lib.hid HB
      clear HA HB h1 h2
      go_enter Try.func57, Try.ntmps57
      go_wp2_with fail
      refine (HA'.out _).mono ?_
      rintro e w' ⟨rfl, rfl⟩
      go_wp2_with fail
      refine (HB'.out _).mono ?_
      rintro e w' ⟨rfl, rfl⟩
      go_wp2_with fail
      refine (HM.out _).mono ?_
      rintro e w' ⟨rfl, hk⟩
      have K := Lib.hid hk
      clear hk
      go_wp2_with fail
      go_ret
      exact ⟨by rw [EB.out]; simp, K0.out.then K.out⟩
theorem rentry_calls (w : World) (x : Ent) : Calls Try.prog 58 #[x.val] w (fun e w' => e = .returned (.bool (entB x)) ∧ Keep Nothing w w') := by
  have hu := Try.underlying54
  have hu2 := Try.underlying52
  have HA := fun w => within_calls w x.a 1 1099511627776
  have HB := fun w => within_calls w x.b 0 1099511627776
  have HM := Lib.hid (fun w => rmay_calls w x.c)
  unfold maySpec at HM
  have cells := Blk.fresh w 54 #[.int .i64 x.a, .int .i64 x.b, .int .i64 x.c.k, .int .i64 x.c.s, .int .i64 x.c.q, .string x.c.nm, .int .i64 x.c.n]
  have c0 := cells.cell 0
  have c1 := cells.cell 1
  have c2 := cells.cell 2
  have c3 := cells.cell 3
  have c4 := cells.cell 4
  have c5 := cells.cell 5
  have c6 := cells.cell 6
  have K0 := Lib.hid ((Keep.same Nothing w).alloc (.cells #[.int .i64 x.a, .int .i64 x.b, .int .i64 x.c.k, .int .i64 x.c.s, .int .i64 x.c.q, .string x.c.nm, .int .i64 x.c.n] 54))
  have EB := Lib.hid (show entB x = (inB x.a 1 1099511627776 && inB x.b 0 1099511627776 && mayB x.c) from rfl)
  clear cells
  unfold Cmd.val Cmd.cs at HM
  unfold Ent.val
  generalize mayB x.c = m at *
  cases h1 : inB x.a 1 1099511627776 with
  | false =>
    rw [h1] at HA EB
    have HA' := Lib.hid HA
    clear HA HB h1
    go_enter Try.func58, Try.ntmps58
    go_wp2_with fail
    refine (HA'.out _).mono ?_
    rintro e w' ⟨rfl, rfl⟩
    go_wp2_with fail
    go_ret
    exact ⟨by rw [EB.out]; rfl, K0.out⟩
  | true =>
    rw [h1] at HA EB
    cases h2 : inB x.b 0 1099511627776 with
    | false =>
      rw [h2] at HB EB
      have HA' := Lib.hid HA
      have HB' := Lib.hid HB
      clear HA HB h1 h2
      go_enter Try.func58, Try.ntmps58
      go_wp2_with fail
      refine (HA'.out _).mono ?_
      rintro e w' ⟨rfl, rfl⟩
      go_wp2_with fail
      refine (HB'.out _).mono ?_
      rintro e w' ⟨rfl, rfl⟩
      go_wp2_with fail
      go_ret
      exact ⟨by rw [EB.out]; rfl, K0.out⟩
    | true =>
      rw [h2] at HB EB
      have HA' := Lib.hid HA
      have HB' := Lib.hid HB
      clear HA HB h1 h2
      go_enter Try.func58, Try.ntmps58
      go_wp2_with fail
      refine (HA'.out _).mono ?_
      rintro e w' ⟨rfl, rfl⟩
      go_wp2_with fail
      refine (HB'.out _).mono ?_
      rintro e w' ⟨rfl, rfl⟩
      go_wp2_with fail
      refine (HM.out _).mono ?_
      rintro e w' ⟨rfl, hk⟩
      have K := Lib.hid hk
      clear hk
      go_wp2_with fail
      go_ret
      exact ⟨by rw [EB.out]; simp, K0.out.then K.out⟩
end Go.Proofs.Ytjojibgihoebaaa.A
