/-
  The client's small methods.
-/
import Derived.Test.YthlfcinjmljbjaaD3
namespace Go.Proofs.Ythlfcinjmljbjaa.A
open Go.RowKit Go.Proofs.Ythlfcinjmljbjaa.U
set_option linter.unusedVariables false
set_option linter.unusedSimpArgs false
set_option maxRecDepth 100000

/-- Until when a lease lasts. -/
def leaseV (sent : Int) : Int := (if sent < 2199023255552 then sent else 2199023255552) + 700
theorem lease26 (w : World) (s : Int) (h : I64 s) : Calls Try.prog 26 #[.int .i64 s] w (fun e w' => e = .returned (.int .i64 (leaseV s)) ∧ w' = w) := by
  have E := Lib.hid (show IntKind.i64.wrap ((if s < 2199023255552 then s else 2199023255552) + 700) = leaseV s by
    unfold leaseV
    rw [IntKind.wrap_i64]
    have := h.1
    split <;> omega)
  rcases (show s < 2199023255552 ∨ s = 2199023255552 ∨ (¬ s < 2199023255552 ∧ 2199023255552 < s) by omega) with h1 | h1 | ⟨h1, h2⟩
  · have E1 := E.out
    rw [if_pos h1] at E1
    have D1 := decide_eq_true h1
    go_enter Try.func26, Try.ntmps26
    go_wp2_with fail
    go_ret
    exact ⟨rfl, rfl⟩
  · subst h1
    have E1 := E.out
    rw [if_neg (by omega)] at E1
    clear h
    go_enter Try.func26, Try.ntmps26
    go_wp2_with fail
    go_ret
    exact ⟨rfl, rfl⟩
  · have E1 := E.out
    rw [if_neg h1] at E1
    have D1 := decide_eq_false h1
    have D2 := decide_eq_true h2
    have E3 : leaseV s = 2199023256252 := by unfold leaseV; rw [if_neg h1]; rfl
    clear h E1
    go_enter Try.func26, Try.ntmps26
    go_wp2_with fail
    go_ret
    exact ⟨rfl, rfl⟩
theorem node22 (w : World) (b : Nat) (S : CS) (p A : Option Addr) (m c : Nat) (h : Blk w b 62 (S.cs p A m c)) (hid : 0 ≤ S.id ∧ S.id < 8) :
    Calls Try.prog 22 #[.pointer (some ⟨b, 0, none⟩)] w (fun e w' => e = .returned (.int .i64 (5 + S.id)) ∧ w' = w) := by
  have hu := Try.underlying62
  have c0 := h.cell 0
  have E : IntKind.i64.wrap (5 + S.id) = 5 + S.id := by rw [IntKind.wrap_i64]; omega
  clear h hid
  go_enter Try.func22, Try.ntmps22
  go_wp2_with fail
  go_ret
  exact ⟨rfl, rfl⟩
theorem session17 (w : World) (b : Nat) (S : CS) (p A : Option Addr) (m c : Nat) (h : Blk w b 62 (S.cs p A m c)) :
    Calls Try.prog 17 #[.pointer (some ⟨b, 0, none⟩)] w (fun e w' => e = .returned (.int .i64 S.session) ∧ w' = w) := by
  have hu := Try.underlying62
  have c0 := h.cell 4
  clear h
  go_enter Try.func17, Try.ntmps17
  go_wp2_with fail
  go_ret
  exact ⟨rfl, rfl⟩
theorem session17n (w : World) : Calls Try.prog 17 #[.pointer none] w (fun e w' => e = .returned (.int .i64 0) ∧ w' = w) := by
  go_enter Try.func17, Try.ntmps17
  go_wp2_with fail
  go_ret
  exact ⟨rfl, rfl⟩
theorem busy15 (w : World) (b : Nat) (S : CS) (p A : Option Addr) (m c : Nat) (h : Blk w b 62 (S.cs p A m c)) :
    Calls Try.prog 15 #[.pointer (some ⟨b, 0, none⟩)] w (fun e w' => e = .returned (.bool p.isSome) ∧ w' = w) := by
  have hu := Try.underlying62
  have c0 := h.cell 7
  clear h
  cases p with
  | none =>
    go_enter Try.func15, Try.ntmps15
    go_wp2_with fail
    go_ret
    exact ⟨rfl, rfl⟩
  | some a =>
    go_enter Try.func15, Try.ntmps15
    go_wp2_with fail
    go_ret
    exact ⟨rfl, rfl⟩
theorem busy15n (w : World) : Calls Try.prog 15 #[.pointer none] w (fun e w' => e = .returned (.bool false) ∧ w' = w) := by
  go_enter Try.func15, Try.ntmps15
  go_wp2_with fail
  go_ret
  exact ⟨rfl, rfl⟩
def CS.valid (S : CS) (now : Int) : Bool := decide (0 < S.session) && decide (now < S.til)
theorem valid12 (w : World) (b : Nat) (S : CS) (p A : Option Addr) (m c : Nat) (now : Int) (h : Blk w b 62 (S.cs p A m c)) :
    Calls Try.prog 12 #[.pointer (some ⟨b, 0, none⟩), .int .i64 now] w (fun e w' => e = .returned (.bool (S.valid now)) ∧ w' = w) := by
  have hu := Try.underlying62
  have c0 := h.cell 4
  have c1 := h.cell 8
  clear h
  unfold CS.valid
  cases h1 : decide (0 < S.session) with
  | true =>
    cases h2 : decide (now < S.til) with
    | true =>
      go_enter Try.func12, Try.ntmps12
      go_wp2_with fail
      go_ret
      exact ⟨rfl, rfl⟩
    | false =>
      go_enter Try.func12, Try.ntmps12
      go_wp2_with fail
      go_ret
      exact ⟨rfl, rfl⟩
  | false =>
    go_enter Try.func12, Try.ntmps12
    go_wp2_with fail
    go_ret
    exact ⟨by simp, rfl⟩
theorem valid12n (w : World) (now : Int) : Calls Try.prog 12 #[.pointer none, .int .i64 now] w (fun e w' => e = .returned (.bool false) ∧ w' = w) := by
  go_enter Try.func12, Try.ntmps12
  go_wp2_with fail
  go_ret
  exact ⟨rfl, rfl⟩
def Oc.session (o : Oc) : Int := if o.cmd.k = 2 then 0 else o.cmd.s
theorem session23 (w : World) (b : Nat) (o : Oc) (h : Blk w b 66 o.cs) :
    Calls Try.prog 23 #[.pointer (some ⟨b, 0, none⟩)] w (fun e w' => e = .returned (.int .i64 o.session) ∧ w' = w) := by
  have hu := Try.underlying66
  have hu2 := Try.underlying31
  have c0 := h.cell 0
  have c1 := h.cell 1
  clear h
  unfold Oc.session
  by_cases hk : o.cmd.k = 2
  · rw [if_pos hk]
    have D : (o.cmd.k == 2) = true := by simp [hk]
    clear hk
    go_enter Try.func23, Try.ntmps23
    go_wp2_with fail
    go_ret
    exact ⟨rfl, rfl⟩
  · rw [if_neg hk]
    have D : (o.cmd.k == 2) = false := by simp [hk]
    clear hk
    go_enter Try.func23, Try.ntmps23
    go_wp2_with fail
    go_ret
    exact ⟨rfl, rfl⟩
end Go.Proofs.Ythlfcinjmljbjaa.A
