/-
  The client's law: the examples.
-/
import Derived.Test.YthlfcinjmljbjaaI1
namespace Go.Proofs.Ythlfcinjmljbjaa.A
open Go.RowKit Go.Proofs.Ythlfcinjmljbjaa.U
set_option linter.unusedVariables false
set_option linter.unusedSimpArgs false
set_option maxRecDepth 100000
set_option maxHeartbeats 1600000

section
variable {B : Nat} {w0 w : World} {Q R : SP} {b g : Nat} {S : CS} {o : Oc}
theorem call_ok {x : Cmd} {now : Int} {e : Ending} {w' : World} (h : CallPost B w0 b S x now Q e w') (he : callE S x = 0) :
    ∃ g, e = .returned (.tuple #[.slice (some ⟨g, 0, none⟩) 1 1, .int .i64 0]) ∧ Holds B w0 w' (star (rowP 40 20 (.slice (some ⟨g, 0, none⟩) 1 1) 1 (askCs S ⟨callC S x, now, now⟩).toList) (star (cliP b (callS S x now)) Q)) := by
  unfold CallPost at h
  rwa [if_pos he] at h
theorem call_no {x : Cmd} {now : Int} {e : Ending} {w' : World} {k : Int} (h : CallPost B w0 b S x now Q e w') (he : callE S x = k) (hk : k ≠ 0) :
    e = .returned (.tuple #[.slice none 0 0, .int .i64 k]) ∧ Holds B w0 w' (star (cliP b S) Q) := by
  unfold CallPost at h
  rwa [he, if_neg hk] at h
theorem x_holds (h : Holds B w0 w (star (cliP b S) Q)) (hn : S.L.length ≤ 1000000) (hr : Rise S.L) (s : ByteArray) (now : Int) :
    Calls Try.prog 13 #[.pointer (some ⟨b, 0, none⟩), .string s, .int .i64 now] w (fun e w' => e = .returned (.tuple #[(holdsR S s now).1.val, .bool (holdsR S s now).2]) ∧ Keep Nothing w w') := by
  obtain ⟨p, A, c, h1⟩ := cli_open h
  have R1 : Row w 46 3 (.slice A S.L.length c) S.L.length (hds S.L) := (show Holds B w0 _ (star (lrow S A c) (star (blkP b 62 (S.cs p A S.L.length c)) (star (opP p S.op) Q))) from h1.perm (by ac_rfl)).row
  exact holds13 w p A c (blk_at h1) R1.src hn hr s now
theorem x_valid (h : Holds B w0 w (star (cliP b S) Q)) (now : Int) : Calls Try.prog 12 #[.pointer (some ⟨b, 0, none⟩), .int .i64 now] w (fun e w' => e = .returned (.bool (S.valid now)) ∧ w' = w) := by
  obtain ⟨p, A, c, h1⟩ := cli_open h
  exact valid12 w b S p A _ c now (blk_at h1)
theorem x_session (h : Holds B w0 w (star (cliP b S) Q)) : Calls Try.prog 17 #[.pointer (some ⟨b, 0, none⟩)] w (fun e w' => e = .returned (.int .i64 S.session) ∧ w' = w) := by
  obtain ⟨p, A, c, h1⟩ := cli_open h
  exact session17 w b S p A _ c (blk_at h1)
theorem x_busy (h : Holds B w0 w (star (cliP b S) Q)) : Calls Try.prog 15 #[.pointer (some ⟨b, 0, none⟩)] w (fun e w' => e = .returned (.bool S.op.isSome) ∧ w' = w) := by
  obtain ⟨p, A, c, h1⟩ := cli_open h
  have e : p.isSome = S.op.isSome := by
    have h2 : Holds B w0 w (star (opP p S.op) (star (blkP b 62 (S.cs p A S.L.length c)) (star (lrow S A c) Q))) := h1.perm (by ac_rfl)
    cases ho : S.op with
    | none =>
      rw [ho] at h2
      obtain ⟨F, hp, _⟩ := h2.left
      rw [hp]; rfl
    | some o =>
      rw [ho] at h2
      obtain ⟨ob, hp, _⟩ := op_open h2
      rw [hp]; rfl
  rw [← e]
  exact busy15 w b S p A _ c (blk_at h1)
/-- The command in a message that was sent. -/
theorem ask_cells (h : Holds B w0 w (star (rowP 40 20 (.slice (some ⟨g, 0, none⟩) 1 1) 1 (askCs S o).toList) R)) :
    w.cell? ⟨g, 9, none⟩ = some (.int .i64 o.cmd.k) ∧ w.cell? ⟨g, 10, none⟩ = some (.int .i64 o.cmd.s) ∧ w.cell? ⟨g, 11, none⟩ = some (.int .i64 o.cmd.q) ∧ w.cell? ⟨g, 12, none⟩ = some (.string o.cmd.nm) ∧ w.cell? ⟨g, 13, none⟩ = some (.int .i64 o.cmd.n) := by
  have hs := h.row.src
  obtain ⟨ad, e, hc⟩ := hs.2 (by omega)
  injection e with e
  subst e
  have k : ∀ j u, (askCs S o).toList[j]? = some u → w.cell? ⟨g, j, none⟩ = some u := fun j u hu => by
    have := hc j u hu
    rw [addAt, Nat.zero_add] at this
    exact this
  exact ⟨k 9 _ rfl, k 10 _ rfl, k 11 _ rfl, k 12 _ rfl, k 13 _ rfl⟩
end
abbrev aN : ByteArray := ⟨#[97]⟩
abbrev xOpen : Cmd := ⟨2, 0, 0, ⟨#[]⟩, 0⟩
abbrev xLock : Cmd := ⟨5, 0, 0, aN, 0⟩
abbrev C1 : CS := ⟨2, 3, 1, 0, 0, 0, false, some ⟨⟨2, 2, 1, ⟨#[]⟩, 0⟩, 5, 5⟩, 0, false, 0, []⟩
abbrev C2 : CS := ⟨2, 3, 1, 0, 3, 0, true, none, 705, false, 0, []⟩
abbrev C3 : CS := ⟨2, 3, 1, 0, 3, 1, true, some ⟨⟨5, 3, 1, aN, 0⟩, 10, 10⟩, 705, false, 0, []⟩
abbrev C4 : CS := ⟨2, 3, 1, 0, 3, 1, true, none, 705, false, 0, [⟨aN, false, 7⟩]⟩
theorem e1 : callE (newC 2 3 1) xOpen = 0 := by decide
theorem s1 : callS (newC 2 3 1) xOpen 5 = C1 := by rfl
theorem e2 : callE C1 xLock = 10 := by decide
theorem s2 : handleS C1 (tellM ⟨0, 1, 0, 0, 3⟩) 9 = (C2, 1) := by rfl
theorem e3 : callE C2 xLock = 0 := by decide
theorem s3 : callS C2 xLock 10 = C3 := by rfl
theorem s4 : handleS C3 (tellM ⟨3, 1, 0, 7, 0⟩) 11 = (C4, 1) := by rfl
theorem r1 : holdsR C4 aN 704 = (⟨aN, false, 7⟩, true) := by rfl
theorem r2 : holdsR C4 aN 705 = (⟨.empty, false, 0⟩, false) := by rfl
theorem v4 : C4.valid 704 = true := by decide
end Go.Proofs.Ythlfcinjmljbjaa.A
