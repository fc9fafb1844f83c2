/-
  The client: gone, at, Holds.
-/
import Derived.Test.YthlfcinjmljbjaaD5
namespace Go.Proofs.Ythlfcinjmljbjaa.A
open Go.RowKit Go.Proofs.Ythlfcinjmljbjaa.U
set_option linter.unusedVariables false
set_option linter.unusedSimpArgs false
set_option maxRecDepth 100000

section
variable {B : Nat} {w0 w : World} {b : Nat} {S : CS} {Q : SP}
theorem blk_at {t : TypeId} {cs : Array Value} (h : Holds B w0 w (star (blkP b t cs) Q)) : Blk w b t cs := by
  obtain ⟨F, hb, _⟩ := h.left
  exact hb
def CS.gone (S : CS) : CS := { S with session := 0, til := 0, L := [] }
theorem x_gone (h : Holds B w0 w (star (cliP b S) Q)) (hQ : Stable Q) : Calls Try.prog 25 #[.pointer (some ⟨b, 0, none⟩)] w (fun e w' => unit_ e ∧ Holds B w0 w' (star (cliP b S.gone) Q)) := by
  have hu := Try.underlying62
  obtain ⟨p, A, c, h1⟩ := cli_open h
  have B1 := blk_at h1
  have SQ := Lib.hid (show Stable (star (opP p S.op) (star (lrow S A c) Q)) from (opP_stable _ _).star ((rowP_stable _ _ _ _ _).star hQ))
  have H1 := h1.setBlk SQ.out 4 (.int .i64 0)
  have B2 := blk_at H1
  have H2 := H1.setBlk SQ.out 8 (.int .i64 0)
  have B3 := blk_at H2
  have H3 := H2.setBlk SQ.out 11 (.slice none 0 0)
  have H4 := Lib.hid H3
  have q4 := B1.cell 4
  have q5 := B1.free 4
  have q6 := B2.cell 8
  have q7 := B2.free 8
  have q8 := B3.cell 11
  have q9 := B3.free 11
  have HQ := Lib.hid hQ
  clear h h1 B1 B2 B3 H1 H2 H3 hQ
  go_enter Try.func25, Try.ntmps25
  go_wp2_with fail
  go_end0
  refine ⟨rfl, ?_⟩
  have g := H4.out
  have g2 : Holds B w0 _ (star (lrow S A c) (star (blkP b 62 (S.gone.cs p none 0 0)) (star (opP p S.op) Q))) := g.perm (by
    show star (blkP b 62 (S.gone.cs p none 0 0)) (star (opP p S.op) (star (lrow S A c) Q)) = _
    ac_rfl)
  have g3 := g2.drop
  have g4 : Holds B w0 _ (star (lrow S.gone none 0) (star (blkP b 62 (S.gone.cs p none 0 0)) (star (opP p S.op) Q))) :=
    g3.newRow ((blkP_stable _ _ _).star ((opP_stable _ _).star HQ.out)) (Row.nil _ 46 3) (Keep.same _ _) (fun k hk => by simp [Value.ownBlock] at hk)
  exact cli_close (p := p) (A := none) (c := 0) (g4.perm (by
    show _ = star (blkP b 62 (S.gone.cs p none 0 0)) (star (opP p S.op) (star (lrow S.gone none 0) Q))
    ac_rfl))
theorem at27 (w : World) (p A : Option Addr) (c : Nat) (h : Blk w b 62 (S.cs p A S.L.length c)) (hs : U.Src w A 3 S.L.length (hds S.L)) (hn : S.L.length ≤ 1000000) (hr : Rise S.L) (s : ByteArray) :
    Calls Try.prog 27 #[.pointer (some ⟨b, 0, none⟩), .string s] w (Found S.L s w) := by
  have hu := Try.underlying62
  have c0 := h.cell 11
  have H := Lib.hid (search_calls w A S.L.length c S.L s hs hn hr)
  clear h hs hn hr
  go_enter Try.func27, Try.ntmps27
  go_wp2_with fail
  refine H.out.mono ?_
  rintro e w' ⟨k, t, rfl, h1, h2, h3, h4⟩
  have H1 := Lib.hid h1
  have H2 := Lib.hid h2
  have H3 := Lib.hid h3
  have H4 := Lib.hid h4
  clear h1 h2 h3 h4
  go_wp2_with fail
  go_ret2
  exact ⟨k, t, rfl, H1.out, H2.out, H3.out, H4.out⟩
/-- What it holds under a name. -/
def lookH (L : List Hd) (s : ByteArray) : Option Hd := L.find? fun y => decide (y.nm = s)
def holdsR (S : CS) (s : ByteArray) (now : Int) : Hd × Bool := if S.valid now then (match lookH S.L s with | some y => (y, true) | none => (⟨.empty, false, 0⟩, false)) else (⟨.empty, false, 0⟩, false)
theorem found_look {L : List Hd} {s : ByteArray} {k : Nat} {t : Bool} (hr : Rise L) (h1 : ∀ (j : Nat) (y : Hd), j < k → L[j]? = some y → cmpN y.nm s < 0)
    (h2 : (t = true ∧ ∃ y, L[k]? = some y ∧ y.nm = s) ∨ (t = false ∧ (k = L.length ∨ ∃ y, L[k]? = some y ∧ 0 < cmpN y.nm s))) :
    (t = true ∧ ∃ y, L[k]? = some y ∧ y.nm = s ∧ lookH L s = some y) ∨ (t = false ∧ lookH L s = none) := by
  rcases h2 with ⟨ht, y, hy, he⟩ | ⟨ht, h⟩
  · refine .inl ⟨ht, y, hy, he, ?_⟩
    unfold lookH
    rw [List.find?_eq_some_iff_getElem]
    obtain ⟨hk, hyk⟩ := List.getElem?_eq_some_iff.1 hy
    refine ⟨by simpa using he, k, hk, hyk, fun j hj => ?_⟩
    have := h1 j _ hj (List.getElem?_eq_getElem (by omega))
    simp only [Bool.not_eq_true', decide_eq_false_iff_not]
    intro e
    rw [(cmpN_zero _ _).2 e] at this
    omega
  · refine .inr ⟨ht, ?_⟩
    unfold lookH
    rw [List.find?_eq_none]
    intro x hx
    obtain ⟨j, hj⟩ := List.mem_iff_getElem?.1 hx
    simp only [decide_eq_true_eq]
    intro e
    have z := (cmpN_zero _ _).2 e
    by_cases hjk : j < k
    · have := h1 j x hjk hj; omega
    · rcases h with h | ⟨y, hy, hgt⟩
      · have := (List.getElem?_eq_some_iff.1 hj).1; omega
      · by_cases hjk' : j = k
        · subst hjk'; rw [hj] at hy; injection hy with hy; subst hy; omega
        · have q := rise_at hr (show k < j by omega) hy hj
          rw [e] at q
          omega
end
end Go.Proofs.Ythlfcinjmljbjaa.A
