/-
  Rows of Held.
-/
import Derived.Test.YthlfcinjmljbjaaV2
namespace Go.Proofs.Ythlfcinjmljbjaa.A
open Go.RowKit Go.Proofs.Ythlfcinjmljbjaa.U
set_option linter.unusedVariables false
set_option linter.unusedSimpArgs false
set_option maxRecDepth 100000

structure Hd where
  nm : ByteArray
  rd : Bool
  tk : Int
deriving DecidableEq
abbrev Hd.cl (x : Hd) : List Value := [.string x.nm, .bool x.rd, .int .u64 x.tk]
abbrev Hd.cs (x : Hd) : Array Value := #[.string x.nm, .bool x.rd, .int .u64 x.tk]
abbrev Hd.val (x : Hd) : Value := .agg x.cs
theorem EH : Elem Try.prog 57 46 3 32 (Hd.val ⟨.empty, false, 0⟩) := ⟨Try.underlying57, by kernel_rfl, by rfl, by decide⟩
def hds (L : List Hd) : List Value := L.flatMap Hd.cl
theorem hds_app (L M : List Hd) : hds (L ++ M) = hds L ++ hds M := by simp [hds]
theorem hds_cons (x : Hd) (L : List Hd) : hds (x :: L) = x.cl ++ hds L := rfl
theorem hds_len (L : List Hd) : (hds L).length = L.length * 3 := by
  induction L with
  | nil => rfl
  | cons x L ih => rw [hds_cons, List.length_append, ih, List.length_cons]; simp only [List.length_cons, List.length_nil]; omega
theorem hds_one (L : List Hd) : ∀ u ∈ hds L, u.oneCell' = true := by
  intro u hu
  obtain ⟨x, _, h⟩ := List.mem_flatMap.1 hu
  simp only [Hd.cl, List.mem_cons, List.not_mem_nil, or_false] at h
  rcases h with rfl | rfl | rfl <;> rfl
theorem hds_drop (L : List Hd) : ∀ k, (hds L).drop (k * 3) = hds (L.drop k) := by
  induction L with
  | nil => intro k; simp [hds]
  | cons x L ih =>
    intro k
    cases k with
    | zero => simp
    | succ k => rw [hds_cons, List.drop_succ_cons, ← ih k, List.drop_append, List.drop_eq_nil_of_le (by simp; omega), List.nil_append]; congr 1; simp only [List.length_cons, List.length_nil]; omega
theorem hds_get {L : List Hd} {k : Nat} {x : Hd} (h : L[k]? = some x) (j : Nat) (hj : j < 3) : (hds L)[k * 3 + j]? = x.cl[j]? := by
  obtain ⟨hk, he⟩ := List.getElem?_eq_some_iff.1 h
  rw [← List.getElem?_drop, hds_drop, List.drop_eq_getElem_cons hk, he, hds_cons, List.getElem?_append_left (by simpa using hj)]
theorem hsrc_len {w : World} {A : Option Addr} {L : List Hd} {n : Nat} (h : U.Src w A 3 n (hds L)) : L.length = n := by
  have := h.1
  rw [hds_len] at this
  omega
theorem hrow_len {w : World} {v : Value} {L : List Hd} {n : Nat} (h : Row w 46 3 v n (hds L)) : L.length = n := by
  have := h.1
  rw [hds_len] at this
  omega
def HdAt (w : World) (p : Addr) (x : Hd) : Prop :=
  w.cell? p = some (.string x.nm) ∧ w.cell? ⟨p.block, p.off + 1, none⟩ = some (.bool x.rd) ∧ w.cell? ⟨p.block, p.off + 2, none⟩ = some (.int .u64 x.tk)
theorem hd_at {w : World} {A : Option Addr} {L : List Hd} {n k : Nat} (h : U.Src w A 3 n (hds L)) (hk : k < n) : ∃ (ad : Addr) (x : Hd), A = some ad ∧ L[k]? = some x ∧ HdAt w (ad.add (k * 3)) x := by
  have hl := hsrc_len h
  obtain ⟨ad, rfl, hc⟩ := h.2 (by omega)
  have hx : L[k]? = some (L[k]'(by omega)) := List.getElem?_eq_getElem (by omega)
  have hc' : ∀ j u, (L[k]'(by omega)).cl[j]? = some u → w.cell? (ad.add (k * 3 + j)) = some u := fun j u hu => hc _ _ (by
    have hj : j < 3 := (List.getElem?_eq_some_iff.1 hu).1
    rw [hds_get hx j hj]
    exact hu)
  have g : ∀ j u, 0 < j → (L[k]'(by omega)).cl[j]? = some u → w.cell? ⟨(ad.add (k * 3)).block, (ad.add (k * 3)).off + j, none⟩ = some u := fun j u hj hu => by
    rw [← addLater ad (k * 3) j hj]; exact hc' j u hu
  exact ⟨ad, _, rfl, hx, hc' 0 _ rfl, g 1 _ (by omega) rfl, g 2 _ (by omega) rfl⟩
theorem HdAt.keep {w w' : World} {p : Addr} {x : Hd} {S : Nat → Prop} (h : HdAt w p x) (hk : Keep S w w') (hn : ¬ S p.block) : HdAt w' p x := by
  obtain ⟨h0, h1, h2⟩ := h
  exact ⟨hk.cell h0 hn, hk.cell h1 hn, hk.cell h2 hn⟩
/-- One Held is another. -/
def eqH (a b : Hd) : Bool := decide (a = b)
end Go.Proofs.Ythlfcinjmljbjaa.A
