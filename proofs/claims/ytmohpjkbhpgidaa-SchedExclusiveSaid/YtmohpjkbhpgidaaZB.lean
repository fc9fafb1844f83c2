/-
  Rows of operations that begin with one; what a law does with a scheduler. Printed by gen_zb.py.
-/
import Derived.Test.YtmohpjkbhpgidaaYP
import Derived.Test.YtmohpjkbhpgidaaZA
namespace Go.Proofs.Ytmohpjkbhpgidaa.A
open Go.ChangeShapes Go.WideShapes Go.ChangeAt Go.RowKit Go.Joins Go.Proofs.Ytmohpjkbhpgidaa.U
set_option linter.unusedVariables false
set_option linter.unusedSimpArgs false
set_option maxRecDepth 100000
set_option maxHeartbeats 1600000

theorem tks_one (w : World) (L : List Op3) (n : Nat) (hn : L.length = n) (hm : n ≤ maxLen) :
    Holds w.heap.size w ((w.alloc (.cells (opsV L).toArray 97)).alloc (.cells #[.slice (some ⟨w.heap.size, 0, none⟩) n n] 99)) (star (tksP (.slice (some ⟨w.heap.size + 1, 0, none⟩) 1 1) [(.slice (some ⟨w.heap.size, 0, none⟩) n n, L)]) none_) := by
  subst hn
  have h1 := (Holds.start w).newRow none_stable (Row.fresh w 97 3 L.length (opsV L).toArray (by simp [opsV_len]) hm) ((Keep.same _ _).alloc _) (fun k hk => by simp [Value.ownBlock] at hk; omega)
  have h2 := h1.newRow ((rowP_stable _ _ _ _ _).star none_stable) (Row.fresh (w.alloc (.cells (opsV L).toArray 97)) 99 1 1 #[.slice (some ⟨w.heap.size, 0, none⟩) L.length L.length] rfl (by decide)) ((Keep.same _ _).alloc _) (fun k hk => by simp [Value.ownBlock] at hk; simp; omega)
  rw [size_alloc] at h2
  exact h2.perm (by
    unfold tksP orows
    show star (rowP 99 1 (.slice (some ⟨w.heap.size + 1, 0, none⟩) 1 1) 1 [.slice (some ⟨w.heap.size, 0, none⟩) L.length L.length]) (star (rowP 97 3 (.slice (some ⟨w.heap.size, 0, none⟩) L.length L.length) L.length (opsV L).toArray.toList) none_) = star (star (rowP 99 1 (.slice (some ⟨w.heap.size + 1, 0, none⟩) 1 1) 1 [.slice (some ⟨w.heap.size, 0, none⟩) L.length L.length]) (star (rowP 97 3 (.slice (some ⟨w.heap.size, 0, none⟩) L.length L.length) L.length (opsV L)) none_)) none_
    have e1 : star none_ none_ = none_ := by
      funext w F
      apply propext
      constructor
      · rintro ⟨F1, F2, h1, h2, h3, h4⟩ k hk
        rcases (h4 k).1 hk with h | h
        · exact h1 k h
        · exact h2 k h
      · intro h
        exact ⟨F, F, h, h, fun k hk => absurd hk (h k), fun k => by simp⟩
    rw [List.toList_toArray, star_assoc', star_assoc', e1])
theorem holds_new {w0 w w' : World} {P : SP} {B : Nat} (h : Holds w.heap.size w w' P) (hP : Stable P) (hb : Below B w0 w) (hB : B ≤ w.heap.size) : Holds B w0 w' P := by
  obtain ⟨F, h1, h2, h3, h4⟩ := h
  exact ⟨F, h1, hb.trans (h2.mono hB), Nat.le_trans hB h3, fun k hk => Nat.le_trans hB (h4 k hk)⟩
end Go.Proofs.Ytmohpjkbhpgidaa.A
