/-
  The client: hold.
-/
import Derived.Test.YthlfcinjmljbjaaE9
namespace Go.Proofs.Ythlfcinjmljbjaa.A
open Go.RowKit Go.Proofs.Ythlfcinjmljbjaa.U
set_option linter.unusedVariables false
set_option linter.unusedSimpArgs false
set_option maxRecDepth 100000

theorem low_hi_len (s : ByteArray) : ∀ L : List Hd, (lowH L s).length + (hiH L s).length ≤ L.length
  | [] => by simp [lowH, hiH]
  | y :: L => by
    have ih := low_hi_len s L
    unfold lowH hiH at ih ⊢
    simp only [List.filter_cons, List.length_cons]
    by_cases h1 : cmpN y.nm s < 0
    · have h2 : ¬ 0 < cmpN y.nm s := by omega
      simp only [h1, h2, decide_true, decide_false, if_true, List.length_cons]
      simp only [Bool.false_eq_true, if_false]
      omega
    · by_cases h2 : 0 < cmpN y.nm s
      · simp only [h1, h2, decide_true, decide_false, if_true, List.length_cons, Bool.false_eq_true, if_false]
        omega
      · simp only [h1, h2, decide_false, Bool.false_eq_true, if_false]
        omega
theorem hold_len' (L : List Hd) (x : Hd) : (holdL L x).length ≤ L.length + 1 := by
  have := low_hi_len x.nm L
  unfold holdL
  rw [List.length_append, List.length_cons]
  omega
theorem let_len (L : List Hd) (s : ByteArray) (r : Bool) : (letL L s r).length ≤ L.length := by
  have := low_hi_len s L
  unfold letL
  split
  · split
    · rw [List.length_append]; exact this
    · exact Nat.le_refl _
  · exact Nat.le_refl _
theorem hold_same {L : List Hd} {x : Hd} (hr : Rise L) (h : lookH L x.nm = some x) : holdL L x = L := by
  unfold lookH at h
  obtain ⟨hp, k, hk, hx, hlt⟩ := List.find?_eq_some_iff_getElem.1 h
  have hy : L[k]? = some x := by rw [List.getElem?_eq_getElem hk, hx]
  have hc : ∀ (j : Nat) (z : Hd), j < k → L[j]? = some z → cmpN z.nm x.nm < 0 := fun j z hj hz => rise_at hr hj hz hy
  rw [← hold_set hr hc hy rfl, ← hx]
  exact List.set_getElem_self hk
section
variable {B : Nat} {w0 w : World} {Q : SP} {b : Nat} {S : CS}
theorem x_hold (h : Holds B w0 w (star (cliP b S) Q)) (hQ : Stable Q) (hn : S.L.length ≤ 500000) (hr : Rise S.L) (x : Hd) :
    Calls Try.prog 32 #[.pointer (some ⟨b, 0, none⟩), x.val] w (fun e w' => unit_ e ∧ Holds B w0 w' (star (cliP b (S.withL (holdL S.L x))) Q)) := by
  cases hl : lookH S.L x.nm with
  | none => exact hold32new h hQ hn hr x hl
  | some y =>
    by_cases hxy : y = x
    · subst hxy
      obtain ⟨p, A, c, h1⟩ := cli_open h
      have R1 : Row w 46 3 (.slice A S.L.length c) S.L.length (hds S.L) := (show Holds B w0 _ (star (lrow S A c) (star (blkP b 62 (S.cs p A S.L.length c)) (star (opP p S.op) Q))) from h1.perm (by ac_rfl)).row
      refine (hold32same w b S p A c y (blk_at h1) R1.src (by omega) hr hl).mono ?_
      rintro e w' ⟨he, hk⟩
      refine ⟨he, ?_⟩
      rw [hold_same hr hl]
      exact h.kept ((cliP_stable b S).star hQ) hk
    · exact hold32put h hQ hn hr x y hl hxy
end
end Go.Proofs.Ythlfcinjmljbjaa.A
