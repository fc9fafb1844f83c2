/-
  What hold makes, in plain Lean.
-/
import Derived.Test.YthlfcinjmljbjaaE3
namespace Go.Proofs.Ythlfcinjmljbjaa.A
open Go.RowKit Go.Proofs.Ythlfcinjmljbjaa.U
set_option linter.unusedVariables false
set_option linter.unusedSimpArgs false

theorem hold_set {L : List Hd} {x y : Hd} {k : Nat} (hr : Rise L) (h1 : ∀ (j : Nat) (z : Hd), j < k → L[j]? = some z → cmpN z.nm x.nm < 0) (hy : L[k]? = some y) (he : y.nm = x.nm) : L.set k x = holdL L x := by
  have hk := (List.getElem?_eq_some_iff.1 hy).1
  unfold holdL
  rw [← take_low (s := x.nm) hr h1 (fun z hz => by rw [hy] at hz; injection hz with hz; subst hz; rw [(cmpN_zero _ _).2 he]; exact Int.le_refl _),
    ← drop_hi (s := x.nm) (k := k + 1) hr (fun j z hj hz => by
      by_cases hjk : j < k
      · have := h1 j z hjk hz; omega
      · obtain rfl : j = k := by omega
        rw [hy] at hz; injection hz with hz; subst hz; rw [(cmpN_zero _ _).2 he]; exact Int.le_refl _) (fun z hz => by
      have q := rise_at hr (show k < k + 1 by omega) hy hz
      rw [he] at q
      have := cmpN_anti x.nm z.nm
      omega)]
  rw [List.set_eq_take_append_cons_drop, if_pos hk]
theorem hold_put {L : List Hd} {x : Hd} {k : Nat} (hr : Rise L) (h1 : ∀ (j : Nat) (z : Hd), j < k → L[j]? = some z → cmpN z.nm x.nm < 0) (h2 : ∀ z, L[k]? = some z → 0 < cmpN z.nm x.nm) : L.take k ++ x :: L.drop k = holdL L x := by
  unfold holdL
  rw [← take_low (s := x.nm) hr h1 (fun z hz => Int.le_of_lt (h2 z hz)), ← drop_hi (s := x.nm) hr (fun j z hj hz => Int.le_of_lt (h1 j z hj hz)) h2]
end Go.Proofs.Ythlfcinjmljbjaa.A
