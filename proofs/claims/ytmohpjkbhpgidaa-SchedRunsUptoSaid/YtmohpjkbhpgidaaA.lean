/-
  Rows of numbers: Index, Contains, Has, Ints, Clone.
-/
import Derived.Test.YtmohpjkbhpgidaaS
import Derived.Test.YtmohpjkbhpgidaaR
import Derived.Lib.SliceRun
namespace Go.Proofs.Ytmohpjkbhpgidaa.A
open Go.RowKit Go.Proofs.Ytmohpjkbhpgidaa.U
set_option linter.unusedVariables false
set_option linter.unusedSimpArgs false
set_option maxRecDepth 100000

def ints (L : List Int) : List Value := L.map fun n => .int .i64 n
theorem ints_app (L M : List Int) : ints (L ++ M) = ints L ++ ints M := by simp [ints]
theorem ints_one (L : List Int) : ∀ u ∈ ints L, u.oneCell' = true := by
  intro u hu
  obtain ⟨x, _, rfl⟩ := List.mem_map.1 hu
  rfl
theorem E26 : Elem Try.prog 26 3 1 8 (.int .i64 0) := ⟨Try.underlying26, by kernel_rfl, by rfl, by decide⟩
theorem i_at {w : World} {A : Option Addr} {L : List Int} {n k : Nat} (h : Src w A 1 n (ints L)) (hk : k < n) : ∃ (ad : Addr) (x : Int), A = some ad ∧ L[k]? = some x ∧ w.cell? (ad.add k) = some (.int .i64 x) := by
  obtain ⟨ad, u, rfl, hu, hc⟩ := h.at_ hk
  simp only [ints, List.getElem?_map, Option.map_eq_some_iff] at hu
  obtain ⟨x, hx, rfl⟩ := hu
  exact ⟨ad, x, rfl, hx, hc⟩
theorem ints_len {w : World} {A : Option Addr} {L : List Int} {n : Nat} (h : Src w A 1 n (ints L)) : L.length = n := by
  have := h.1
  simpa [ints] using this
/-- Where a number stands first; -1: nowhere. -/
def IsIdx (L : List Int) (x i : Int) : Prop := (i = -1 ∧ x ∉ L) ∨ ∃ k : Nat, i = k ∧ k < L.length ∧ L[k]? = some x ∧ ∀ j, j < k → L[j]? ≠ some x
theorem index_calls (w : World) (A : Option Addr) (n c : Nat) (L : List Int) (x : Int) (h : Src w A 1 n (ints L)) (hn : n ≤ 1000000) :
    Calls Try.prog 70 #[.slice A n c, .int .i64 x] w (fun e w' => ∃ i, e = .returned (.int .i64 i) ∧ IsIdx L x i ∧ w' = w) := by
  have hL := ints_len h
  have H := Lib.hid h
  clear h
  go_enter Try.func70, Try.ntmps70
  go_wp2_with fail
  go_loopw [8] (fun v wr => wr = w ∧ ∃ k : Nat, k ≤ n ∧ v = .int .i64 k ∧ ∀ j, j < k → L[j]? ≠ some x) (fun v _ => n - (intOf v).toNat)
  case atStart => exact ⟨by trivial, 0, by omega, by simp, fun j hj => by omega⟩
  case round =>
    obtain ⟨rfl, k, hk, rfl, hne⟩ := hrel
    have NE := Lib.hid hne
    clear hne
    by_cases hlt : k < n
    · obtain ⟨ad, y, rfl, hy, hc⟩ := i_at H.out hlt
      have HY := Lib.hid hy
      clear hy
      by_cases he : x = y
      · subst he
        go_wp2_with fail
        go_ret
        exact ⟨k, rfl, .inr ⟨k, rfl, by omega, HY.out, NE.out⟩, rfl⟩
      · have g0 : (x == y) = false := by rw [beq_eq_false_iff_ne]; exact he
        have HE := Lib.hid he
        clear he
        go_wp2_with fail
        go_roundw
        case rel => exact ⟨by trivial, k + 1, by omega, by go_num, fun j hj => by
          by_cases h : j < k
          · exact NE.out j h
          · obtain rfl : j = k := by omega
            rw [HY.out]
            intro e
            injection e with e
            exact HE.out e.symm⟩
        case measure => simp [intOf]; omega
    · obtain rfl : k = n := by omega
      go_wp2_with fail
      go_ret
      exact ⟨-1, rfl, .inl ⟨rfl, fun hm => by
        obtain ⟨i, hi, e⟩ := List.mem_iff_getElem.1 hm
        exact NE.out i (by omega) (by rw [List.getElem?_eq_getElem hi, e])⟩, rfl⟩
theorem contains_calls (w : World) (A : Option Addr) (n c : Nat) (L : List Int) (x : Int) (h : Src w A 1 n (ints L)) (hn : n ≤ 1000000) :
    Calls Try.prog 79 #[.slice A n c, .int .i64 x] w (fun e w' => e = .returned (.bool (decide (x ∈ L))) ∧ w' = w) := by
  have HI := Lib.hid (index_calls w A n c L x h hn)
  clear h
  go_enter Try.func79, Try.ntmps79
  go_wp2_with fail
  refine HI.out.mono ?_
  rintro e w' ⟨i, rfl, hi, rfl⟩
  rcases hi with ⟨rfl, hi⟩ | ⟨k, rfl, _, hk, _⟩
  · have D := Lib.hid (decide_eq_false hi)
    go_wp2_with fail
    go_ret
    exact ⟨by rw [D.out]; rfl, rfl⟩
  · have D := Lib.hid (decide_eq_true (List.mem_of_getElem? hk))
    go_wp2_with fail
    go_ret
    exact ⟨by rw [D.out]; simp, rfl⟩
theorem has_calls (w : World) (A : Option Addr) (n c : Nat) (L : List Int) (x : Int) (h : Src w A 1 n (ints L)) (hn : n ≤ 1000000) :
    Calls Try.prog 31 #[.slice A n c, .int .i64 x] w (fun e w' => e = .returned (.bool (decide (x ∈ L))) ∧ w' = w) := by
  have hL := ints_len h
  have H := Lib.hid h
  clear h
  go_enter Try.func31, Try.ntmps31
  go_wp2_with fail
  go_loopw [5] (fun v wr => wr = w ∧ ∃ k : Nat, k ≤ n ∧ v = .int .i64 k ∧ ∀ j, j < k → L[j]? ≠ some x) (fun v _ => n - (intOf v).toNat)
  case atStart => exact ⟨by trivial, 0, by omega, by simp, fun j hj => by omega⟩
  case round =>
    obtain ⟨rfl, k, hk, rfl, hne⟩ := hrel
    have NE := Lib.hid hne
    clear hne
    by_cases hlt : k < n
    · obtain ⟨ad, y, rfl, hy, hc⟩ := i_at H.out hlt
      have HY := Lib.hid hy
      clear hy
      by_cases he : y = x
      · subst he
        have D := Lib.hid (decide_eq_true (List.mem_of_getElem? HY.out))
        go_wp2_with fail
        go_ret
        exact ⟨by rw [D.out]; rfl, rfl⟩
      · have g0 : (y == x) = false := by rw [beq_eq_false_iff_ne]; exact he
        have HE := Lib.hid he
        clear he
        go_wp2_with fail
        go_roundw
        case rel => exact ⟨by trivial, k + 1, by omega, by go_num, fun j hj => by
          by_cases h : j < k
          · exact NE.out j h
          · obtain rfl : j = k := by omega
            rw [HY.out]
            intro e
            injection e with e
            exact HE.out e⟩
        case measure => simp [intOf]; omega
    · obtain rfl : k = n := by omega
      have D := Lib.hid (decide_eq_false (show ¬ x ∈ L from fun hm => by
        obtain ⟨i, hi, e⟩ := List.mem_iff_getElem.1 hm
        exact NE.out i (by omega) (by rw [List.getElem?_eq_getElem hi, e])))
      go_wp2_with fail
      go_ret
      exact ⟨by rw [D.out]; rfl, rfl⟩
theorem ints_calls (w : World) (A A' : Option Addr) (n n' c c' : Nat) (L : List Int) (h : Src w A 1 n (ints L)) (h' : Src w A' 1 n' (ints L)) (hn : n ≤ 1000000) :
    Calls Try.prog 22 #[.slice A n c, .slice A' n' c'] w (Pure w (.bool true)) := by
  have hL := ints_len h
  have hL' := ints_len h'
  obtain rfl : n = n' := by omega
  have H := Lib.hid h
  have H' := Lib.hid h'
  clear h h'
  go_enter Try.func22, Try.ntmps22
  go_wp2_with fail
  go_loopw [5] (fun v wr => Drew w wr ∧ ∃ k : Nat, k ≤ n ∧ v = .int .i64 k) (fun v _ => n - (intOf v).toNat)
  case atStart => exact ⟨Drew.same _, 0, by omega, by simp⟩
  case round =>
    obtain ⟨⟨nd, rfl⟩, k, hk, rfl⟩ := hrel
    by_cases hlt : k < n
    · obtain ⟨ad, y, rfl, hy, hc⟩ := i_at H.out hlt
      obtain ⟨ad', y', rfl, hy', hc'⟩ := i_at H'.out hlt
      rw [hy] at hy'
      injection hy' with hy'
      subst hy'
      clear hy
      go_wp2_with fail
      go_quiet (fail)
      go_wp2_with fail
      go_roundw
      case rel => exact ⟨(Drew.same _).more _, k + 1, by omega, by go_num⟩
      case measure => simp [intOf]; omega
    · go_wp2_with fail
      go_ret
      exact ⟨rfl, (Drew.same _).more _⟩
theorem clone_calls (w : World) (A : Option Addr) (n c : Nat) (L : List Int) (h : Src w A 1 n (ints L)) (hn : n ≤ 1000000) :
    Calls Try.prog 82 #[.slice A n c] w (fun e w' => ∃ A' c', e = .returned (.slice A' n c') ∧ Row w' 3 1 (.slice A' n c') n (ints L) ∧ Keep Nothing w w' ∧ ∀ k, (Value.slice A' n c').ownBlock = some k → w.heap.size ≤ k) := by
  have hL := ints_len h
  have H := Lib.hid h
  have hu26 := Try.underlying26
  have hz := fun (A : Option Addr) (n c : Nat) w => Lib.run_eql_slice_nil (P := Try.prog) w 26 3 A n c 0 0 Try.underlying26
  clear h
  cases A with
  | none =>
    have h0 : n = 0 := by
      rcases Nat.eq_zero_or_pos n with h | h
      · exact h
      · obtain ⟨ad, e, _⟩ := H.out.2 h
        cases e
    subst h0
    obtain rfl : L = [] := List.eq_nil_of_length_eq_zero hL
    go_enter Try.func82, Try.ntmps82
    go_wp2_with fail
    go_ret
    exact ⟨none, 0, rfl, Row.nil _ 3 1, Keep.same _ _, fun k hk => by simp [Value.ownBlock] at hk⟩
  | some ad =>
    have H2 := Lib.hid (show Src (w.alloc (.cells #[] 3)) (some ad) 1 n (ints L) from ⟨H.out.1, fun hn => by
      obtain ⟨ad', e, hc⟩ := H.out.2 hn
      exact ⟨ad', e, fun j u hu => ((Keep.same Nothing w).alloc _).cell (hc j u hu) (fun h => h)⟩⟩)
    have R0 := Lib.hid (Row.fresh w 3 1 0 #[] rfl (by unfold maxLen; omega))
    have h1 := ints_one L
    have O1 := Lib.hid h1
    clear h1
    go_enter Try.func82, Try.ntmps82
    go_wp2_with (at_builtin; refine wpList_app _ rfl E26 (.tmp 5) (.tmp 6) rfl R0.out H2.out c rfl rfl O1.out (by unfold maxLen; omega) (by omega) ?_)
    intro v' w' hr hg hl
    obtain ⟨A', c', rfl, _, _⟩ := hr.form
    have R1 := Lib.hid hr
    have K1 := Lib.hid (((Keep.same Nothing w).alloc (.cells #[] 3)).grown hg (fun i hi => .inr (by simp [Value.ownBlock] at hi; omega)))
    have O := Lib.hid (show ∀ k, (Value.slice A' n c').ownBlock = some k → w.heap.size ≤ k by
      intro k hk
      rcases hl with h | h
      · rw [h] at hk; simp [Value.ownBlock] at hk; omega
      · rw [h] at hk; injection hk with hk; omega)
    clear hr hg hl
    try rw [List.nil_append] at R1
    go_wp2_with fail
    go_ret
    exact ⟨_, _, by simp, R1.out, K1.out, O.out⟩
end Go.Proofs.Ytmohpjkbhpgidaa.A
