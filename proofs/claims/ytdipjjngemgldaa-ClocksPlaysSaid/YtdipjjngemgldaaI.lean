/-
  ClocksPlays: the things apart, the deeds.
-/
import Derived.Test.YtdipjjngemgldaaG
import Derived.Test.YtdipjjngemgldaaW
import Derived.Deep.RegionHeld3
namespace Go.Proofs.Ytdipjjngemgldaa.A
open Go.RowKit Go.Proofs.Ytdipjjngemgldaa.U
set_option linter.unusedVariables false
set_option linter.unusedSimpArgs false
set_option maxRecDepth 100000

section
variable {B : Nat} {w0 w : World} {P Q : SP} {b : Nat} {L M : List Int} {r d : Int}
theorem x_set (h : Holds B w0 w (star (ckP 55 b L r) Q)) (hQ : Stable Q) (k t : Int) :
    Calls Try.prog 11 #[.pointer (some ⟨b, 0, none⟩), .int .i64 k, .int .i64 t] w (fun e w' => e = .returned (.int .i64 (setE L k t)) ∧ Holds B w0 w' (star (ckP 55 b (setL L k t) r) Q)) :=
  h.on_left hQ (post := fun e => e = .returned (.int .i64 (setE L k t))) fun F hF => set_calls w b F L r k t hF
theorem y_set (h : Holds B w0 w (star P (star (ckP 44 b L r) Q))) (hP : Stable P) (hQ : Stable Q) (k t : Int) :
    Calls Try.prog 12 #[.pointer (some ⟨b, 0, none⟩), .int .i64 k, .int .i64 t] w (fun e w' => e = .returned (.int .i64 (setE L k t)) ∧ Holds B w0 w' (star P (star (ckP 44 b (setL L k t) r) Q))) :=
  (Holds.on_left (Holds.second h) (hP.star hQ) (post := fun e => e = .returned (.int .i64 (setE L k t))) fun F hF => rset_calls w b F L r k t hF).mono fun e w' h => ⟨h.1, Holds.second h.2⟩
theorem y_at (h : Holds B w0 w (star P (star (ckP 44 b L r) Q))) (k : Int) : Calls Try.prog 16 #[.pointer (some ⟨b, 0, none⟩), .int .i64 k] w (fun e w' => e = .returned (.int .i64 (atV L k)) ∧ w' = w) := by
  obtain ⟨F, hF⟩ := (Holds.second h).left
  exact rat_calls w b F L r hF k
theorem y_go (h : Holds B w0 w (star P (star (ckP 44 b L r) Q))) (hP : Stable P) (hQ : Stable Q) {A : Option Addr} {m c : Nat} (hM : Src w A 1 m (ints M)) (hA : 0 < m → ∀ ad, A = some ad → ad.block < B) (hL : InR L) (hr0 : 0 ≤ r) (hr1 : r ≤ 1099511627776) (hm : m ≤ 9223372036854775807) (hd : d ≤ 9223372036854775807) :
    Calls Try.prog 14 #[.pointer (some ⟨b, 0, none⟩), .int .i64 d, .slice A m c] w (fun e w' => e = .returned (.int .i64 (goE L M r d)) ∧ Holds B w0 w' (star P (star (ckP 44 b (goL L M r d) (goR L M r d)) Q))) := by
  have H0 := Holds.second h
  obtain ⟨F, ⟨F1, F2, h1, h2, h3, h4⟩, hb, hB, hF⟩ := H0
  refine (rgo_calls w b F1 L M r d A m c h1 hM (fun h0 ad e hk => by have := hA h0 ad e; have := hF _ ((h4 _).2 (.inl hk)); omega) hL hr0 hr1 hm hd).mono fun e w' ⟨he, hs⟩ => ⟨he, ?_⟩
  exact Holds.second ((Holds.second h).step (fun k hk => hF k ((h4 k).2 hk)) (hs.star (hP.star hQ) h2 h3))
/-- Go, its argument a row that lies beside. -/
theorem x_go_row {A : Option Addr} {m c : Nat} (h : Holds B w0 w (star (rowP 3 1 (.slice A m c) m (ints M)) (star (ckP 55 b L r) Q))) (hQ : Stable Q) (hL : InR L) (hr0 : 0 ≤ r) (hr1 : r ≤ 1099511627776) (hm : m ≤ 9223372036854775807) (hd : d ≤ 9223372036854775807) :
    Calls Try.prog 13 #[.pointer (some ⟨b, 0, none⟩), .int .i64 d, .slice A m c] w (fun e w' => e = .returned (.int .i64 (goE L M r d)) ∧ Holds B w0 w' (star (ckP 55 b (goL L M r d) (goR L M r d)) Q)) := by
  have hr := h.row
  refine (x_go (Holds.second h) ((rowP_stable _ _ _ _ _).star hQ) hr.src (fun F1 F2 hd _ hq ad e => ?_) hL hr0 hr1 hm hd).mono fun e w' h => ⟨h.1, (Holds.second h.2).drop⟩
  subst e
  obtain ⟨F3, F4, ⟨_, hF3⟩, _, _, h6⟩ := hq
  exact fun h => hd _ h ((h6 _).2 (.inl ((hF3 _).2 rfl)))
end
theorem set_in {L : List Int} (h : InR L) (k t : Int) : InR (setL L k t) ∧ (setL L k t).length = L.length := by
  unfold setL
  split
  · rename_i hs
    refine ⟨fun j x hj => ?_, by simp⟩
    rw [List.getElem?_set] at hj
    split at hj
    · split at hj
      · injection hj with hj
        subst hj
        exact ⟨hs.2.2.1, hs.2.2.2⟩
      · cases hj
    · exact h j x hj
  · exact ⟨h, rfl⟩
theorem goL_len (L M : List Int) (r d : Int) : (goL L M r d).length = L.length := by
  unfold goL
  split
  · exact addK_len _ _ _
  · rfl
theorem go_in {L M : List Int} {r d : Int} (h : InR L) (hr0 : 0 ≤ r) (hr1 : r ≤ 1099511627776) : InR (goL L M r d) ∧ 0 ≤ goR L M r d ∧ goR L M r d ≤ 1099511627776 := by
  by_cases h1 : d < 0 ∨ M.length ≠ L.length ∨ (∃ x ∈ M, x < 0)
  · obtain ⟨_, e2, e3⟩ := goE_arg (r := r) h1
    rw [e2, e3]; exact ⟨h, hr0, hr1⟩
  · by_cases h2 : 1099511627776 - r < d ∨ FarOut L M
    · obtain ⟨_, e2, e3⟩ := goE_far h1 h2
      rw [e2, e3]; exact ⟨h, hr0, hr1⟩
    · obtain ⟨_, e2, e3⟩ := goE_ok h1 h2
      rw [e2, e3]
      refine ⟨fun j x hj => ?_, by omega, by omega⟩
      have hml : M.length = L.length := Classical.byContradiction fun h => h1 (.inr (.inl h))
      by_cases hjl : j < L.length
      · rw [addK_lt L M _ j (by omega) (by omega)] at hj
        injection hj with hj
        have hlx : L[j]? = some (L[j]'hjl) := List.getElem?_eq_getElem hjl
        have hmx : M[j]? = some (M[j]'(by omega)) := List.getElem?_eq_getElem (by omega)
        have a := h j _ hlx
        rw [getD_of hlx, getD_of hmx] at hj
        have c : ¬ 1099511627776 - L.getD j 0 < M.getD j 0 := fun hh => h2 (.inr ⟨j, by omega, hh⟩)
        rw [getD_of hlx, getD_of hmx] at c
        have e : ¬ (M[j]'(by omega)) < 0 := fun hh => h1 (.inr (.inr ⟨_, List.getElem_mem (by omega), hh⟩))
        omega
      · rw [List.getElem?_eq_none (by rw [addK_len]; omega)] at hj
        cases hj
theorem zeros_in (n : Nat) : InR (zeros n) := by
  intro j x hj
  unfold zeros at hj
  rw [List.getElem?_replicate] at hj
  split at hj
  · injection hj with hj; omega
  · cases hj
/-- A deed as an argument: what it is, and its numbers in memory. -/
structure DeedOk (w : World) (B : Nat) (x : Deed) (A : Option Addr) (m c : Nat) (M : List Int) : Prop where
  v : x.v = .slice A m c
  src : Src w A 1 m (ints M)
  blk : 0 < m → ∀ ad, A = some ad → ad.block < B
  mc : m ≤ c
  len : c * 8 ≤ 140737488351232
  one : ∀ u ∈ ints M, u.oneCell' = true
theorem DeedOk.below {w w' : World} {B : Nat} {x : Deed} {A : Option Addr} {m c : Nat} {M : List Int} (h : DeedOk w B x A m c M) (hb : Below B w w') : Src w' A 1 m (ints M) :=
  ⟨h.src.1, fun h0 => by
    obtain ⟨ad, e, hc⟩ := h.src.2 h0
    exact ⟨ad, e, fun j u hu => (hb.cell (p := ad.add j) (by rw [addBlock]; exact h.blk h0 ad e)).trans (hc j u hu)⟩⟩
theorem bytes3 : Try.prog.bytesOf 3 = 8 := by kernel_rfl
theorem deed_ok {H : Type} {enc : TypeId × Value → H} {W : World} {b0 n : Nat} {cs : List Value} {y : DataW H × List MemPlace} (ht : DataW.trod enc Try.prog W b0 (fun _ => true) true n 35 cs = some y) (hlt : ∀ p ∈ y.2, p.block < W.heap.size) (hw : R.Light 35 y.1) :
    ∃ x : Deed, cs = x.cells ∧ ∃ A m c M, DeedOk W W.heap.size x A m c M := by
  obtain ⟨hcl, m, hf⟩ := R.parts Try.underlying35 ht hlt hw
  rw [cells35] at hcl
  have e4 : Try.prog.cellsOf 4 = 1 := by kernel_rfl
  obtain ⟨y0, k0, _⟩ := hf 0 4 0 rfl
  obtain ⟨y1, k1, _⟩ := hf 1 3 1 rfl
  obtain ⟨y2, k2, _⟩ := hf 2 3 2 rfl
  obtain ⟨y3, k3, _⟩ := hf 3 3 3 rfl
  obtain ⟨y4, k4, p4, q4⟩ := hf 4 33 4 rfl
  obtain ⟨v0, g0, k0⟩ := R.part1 e4 (by omega) k0
  obtain ⟨v1, g1, k1⟩ := R.part1 cells3 (by omega) k1
  obtain ⟨v2, g2, k2⟩ := R.part1 cells3 (by omega) k2
  obtain ⟨v3, g3, k3⟩ := R.part1 cells3 (by omega) k3
  obtain ⟨v4, g4, k4⟩ := R.part1 cells33 (by omega) k4
  obtain ⟨s, rfl⟩ := R.cell_bool Try.underlying4 k0
  obtain ⟨n1, rfl, w1⟩ := R.cell_int Try.underlying3 k1
  obtain ⟨n2, rfl, w2⟩ := R.cell_int Try.underlying3 k2
  obtain ⟨n3, rfl, w3⟩ := R.cell_int Try.underlying3 k3
  obtain ⟨A, len, cap, rfl, hc1, hc2, hc3, hel⟩ := R.open_row Try.underlying33 cells3 k4 p4 q4 (by omega)
  obtain ⟨M, hl, hp⟩ := R.exists_list (p := fun i (x : Int) => ∃ ad, A = some ad ∧ ad.block < W.heap.size ∧ W.cell? (ad.add i) = some (.int .i64 x)) len (fun i hi => by
    obtain ⟨ad, cs, n, y, rfl, hB, hcl, hat, ht, _⟩ := hel i hi
    obtain ⟨c, rfl⟩ : ∃ c, cs = [c] := by
      match cs, hcl with
      | [c], _ => exact ⟨c, rfl⟩
    obtain ⟨s, rfl, _⟩ := R.cell_int Try.underlying3 ht
    have := hat 0 (by omega)
    simp only [Nat.mul_one, Nat.add_zero, List.getElem?_cons_zero] at this
    exact ⟨s, ad, rfl, hB, this⟩)
  rw [bytes3] at hc3
  refine ⟨⟨s, n1, n2, n3, _, w1, w2, w3⟩, R.list5 hcl g0 g1 g2 g3 g4, A, len, cap, M, rfl, ⟨by simp [ints, hl], fun h0 => ?_⟩, fun h0 ad e => ?_, hc1, hc3, ints_one M⟩
  · obtain ⟨ad, e, _, _⟩ := hp 0 (M[0]'(by omega)) (List.getElem?_eq_getElem (by omega))
    refine ⟨ad, e, fun j u hu => ?_⟩
    simp only [ints, List.getElem?_map, Option.map_eq_some_iff] at hu
    obtain ⟨z, hz, rfl⟩ := hu
    obtain ⟨ad', e', _, hc⟩ := hp j z hz
    rw [e] at e'
    injection e' with e'
    subst e'
    exact hc
  · obtain ⟨ad', e', hB, _⟩ := hp 0 (M[0]'(by omega)) (List.getElem?_eq_getElem (by omega))
    rw [e] at e'
    injection e' with e'
    subst e'
    exact hB
end Go.Proofs.Ytdipjjngemgldaa.A
