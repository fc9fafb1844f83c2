/-
  LgroupNone; the arguments of the group's laws.
-/
import Derived.Test.YtmohpjkbhpgidaaG
namespace Go.Proofs.Ytmohpjkbhpgidaa.A
open Go.RowKit Go.Proofs.Ytmohpjkbhpgidaa.U
set_option linter.unusedVariables false
set_option linter.unusedSimpArgs false
set_option maxRecDepth 100000

abbrev I64 (n : Int) : Prop := -9223372036854775808 ≤ n ∧ n ≤ 9223372036854775807
theorem wf_i64 {n : Int} (h : (Lit.int .i64 n).wf = true) : I64 n := by
  simp only [Lit.wf, Bool.and_eq_true, decide_eq_true_eq] at h
  have h1 : IntKind.i64.min = -9223372036854775808 := by rfl
  have h2 : IntKind.i64.max = 9223372036854775807 := by rfl
  rw [h1, h2] at h
  exact h
structure Deed where
  t : Int
  n : Int
  s : Bool
  ht : I64 t
  hn : I64 n
def Deed.cells (x : Deed) : List Value := [.int .i64 x.t, .int .i64 x.n, .bool x.s]
theorem cells71 : Try.prog.cellsOf 71 = 3 := by kernel_rfl
theorem cells3 : Try.prog.cellsOf 3 = 1 := by kernel_rfl
theorem deed_cells {H : Type} {enc : TypeId × Value → H} {W : World} {b0 n : Nat} {cs : List Value} {y : DataW H × List MemPlace} (ht : DataW.trod enc Try.prog W b0 (fun _ => true) true n 71 cs = some y) :
    ∃ x : Deed, cs = x.cells := by
  obtain ⟨hcl, m, hf⟩ := R.struct_fields Try.underlying71 ht
  rw [cells71] at hcl
  have e4 : Try.prog.cellsOf 4 = 1 := by kernel_rfl
  obtain ⟨v0, y0, g0, k0, _⟩ := hf 0 3 0 rfl cells3 (by omega)
  obtain ⟨v1, y1, g1, k1, _⟩ := hf 1 3 1 rfl cells3 (by omega)
  obtain ⟨v2, y2, g2, k2, _⟩ := hf 2 4 2 rfl e4 (by omega)
  obtain ⟨n0, l0, _, w0⟩ := DataW.trod_int Try.underlying3 k0
  obtain ⟨n1, l1, _, w1⟩ := DataW.trod_int Try.underlying3 k1
  obtain ⟨s, l2, _⟩ := DataW.trod_bool Try.underlying4 k2
  injection l0 with l0 _
  injection l1 with l1 _
  injection l2 with l2 _
  subst l0 l1 l2
  refine ⟨⟨n0, n1, s, wf_i64 w0, wf_i64 w1⟩, List.ext_getElem? fun i => ?_⟩
  match i with
  | 0 => exact g0
  | 1 => exact g1
  | 2 => exact g2
  | i + 3 => rw [List.getElem?_eq_none (by omega), List.getElem?_eq_none (by simp [Deed.cells])]
theorem deed_all {w : World} {B : Nat} {A : Option Addr} {len : Nat} {l : List Deed} (h : R.Args w B A len 3 Deed.cells l) {k : Nat} (hk : k < len) :
    ∃ (ad : Addr) (x : Deed), A = some ad ∧ ∀ w', Below B w w' → w'.cell? (ad.add (k * 3)) = some (.int .i64 x.t) ∧ w'.cell? ⟨(ad.add (k * 3)).block, (ad.add (k * 3)).off + 1, none⟩ = some (.int .i64 x.n) ∧
      w'.cell? ⟨(ad.add (k * 3)).block, (ad.add (k * 3)).off + 2, none⟩ = some (.bool x.s) := by
  have hl := h.1
  obtain ⟨ad, e, hB, hc⟩ := h.2 k (l[k]'(by omega)) (List.getElem?_eq_getElem (by omega))
  have hb : (ad.add (k * 3)).block < B := by rw [addBlock]; exact hB
  exact ⟨ad, _, e, fun w' hw => ⟨(hw.cell hb).trans (hc 0 _ rfl), (hw.cell (p := ⟨(ad.add (k * 3)).block, (ad.add (k * 3)).off + 1, none⟩) hb).trans (by rw [← addLater ad (k * 3) 1 (by omega)]; exact hc 1 _ rfl),
    (hw.cell (p := ⟨(ad.add (k * 3)).block, (ad.add (k * 3)).off + 2, none⟩) hb).trans (by rw [← addLater ad (k * 3) 2 (by omega)]; exact hc 2 _ rfl)⟩⟩
open Go.ChangeShapes Go.WideShapes Go.ChangeAt in
theorem open_deeds {H : Type} {enc : TypeId × Value → H} {W : World} {base : Nat} {v : Value} {d : DataW H} {p : List MemPlace}
    (hv : Value.okWide Try.prog W .any base 65 v) (h : DataW.Trod enc Try.prog W 0 (fun _ => true) true 65 v d p) (hlt : ∀ x ∈ p, x.block < W.heap.size) :
    ∃ A len cap l, v = .slice A len cap ∧ len ≤ cap ∧ cap ≤ maxLen ∧ R.Args W W.heap.size A len 3 Deed.cells l := by
  obtain ⟨A, len, cap, rfl, hc1, hc2, hel, hd⟩ := R.open_cells Try.underlying65 cells71 hv h hlt (by omega)
  obtain ⟨l, hl, hp⟩ := R.exists_list (p := fun i (x : Deed) => ∃ ad, A = some ad ∧ ad.block < W.heap.size ∧ ∀ j u, x.cells[j]? = some u → W.cell? (ad.add (i * 3 + j)) = some u) len (fun i hi => by
    obtain ⟨ad, cs, n, y, rfl, hB, hcl, hat, ht, _⟩ := hel i hi
    obtain ⟨x, rfl⟩ := deed_cells ht
    exact ⟨x, ad, rfl, hB, fun j u hu => (hat j (by have := (List.getElem?_eq_some_iff.1 hu).1; simpa [Deed.cells] using this)).trans hu⟩)
  exact ⟨A, len, cap, l, rfl, hc1, hc2, hl, hp⟩
theorem add_none (w : World) (d : Int) : Calls Try.prog 49 #[.pointer none, .int .i64 d] w (fun e w' => e = .returned (.tuple #[.slice none 0 0, .int .i64 1]) ∧ w' = w) := by
  go_enter Try.func49, Try.ntmps49
  go_wp2_with fail
  go_ret2
  exact ⟨rfl, rfl⟩
theorem wait_none (w : World) (d : Int) : Calls Try.prog 47 #[.pointer none, .int .i64 d] w (fun e w' => e = .returned (.tuple #[.bool false, .int .i64 1]) ∧ w' = w) := by
  go_enter Try.func47, Try.ntmps47
  go_wp2_with fail
  go_ret2
  exact ⟨rfl, rfl⟩
theorem do_none (w : World) (d : Int) : Calls Try.prog 42 #[.pointer none, .int .i64 d] w (fun e w' => e = .returned (.tuple #[.bool false, .bool false, .int .i64 1]) ∧ w' = w) := by
  go_enter Try.func42, Try.ntmps42
  go_wp2_with fail
  go_ret3
  exact ⟨rfl, rfl⟩
theorem done_none (w : World) (d : Int) : Calls Try.prog 40 #[.pointer none, .int .i64 d] w (fun e w' => e = .returned (.tuple #[.slice none 0 0, .int .i64 1]) ∧ w' = w) := by
  go_enter Try.func40, Try.ntmps40
  go_wp2_with fail
  go_ret2
  exact ⟨rfl, rfl⟩
theorem state_none (w : World) : Calls Try.prog 44 #[.pointer none] w (fun e w' => e = .returned (.tuple #[.int .i64 (-1), .bool false]) ∧ w' = w) := by
  go_enter Try.func44, Try.ntmps44
  go_wp2_with fail
  go_ret2
  exact ⟨rfl, rfl⟩
theorem count_none (w : World) : Calls Try.prog 51 #[.pointer none] w (fun e w' => e = .returned (.int .i64 0) ∧ w' = w) := by
  go_enter Try.func51, Try.ntmps51
  go_wp2_with fail
  go_ret
  exact ⟨rfl, rfl⟩
theorem queue_none (w : World) : Calls Try.prog 52 #[.pointer none] w (fun e w' => e = .returned (.slice none 0 0) ∧ w' = w) := by
  go_enter Try.func52, Try.ntmps52
  go_wp2_with fail
  go_ret
  exact ⟨rfl, rfl⟩
theorem none_calls (w : World) (x : Deed) : Calls Try.prog 12 #[.agg #[.int .i64 x.t, .int .i64 x.n, .bool x.s]] w (fun e w' => e = .returned (.bool true) ∧ Keep Nothing w w') := by
  have hu := Try.underlying71
  go_enter Try.func12, Try.ntmps12
  go_wp2_with fail
  refine (add_none _ _).mono ?_
  rintro e w' ⟨rfl, rfl⟩
  go_wp2_with fail
  refine (wait_none _ _).mono ?_
  rintro e w' ⟨rfl, rfl⟩
  go_wp2_with fail
  refine (do_none _ _).mono ?_
  rintro e w' ⟨rfl, rfl⟩
  go_wp2_with fail
  refine (done_none _ _).mono ?_
  rintro e w' ⟨rfl, rfl⟩
  go_wp2_with fail
  refine (state_none _).mono ?_
  rintro e w' ⟨rfl, rfl⟩
  go_wp2_with fail
  refine (count_none _).mono ?_
  rintro e w' ⟨rfl, rfl⟩
  go_wp2_with fail
  refine (queue_none _).mono ?_
  rintro e w' ⟨rfl, rfl⟩
  go_wp2_with fail
  refine (awake_calls _).mono ?_
  rintro e w' ⟨rfl, hk⟩
  have K := Lib.hid hk
  clear hk
  go_wp2_with fail
  go_ret
  refine ⟨rfl, Keep.then ?_ K.out⟩
  repeat (first | exact Keep.same _ _ | apply Keep.alloc | apply Keep.drewN | apply Keep.drew)
open Go.ChangeShapes Go.WideShapes Go.ChangeAt in
theorem none_law : R.Law 12 Try.f12 R.any := by
  intro H enc W base args ds p hval hA hsz _ hlt
  rw [Try.params12] at hA hval
  obtain ⟨v0, vs0, d0, ds0, p0, q0, hargs, rfl, rfl, h0, r0⟩ := trodAll_cons hA
  obtain ⟨rfl, rfl, rfl⟩ := trodAll_nil r0
  obtain rfl : args = #[v0] := by cases args; simp_all
  obtain ⟨cs, n, rfl, ht⟩ := R.open_whole Try.underlying71 (hval 0 71 v0 rfl rfl) h0
  obtain ⟨x, hx⟩ := deed_cells ht
  obtain rfl : cs = #[.int .i64 x.t, .int .i64 x.n, .bool x.s] := Array.ext' hx
  exact (none_calls W x).mono fun e w' h => ⟨h.1, h.2.below (Nat.le_refl _) (fun _ h => h.elim)⟩
end Go.Proofs.Ytmohpjkbhpgidaa.A
