/-
  LmutexNone; the arguments of the locks' laws.
-/
import Derived.Test.YtmohpjkbhpgidaaRH
import Derived.Test.YtmohpjkbhpgidaaI
namespace Go.Proofs.Ytmohpjkbhpgidaa.A
open Go.RowKit Go.Proofs.Ytmohpjkbhpgidaa.U
set_option linter.unusedVariables false
set_option linter.unusedSimpArgs false
set_option maxRecDepth 100000

structure LDeed where
  t : Int
  u : Bool
  r : Bool
  ht : I64 t
def LDeed.cells (x : LDeed) : List Value := [.int .i64 x.t, .bool x.u, .bool x.r]
theorem cells31 : Try.prog.cellsOf 31 = 3 := by kernel_rfl
theorem ldeed_cells {H : Type} {enc : TypeId × Value → H} {W : World} {b0 n : Nat} {cs : List Value} {y : DataW H × List MemPlace} (ht : DataW.trod enc Try.prog W b0 (fun _ => true) true n 31 cs = some y) :
    ∃ x : LDeed, cs = x.cells := by
  obtain ⟨hcl, m, hf⟩ := R.struct_fields Try.underlying31 ht
  rw [cells31] at hcl
  have e4 : Try.prog.cellsOf 4 = 1 := by kernel_rfl
  obtain ⟨v0, y0, g0, k0, _⟩ := hf 0 3 0 rfl cells3 (by omega)
  obtain ⟨v1, y1, g1, k1, _⟩ := hf 1 4 1 rfl e4 (by omega)
  obtain ⟨v2, y2, g2, k2, _⟩ := hf 2 4 2 rfl e4 (by omega)
  obtain ⟨n0, l0, _, w0⟩ := DataW.trod_int Try.underlying3 k0
  obtain ⟨s1, l1, _⟩ := DataW.trod_bool Try.underlying4 k1
  obtain ⟨s, l2, _⟩ := DataW.trod_bool Try.underlying4 k2
  injection l0 with l0 _
  injection l1 with l1 _
  injection l2 with l2 _
  subst l0 l1 l2
  refine ⟨⟨n0, s1, s, wf_i64 w0⟩, List.ext_getElem? fun i => ?_⟩
  match i with
  | 0 => exact g0
  | 1 => exact g1
  | 2 => exact g2
  | i + 3 => rw [List.getElem?_eq_none (by omega), List.getElem?_eq_none (by simp [LDeed.cells])]
theorem ldeed_all {w : World} {B : Nat} {A : Option Addr} {len : Nat} {l : List LDeed} (h : R.Args w B A len 3 LDeed.cells l) {k : Nat} (hk : k < len) :
    ∃ (ad : Addr) (x : LDeed), A = some ad ∧ ∀ w', Below B w w' → w'.cell? (ad.add (k * 3)) = some (.int .i64 x.t) ∧ w'.cell? ⟨(ad.add (k * 3)).block, (ad.add (k * 3)).off + 1, none⟩ = some (.bool x.u) ∧
      w'.cell? ⟨(ad.add (k * 3)).block, (ad.add (k * 3)).off + 2, none⟩ = some (.bool x.r) := by
  have hl := h.1
  obtain ⟨ad, e, hB, hc⟩ := h.2 k (l[k]'(by omega)) (List.getElem?_eq_getElem (by omega))
  have hb : (ad.add (k * 3)).block < B := by rw [addBlock]; exact hB
  exact ⟨ad, _, e, fun w' hw => ⟨(hw.cell hb).trans (hc 0 _ rfl), (hw.cell (p := ⟨(ad.add (k * 3)).block, (ad.add (k * 3)).off + 1, none⟩) hb).trans (by rw [← addLater ad (k * 3) 1 (by omega)]; exact hc 1 _ rfl),
    (hw.cell (p := ⟨(ad.add (k * 3)).block, (ad.add (k * 3)).off + 2, none⟩) hb).trans (by rw [← addLater ad (k * 3) 2 (by omega)]; exact hc 2 _ rfl)⟩⟩
open Go.ChangeShapes Go.WideShapes Go.ChangeAt in
theorem open_ldeeds {H : Type} {enc : TypeId × Value → H} {W : World} {base : Nat} {v : Value} {d : DataW H} {p : List MemPlace}
    (hv : Value.okWide Try.prog W .any base 22 v) (h : DataW.Trod enc Try.prog W 0 (fun _ => true) true 22 v d p) (hlt : ∀ x ∈ p, x.block < W.heap.size) :
    ∃ A len cap l, v = .slice A len cap ∧ len ≤ cap ∧ cap ≤ maxLen ∧ R.Args W W.heap.size A len 3 LDeed.cells l := by
  obtain ⟨A, len, cap, rfl, hc1, hc2, hel, hd⟩ := R.open_cells Try.underlying22 cells31 hv h hlt (by omega)
  obtain ⟨l, hl, hp⟩ := R.exists_list (p := fun i (x : LDeed) => ∃ ad, A = some ad ∧ ad.block < W.heap.size ∧ ∀ j u, x.cells[j]? = some u → W.cell? (ad.add (i * 3 + j)) = some u) len (fun i hi => by
    obtain ⟨ad, cs, n, y, rfl, hB, hcl, hat, ht, _⟩ := hel i hi
    obtain ⟨x, rfl⟩ := ldeed_cells ht
    exact ⟨x, ad, rfl, hB, fun j u hu => (hat j (by have := (List.getElem?_eq_some_iff.1 hu).1; simpa [LDeed.cells] using this)).trans hu⟩)
  exact ⟨A, len, cap, l, rfl, hc1, hc2, hl, hp⟩
theorem mlock_none (w : World) (d : Int) : Calls Try.prog 30 #[.pointer none, .int .i64 d] w (fun e w' => e = .returned (.tuple #[.bool false, .int .i64 1]) ∧ w' = w) := by
  go_enter Try.func30, Try.ntmps30
  go_wp2_with fail
  go_ret2
  exact ⟨rfl, rfl⟩
theorem munlock_none (w : World) (d : Int) : Calls Try.prog 32 #[.pointer none, .int .i64 d] w (fun e w' => e = .returned (.tuple #[.int .i64 (-1), .int .i64 1]) ∧ w' = w) := by
  go_enter Try.func32, Try.ntmps32
  go_wp2_with fail
  go_ret2
  exact ⟨rfl, rfl⟩
theorem rwlock_none (w : World) (d : Int) (r : Bool) : Calls Try.prog 23 #[.pointer none, .int .i64 d, .bool r] w (fun e w' => e = .returned (.tuple #[.bool false, .int .i64 1]) ∧ w' = w) := by
  go_enter Try.func23, Try.ntmps23
  go_wp2_with fail
  go_ret2
  exact ⟨rfl, rfl⟩
theorem rwunlock_none (w : World) (d : Int) (r : Bool) : Calls Try.prog 20 #[.pointer none, .int .i64 d, .bool r] w (fun e w' => e = .returned (.tuple #[.slice none 0 0, .int .i64 1]) ∧ w' = w) := by
  go_enter Try.func20, Try.ntmps20
  go_wp2_with fail
  go_ret2
  exact ⟨rfl, rfl⟩
theorem holders_none (w : World) : Calls Try.prog 25 #[.pointer none] w (fun e w' => e = .returned (.tuple #[.slice none 0 0, .bool false]) ∧ w' = w) := by
  go_enter Try.func25, Try.ntmps25
  go_wp2_with fail
  go_ret2
  exact ⟨rfl, rfl⟩
theorem holder_none (w : World) : Calls Try.prog 33 #[.pointer none] w (fun e w' => e = .returned (.int .i64 (-1)) ∧ w' = w) := by
  go_enter Try.func33, Try.ntmps33
  go_wp2_with fail
  go_ret
  exact ⟨rfl, rfl⟩
theorem mqueue_none (w : World) : Calls Try.prog 37 #[.pointer none] w (fun e w' => e = .returned (.slice none 0 0) ∧ w' = w) := by
  go_enter Try.func37, Try.ntmps37
  go_wp2_with fail
  go_ret
  exact ⟨rfl, rfl⟩
theorem rwqueue_none (w : World) : Calls Try.prog 27 #[.pointer none] w (fun e w' => e = .returned (.slice none 0 0) ∧ w' = w) := by
  go_enter Try.func27, Try.ntmps27
  go_wp2_with fail
  go_ret
  exact ⟨rfl, rfl⟩
theorem lnone_calls (w : World) (x : LDeed) : Calls Try.prog 7 #[.agg #[.int .i64 x.t, .bool x.u, .bool x.r]] w (fun e w' => e = .returned (.bool true) ∧ Keep Nothing w w') := by
  have hu := Try.underlying31
  go_enter Try.func7, Try.ntmps7
  go_wp2_with fail
  refine (mlock_none _ _).mono ?_
  rintro e w' ⟨rfl, rfl⟩
  go_wp2_with fail
  refine (munlock_none _ _).mono ?_
  rintro e w' ⟨rfl, rfl⟩
  go_wp2_with fail
  refine (rwlock_none _ _ _).mono ?_
  rintro e w' ⟨rfl, rfl⟩
  go_wp2_with fail
  refine (rwunlock_none _ _ _).mono ?_
  rintro e w' ⟨rfl, rfl⟩
  go_wp2_with fail
  refine (holders_none _).mono ?_
  rintro e w' ⟨rfl, rfl⟩
  go_wp2_with fail
  refine (holder_none _).mono ?_
  rintro e w' ⟨rfl, rfl⟩
  go_wp2_with fail
  refine (mqueue_none _).mono ?_
  rintro e w' ⟨rfl, rfl⟩
  go_wp2_with fail
  refine (rwqueue_none _).mono ?_
  rintro e w' ⟨rfl, rfl⟩
  go_wp2_with fail
  refine (awake8 _).mono ?_
  rintro e w' ⟨rfl, hk⟩
  have K := Lib.hid hk
  clear hk
  go_wp2_with fail
  go_ret
  refine ⟨rfl, Keep.then ?_ K.out⟩
  repeat (first | exact Keep.same _ _ | apply Keep.alloc | apply Keep.drewN | apply Keep.drew)
open Go.ChangeShapes Go.WideShapes Go.ChangeAt in
theorem lnone_law : R.Law 7 Try.f7 R.any := by
  intro H enc W base args ds p hval hA hsz _ hlt
  rw [Try.params7] at hA hval
  obtain ⟨v0, vs0, d0, ds0, p0, q0, hargs, rfl, rfl, h0, r0⟩ := trodAll_cons hA
  obtain ⟨rfl, rfl, rfl⟩ := trodAll_nil r0
  obtain rfl : args = #[v0] := by cases args; simp_all
  obtain ⟨cs, n, rfl, ht⟩ := R.open_whole Try.underlying31 (hval 0 31 v0 rfl rfl) h0
  obtain ⟨x, hx⟩ := ldeed_cells ht
  obtain rfl : cs = #[.int .i64 x.t, .bool x.u, .bool x.r] := Array.ext' hx
  exact (lnone_calls W x).mono fun e w' h => ⟨h.1, h.2.below (Nat.le_refl _) (fun _ h => h.elim)⟩
end Go.Proofs.Ytmohpjkbhpgidaa.A
