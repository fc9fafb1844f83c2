/-
  The frame of a law's row, the same for all laws: a contract that answers true and leaves all that lay there as it was gives the given statement.
-/
import Derived.Test.YtmohpjkbhpgidaaRows
import Derived.Test.YtmohpjkbhpgidaaH
import Derived.ProofKit
import Derived.OpenShut
import Derived.SizedLaws
import Derived.Carry
import Derived.JoinedCond
import Derived.Deep.Slices
import Derived.Deep.Fields
import Derived.Lib.SmallJoins
namespace Go.Proofs.Ytmohpjkbhpgidaa.R
open Go.ChangeShapes Go.WideShapes Go.ChangeAt Go.RowKit Go.Joins
set_option linter.unusedVariables false
set_option maxRecDepth 100000

theorem own : ownKnob Try.prog.godebug = none := by kernel_rfl
theorem laidOut : laidOutB Try.prog = true := by kernel_rfl

section
variable {H : Type} {enc : TypeId × Value → H} {P : Program}
theorem stays (hl : laidOutB P = true) {W W' : World} (hb : Below W.heap.size W W') : ∀ {ts : List TypeId} {vs : List Value} {ds : List (DataW H)} {p : List MemPlace},
    (∀ t ∈ ts, P.readableRec t = true ∧ t < P.types.size) → DataW.TrodAll enc P W 0 (fun _ => true) true ts vs ds p → (∀ x ∈ p, x.block < W.heap.size) →
    DataW.TrodAll enc P W' 0 (fun b => decide (b < W.heap.size)) true ts vs ds p
  | [], [], [], p, _, h, _ => h
  | t :: ts, v :: vs, d :: ds, p, hr, h, hlt => by
    obtain ⟨p1, q1, h1, h2, rfl⟩ := h
    have h0 := hr t (List.mem_cons_self ..)
    exact ⟨p1, q1, Below.trod hl h0.1 h0.2 h1 hb (fun x hx => hlt x (List.mem_append_left _ hx)), stays hl hb (fun u hu => hr u (List.mem_cons_of_mem _ hu)) h2 (fun x hx => hlt x (List.mem_append_right _ hx)), rfl⟩
  | [], _ :: _, _, _, _, h, _ => h.elim
  | [], [], _ :: _, _, _, h, _ => h.elim
  | _ :: _, [], _, _, _, h, _ => h.elim
  | _ :: _, _ :: _, [], _, _, h, _ => h.elim
theorem counted : ∀ {ts : List TypeId} {vs : List Value} {ds : List (DataW H)} {p : List MemPlace} {W : World}, DataW.TrodAll enc P W 0 (fun _ => true) true ts vs ds p → ds.length = ts.length
  | [], [], [], _, _, _ => rfl
  | _ :: _, _ :: _, _ :: _, _, _, h => by obtain ⟨_, _, _, h2, _⟩ := h; simp [counted h2]
  | [], _ :: _, _, _, _, h => h.elim
  | [], [], _ :: _, _, _, h => h.elim
  | _ :: _, [], _, _, _, h => h.elim
  | _ :: _, _ :: _, [], _, _, h => h.elim
end

/-- What a law's contract is: any arguments that can be read; it answers true, and below the heap's old end nothing has turned. 'ok': what is asked of the data besides. -/
def Law (n : Nat) (f : Func) (ok : (H : Type) → List (DataW H) → Bool) : Prop :=
  ∀ (H : Type) (enc : TypeId × Value → H) (W : World) (base : Nat) (args : Array Value) (ds : List (DataW H)) (p : List MemPlace),
    (∀ (j : Nat) t v, f.params[j]? = some t → args[j]? = some v → Value.okWide Try.prog W .any base t v) →
    DataW.TrodAll enc Try.prog W 0 (fun _ => true) true f.params.toList args.toList ds p →
    (DataW.weightsEach Try.prog f.params.toList ds).all (· ≤ reachBytes) = true → ok H ds = true → (∀ x ∈ p, x.block < W.heap.size) →
    Calls Try.prog n args W fun e W' => e = .returned (.bool true) ∧ Below W.heap.size W W'

theorem law_post {n : Nat} {f : Func} {s : ChangeSpec} {tb : TypeId} {ok : (H : Type) → List (DataW H) → Bool} (h : Law n f ok) (hv : s.vars = []) (hr : f.resultTypes = #[tb]) (hb : Try.prog.underlying tb = some .bool)
    (hts : ∀ t ∈ f.params.toList, Try.prog.readableRec t = true ∧ t < Try.prog.types.size)
    (hs : ∀ (H : Type) (ds : List (DataW H)), ds.length = f.params.toList.length → (s.fn H (ds ++ [])).results = [.lit (.bool true)] ∧ (s.fn H (ds ++ [])).args = ds ∧ (s.fn H (ds ++ [])).vars = [])
    {H : Type} {enc : TypeId × Value → H} {W : World} {base : Nat} {args : Array Value} {ds gs : List (DataW H)} {before : List MemPlace}
    (hval : ∀ (j : Nat) t v, f.params[j]? = some t → args[j]? = some v → Value.okWide Try.prog W .any base t v)
    (hW : DataW.Whole enc Try.prog f.params.toList s.vars false W args.toList ds gs before) (hk : ok H (ds ++ gs) = true)
    (hsz : (DataW.weightsEach Try.prog (f.params.toList ++ s.plain.varTypes Try.prog) (ds ++ gs)).all (· ≤ reachBytes) = true) :
    Calls Try.prog n args W fun e W' => ∃ v, e = .returned v ∧ s.post enc Try.prog f false true false false W args v W' := by
  have hW' := hW
  obtain ⟨p, q, hA, hV, rfl, hfz, hnd⟩ := hW
  have e0 : s.plain.varTypes Try.prog = [] := by simp [ChangeSpec.plain, hv, DataSpec.varTypes]
  rw [hv] at hV
  obtain ⟨rfl, rfl⟩ := trodVars_none hV
  rw [e0, List.append_nil, List.append_nil] at hsz
  rw [List.append_nil] at hk
  have hlt : ∀ x ∈ p, x.block < W.heap.size := fun x hx => hW'.lt x (by simpa using hx)
  refine (h H enc W base args ds p hval hA hsz hk hlt).mono fun e W' ⟨he, hbel⟩ => ?_
  obtain ⟨s1, s2, s3⟩ := hs H ds (counted hA)
  subst he
  refine ⟨_, rfl, ds, [], p ++ [], [], p, [], hW', ?_, ?_, ?_, hbel.frame _, fun h => by cases h⟩
  · rw [s1, hr]; exact trodAll_mk1 (shut_bool hb _)
  · rw [s2]; exact stays laidOut hbel hts hA hlt
  · rw [s3, hv]; rfl
/-- From 'for each place there is one' to a list. -/
theorem exists_list {α : Type} {p : Nat → α → Prop} : ∀ n : Nat, (∀ i, i < n → ∃ x, p i x) → ∃ l : List α, l.length = n ∧ ∀ i x, l[i]? = some x → p i x
  | 0, _ => ⟨[], rfl, fun i x h => by simp at h⟩
  | n + 1, h => by
    obtain ⟨l, hl, hp⟩ := exists_list n (fun i hi => h i (by omega))
    obtain ⟨x, hx⟩ := h n (by omega)
    refine ⟨l ++ [x], by simp [hl], fun i y hy => ?_⟩
    by_cases hi : i < n
    · rw [List.getElem?_append_left (by omega)] at hy
      exact hp i y hy
    · have hlen := (List.getElem?_eq_some_iff.1 hy).1
      simp [hl] at hlen
      obtain rfl : i = n := by omega
      rw [List.getElem?_append_right (by omega), hl] at hy
      simp at hy
      subst hy
      exact hx
/-- An argument that is a slice: its value, and of each element the cells as they read. -/
theorem open_cells {H : Type} {enc : TypeId × Value → H} {W : World} {base b0 : Nat} {v : Value} {d : DataW H} {p : List MemPlace} {t e s : Nat} (ht : Try.prog.underlying t = some (.slice e)) (hC : Try.prog.cellsOf e = s)
    (hv : Value.okWide Try.prog W .any base t v) (h : DataW.Trod enc Try.prog W b0 (fun _ => true) true t v d p) (hlt : ∀ x ∈ p, x.block < W.heap.size) (hs : 0 < s) :
    ∃ A len cap, v = .slice A len cap ∧ len ≤ cap ∧ cap ≤ maxLen ∧ (∀ i, i < len → ∃ ad cs n y, A = some ad ∧ ad.block < W.heap.size ∧ cs.length = s ∧ (∀ j, j < s → W.cell? (ad.add (i * s + j)) = cs[j]?) ∧
      DataW.trod enc Try.prog W b0 (fun _ => true) true n e cs = some y ∧ ∀ x ∈ y.2, x.block < W.heap.size) ∧ ((d = .nil ∧ len = 0) ∨ ∃ es sp, d = .slice es sp ∧ es.length = len ∧ sp.length = cap - len) := by
  obtain ⟨A, len, cap, rfl⟩ := okWide_slice ht hv
  obtain ⟨fuel, hf⟩ := h
  simp only [Value.cells] at hf
  rcases Go.Deep.open_slice ht hf with ⟨hcs, hx⟩ | ⟨a, len', cap', m, n, D, Pl, hcs, hb, hl, hm, hmm, hx, hi⟩
  · simp at hcs
    obtain ⟨rfl, rfl, rfl⟩ := hcs
    simp only [Prod.mk.injEq] at hx
    exact ⟨_, _, _, rfl, Nat.le_refl _, Nat.zero_le _, fun i hi => absurd hi (by omega), .inl ⟨hx.1, rfl⟩⟩
  · simp at hcs
    obtain ⟨rfl, rfl, rfl⟩ := hcs
    simp only [if_true] at hmm
    subst hmm
    simp only [Prod.mk.injEq] at hx
    obtain ⟨hd, hp⟩ := hx
    refine ⟨_, _, _, rfl, hl, hm, fun i hil => ?_, .inr ⟨_, _, hd, by simp, by simp⟩⟩
    obtain ⟨cs', hc, ht'⟩ := hi i (by omega)
    rw [hC] at hc
    obtain ⟨_, hcl, hat⟩ := World.cells?_some hc
    have hblk : a.block < W.heap.size := by
      have h0 := hat 0 hs
      have hv0 : cs'[0]? = some (cs'[0]'(by omega)) := List.getElem?_eq_getElem (by omega)
      rw [hv0] at h0
      have := World.block_lt_of_cell? W _ h0
      simpa [U.addBlock] using this
    refine ⟨a, cs', n, _, rfl, hblk, hcl, fun j hj => ?_, ht', fun x hx => hlt x ?_⟩
    · rw [← U.addAdd]; exact hat j hj
    · rw [hp]
      exact List.mem_append_right _ (List.mem_flatMap.2 ⟨i, List.mem_range.2 (by omega), hx⟩)
/-- The fields of a struct that is read: each of one cell. -/
theorem struct_fields {H : Type} {enc : TypeId × Value → H} {W : World} {b0 n t : Nat} {sp : Nat → Bool} {held : Bool} {cs : List Value} {x : DataW H × List MemPlace} {fs : Array Field} (hs : Try.prog.underlying t = some (.struct fs))
    (ht : DataW.trod enc Try.prog W b0 sp held n t cs = some x) : cs.length = Try.prog.cellsOf t ∧ ∃ m, ∀ (i ty off : Nat), (fs[i]?).map (fun f => (f.type, f.offset)) = some (ty, off) → Try.prog.cellsOf ty = 1 → off < cs.length →
      ∃ v y, cs[off]? = some v ∧ DataW.trod enc Try.prog W b0 sp held m ty [v] = some y ∧ ∀ p ∈ y.2, p ∈ x.2 := by
  obtain ⟨xs, m, _, rfl, hcl, hxl, hf⟩ := DataW.trod_struct hs ht
  refine ⟨hcl, m, fun i ty off hi h1 ho => ?_⟩
  cases hfi : fs[i]? with
  | none => rw [hfi] at hi; cases hi
  | some f =>
    rw [hfi] at hi
    simp only [Option.map_some, Option.some.injEq, Prod.mk.injEq] at hi
    obtain ⟨rfl, rfl⟩ := hi
    have k := hf i f hfi
    have hil : i < xs.length := by rw [hxl]; exact (Array.getElem?_eq_some_iff.1 hfi).1
    rw [List.getElem?_eq_getElem hil, h1, List.drop_eq_getElem_cons ho, List.take_succ_cons, List.take_zero] at k
    exact ⟨_, _, List.getElem?_eq_getElem ho, k, fun p hp => List.mem_flatMap.2 ⟨_, List.getElem_mem hil, hp⟩⟩
/-- An argument that is a struct: its cells, as they read. -/
theorem open_whole {H : Type} {enc : TypeId × Value → H} {W : World} {base b0 : Nat} {v : Value} {d : DataW H} {p : List MemPlace} {t : Nat} {fs : Array Field} (ht : Try.prog.underlying t = some (.struct fs))
    (hv : Value.okWide Try.prog W .any base t v) (h : DataW.Trod enc Try.prog W b0 (fun _ => true) true t v d p) : ∃ cs n, v = .agg cs ∧ DataW.trod enc Try.prog W b0 (fun _ => true) true n t cs.toList = some (d, p) := by
  simp only [Value.okWide, ht] at hv
  obtain ⟨cs, rfl, hsz, _⟩ := hv
  obtain ⟨fuel, hf⟩ := h
  exact ⟨cs, fuel, rfl, hf⟩
theorem bulk_mem {H : Type} {d : DataW H} : ∀ {l : List (DataW H)}, d ∈ l → Rows.uptoBulk d ≤ Rows.uptoBulkAll l
  | e :: l, h => by
    rw [Rows.uptoBulkAll]
    rcases List.mem_cons.1 h with rfl | h
    · omega
    · have := bulk_mem h; omega
/-- An argument that is a slice: its value, and of each element the cells as they read. -/
theorem open_cells_bulk {H : Type} {enc : TypeId × Value → H} {W : World} {base b0 : Nat} {v : Value} {d : DataW H} {p : List MemPlace} {t e s : Nat} (ht : Try.prog.underlying t = some (.slice e)) (hC : Try.prog.cellsOf e = s)
    (hv : Value.okWide Try.prog W .any base t v) (h : DataW.Trod enc Try.prog W b0 (fun _ => true) true t v d p) (hlt : ∀ x ∈ p, x.block < W.heap.size) (hs : 0 < s) :
    ∃ A len cap, v = .slice A len cap ∧ len ≤ cap ∧ cap ≤ maxLen ∧ (∀ i, i < len → ∃ ad cs n y, A = some ad ∧ ad.block < W.heap.size ∧ cs.length = s ∧ (∀ j, j < s → W.cell? (ad.add (i * s + j)) = cs[j]?) ∧
      DataW.trod enc Try.prog W b0 (fun _ => true) true n e cs = some y ∧ (∀ x ∈ y.2, x.block < W.heap.size) ∧ Rows.uptoBulk y.1 ≤ Rows.uptoBulk d) ∧ ((d = .nil ∧ len = 0) ∨ ∃ es sp, d = .slice es sp ∧ es.length = len ∧ sp.length = cap - len) := by
  obtain ⟨A, len, cap, rfl⟩ := okWide_slice ht hv
  obtain ⟨fuel, hf⟩ := h
  simp only [Value.cells] at hf
  rcases Go.Deep.open_slice ht hf with ⟨hcs, hx⟩ | ⟨a, len', cap', m, n, D, Pl, hcs, hb, hl, hm, hmm, hx, hi⟩
  · simp at hcs
    obtain ⟨rfl, rfl, rfl⟩ := hcs
    simp only [Prod.mk.injEq] at hx
    exact ⟨_, _, _, rfl, Nat.le_refl _, Nat.zero_le _, fun i hi => absurd hi (by omega), .inl ⟨hx.1, rfl⟩⟩
  · simp at hcs
    obtain ⟨rfl, rfl, rfl⟩ := hcs
    simp only [if_true] at hmm
    subst hmm
    simp only [Prod.mk.injEq] at hx
    obtain ⟨hd, hp⟩ := hx
    refine ⟨_, _, _, rfl, hl, hm, fun i hil => ?_, .inr ⟨_, _, hd, by simp, by simp⟩⟩
    obtain ⟨cs', hc, ht'⟩ := hi i (by omega)
    rw [hC] at hc
    obtain ⟨_, hcl, hat⟩ := World.cells?_some hc
    have hblk : a.block < W.heap.size := by
      have h0 := hat 0 hs
      have hv0 : cs'[0]? = some (cs'[0]'(by omega)) := List.getElem?_eq_getElem (by omega)
      rw [hv0] at h0
      have := World.block_lt_of_cell? W _ h0
      simpa [U.addBlock] using this
    refine ⟨a, cs', n, _, rfl, hblk, hcl, fun j hj => ?_, ht', fun x hx => hlt x ?_, ?_⟩
    · rw [← U.addAdd]; exact hat j hj
    · rw [hp]
      exact List.mem_append_right _ (List.mem_flatMap.2 ⟨i, List.mem_range.2 (by omega), hx⟩)
    · rw [hd]
      have := bulk_mem (List.mem_map.2 ⟨i, List.mem_range.2 (show i < _ by omega), rfl⟩ : D i ∈ (List.range _).map D)
      simp only [Rows.uptoBulk]
      omega
/-- The fields of a struct that is read: each of one cell. -/
theorem struct_fields_bulk {H : Type} {enc : TypeId × Value → H} {W : World} {b0 n t : Nat} {sp : Nat → Bool} {held : Bool} {cs : List Value} {x : DataW H × List MemPlace} {fs : Array Field} (hs : Try.prog.underlying t = some (.struct fs))
    (ht : DataW.trod enc Try.prog W b0 sp held n t cs = some x) : cs.length = Try.prog.cellsOf t ∧ ∃ m, ∀ (i ty off : Nat), (fs[i]?).map (fun f => (f.type, f.offset)) = some (ty, off) → Try.prog.cellsOf ty = 1 → off < cs.length →
      ∃ v y, cs[off]? = some v ∧ DataW.trod enc Try.prog W b0 sp held m ty [v] = some y ∧ (∀ p ∈ y.2, p ∈ x.2) ∧ Rows.uptoBulk y.1 ≤ Rows.uptoBulk x.1 := by
  obtain ⟨xs, m, _, rfl, hcl, hxl, hf⟩ := DataW.trod_struct hs ht
  refine ⟨hcl, m, fun i ty off hi h1 ho => ?_⟩
  cases hfi : fs[i]? with
  | none => rw [hfi] at hi; cases hi
  | some f =>
    rw [hfi] at hi
    simp only [Option.map_some, Option.some.injEq, Prod.mk.injEq] at hi
    obtain ⟨rfl, rfl⟩ := hi
    have k := hf i f hfi
    have hil : i < xs.length := by rw [hxl]; exact (Array.getElem?_eq_some_iff.1 hfi).1
    rw [List.getElem?_eq_getElem hil, h1, List.drop_eq_getElem_cons ho, List.take_succ_cons, List.take_zero] at k
    exact ⟨_, _, List.getElem?_eq_getElem ho, k, fun p hp => List.mem_flatMap.2 ⟨_, List.getElem_mem hil, hp⟩, by
      have := bulk_mem (List.mem_map.2 ⟨_, List.getElem_mem hil, rfl⟩ : (xs[i]'hil).1 ∈ xs.map (·.1))
      simp only [Rows.uptoBulk]
      omega⟩
/-- The cells of a slice argument, by a list of what its elements are. -/
def Args {α : Type} (w : World) (B : Nat) (A : Option Addr) (len s : Nat) (cs : α → List Value) (l : List α) : Prop :=
  l.length = len ∧ ∀ i x, l[i]? = some x → ∃ ad, A = some ad ∧ ad.block < B ∧ ∀ j u, (cs x)[j]? = some u → w.cell? (ad.add (i * s + j)) = some u
theorem Args.below {α : Type} {w w' : World} {B : Nat} {A : Option Addr} {len s : Nat} {cs : α → List Value} {l : List α} (h : Args w B A len s cs l) (hb : Below B w w') : Args w' B A len s cs l :=
  ⟨h.1, fun i x hx => by
    obtain ⟨ad, e, hB, hc⟩ := h.2 i x hx
    exact ⟨ad, e, hB, fun j u hu => (hb.cell (by rw [U.addBlock]; exact hB)).trans (hc j u hu)⟩⟩
/-- 'upto' speaks of each argument. -/
theorem upto_all {H : Type} {ds : List (DataW H)} (h : Rows.uptoSmall H ds = true) : Rows.uptoBulkAll ds ≤ 1048576 := of_decide_eq_true h
def any : (H : Type) → List (DataW H) → Bool := fun _ _ => true
end Go.Proofs.Ytmohpjkbhpgidaa.R
