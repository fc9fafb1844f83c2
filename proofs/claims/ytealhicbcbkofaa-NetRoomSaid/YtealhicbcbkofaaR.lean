/-
  The frame of a law's row, the same for all laws: a contract that answers true and leaves all that lay there as it was gives the given statement.
-/
import Derived.Test.YtealhicbcbkofaaRows
import Derived.Test.YtealhicbcbkofaaU
import Derived.ProofKit
import Derived.OpenShut
import Derived.SizedLaws
import Derived.Carry
import Derived.JoinedCond
import Derived.Deep.Slices
import Derived.Deep.Fields
import Derived.Lib.SmallJoins
namespace Go.Proofs.Ytealhicbcbkofaa.R
open Go.ChangeShapes Go.WideShapes Go.ChangeAt Go.RowKit Go.Joins
set_option linter.unusedVariables false

theorem own : ownKnob Try.prog.godebug = none := by kernel_rfl
theorem laidOut : laidOutB Try.prog = true := by kernel_rfl

section
variable {H : Type} {enc : TypeId × Value → H} {P : Program}
theorem stays (hl : laidOutB P = true) {W W' : World} (hb : Below W.heap.size W W') : ∀ {ts : List TypeId} {vs : List Value} {ds : List (DataW H)} {p : List MemPlace},
    (∀ t ∈ ts, P.readableRec t = true ∧ t < P.types.size) → DataW.TrodAll enc P W 0 (fun _ => true) true ts vs ds p → (∀ x ∈ p, x.block < W.heap.size) →
    DataW.TrodAll enc P W' 0 (fun b => decide (b < W.heap.size)) true ts vs ds p
  | [], [], [], p, _, h, _ => h
  | t :: ts, v :: vs, d :: ds, p, hr, h, hlt => by
    obtain ⟨p1, q1, h1, h2, rfl⟩ := h
    have h0 := hr t (List.mem_cons_self ..)
    exact ⟨p1, q1, Below.trod hl h0.1 h0.2 h1 hb (fun x hx => hlt x (List.mem_append_left _ hx)), stays hl hb (fun u hu => hr u (List.mem_cons_of_mem _ hu)) h2 (fun x hx => hlt x (List.mem_append_right _ hx)), rfl⟩
  | [], _ :: _, _, _, _, h, _ => h.elim
  | [], [], _ :: _, _, _, h, _ => h.elim
  | _ :: _, [], _, _, _, h, _ => h.elim
  | _ :: _, _ :: _, [], _, _, h, _ => h.elim
theorem counted : ∀ {ts : List TypeId} {vs : List Value} {ds : List (DataW H)} {p : List MemPlace} {W : World}, DataW.TrodAll enc P W 0 (fun _ => true) true ts vs ds p → ds.length = ts.length
  | [], [], [], _, _, _ => rfl
  | _ :: _, _ :: _, _ :: _, _, _, h => by obtain ⟨_, _, _, h2, _⟩ := h; simp [counted h2]
  | [], _ :: _, _, _, _, h => h.elim
  | [], [], _ :: _, _, _, h => h.elim
  | _ :: _, [], _, _, _, h => h.elim
  | _ :: _, _ :: _, [], _, _, h => h.elim
end

/-- What a law's contract is: any arguments that can be read; it answers true, and below the heap's old end nothing has turned. 'ok': what is asked of the data besides. -/
def Law (n : Nat) (f : Func) (ok : (H : Type) → List (DataW H) → Bool) : Prop :=
  ∀ (H : Type) (enc : TypeId × Value → H) (W : World) (base : Nat) (args : Array Value) (ds : List (DataW H)) (p : List MemPlace),
    (∀ (j : Nat) t v, f.params[j]? = some t → args[j]? = some v → Value.okWide Try.prog W .any base t v) →
    DataW.TrodAll enc Try.prog W 0 (fun _ => true) true f.params.toList args.toList ds p →
    (DataW.weightsEach Try.prog f.params.toList ds).all (· ≤ reachBytes) = true → ok H ds = true → (∀ x ∈ p, x.block < W.heap.size) →
    Calls Try.prog n args W fun e W' => e = .returned (.bool true) ∧ Below W.heap.size W W'

theorem law_post {n : Nat} {f : Func} {s : ChangeSpec} {tb : TypeId} {ok : (H : Type) → List (DataW H) → Bool} (h : Law n f ok) (hv : s.vars = []) (hr : f.resultTypes = #[tb]) (hb : Try.prog.underlying tb = some .bool)
    (hts : ∀ t ∈ f.params.toList, Try.prog.readableRec t = true ∧ t < Try.prog.types.size)
    (hs : ∀ (H : Type) (ds : List (DataW H)), ds.length = f.params.toList.length → (s.fn H (ds ++ [])).results = [.lit (.bool true)] ∧ (s.fn H (ds ++ [])).args = ds ∧ (s.fn H (ds ++ [])).vars = [])
    {H : Type} {enc : TypeId × Value → H} {W : World} {base : Nat} {args : Array Value} {ds gs : List (DataW H)} {before : List MemPlace}
    (hval : ∀ (j : Nat) t v, f.params[j]? = some t → args[j]? = some v → Value.okWide Try.prog W .any base t v)
    (hW : DataW.Whole enc Try.prog f.params.toList s.vars false W args.toList ds gs before) (hk : ok H (ds ++ gs) = true)
    (hsz : (DataW.weightsEach Try.prog (f.params.toList ++ s.plain.varTypes Try.prog) (ds ++ gs)).all (· ≤ reachBytes) = true) :
    Calls Try.prog n args W fun e W' => ∃ v, e = .returned v ∧ s.post enc Try.prog f false true false false W args v W' := by
  have hW' := hW
  obtain ⟨p, q, hA, hV, rfl, hfz, hnd⟩ := hW
  have e0 : s.plain.varTypes Try.prog = [] := by simp [ChangeSpec.plain, hv, DataSpec.varTypes]
  rw [hv] at hV
  obtain ⟨rfl, rfl⟩ := trodVars_none hV
  rw [e0, List.append_nil, List.append_nil] at hsz
  rw [List.append_nil] at hk
  have hlt : ∀ x ∈ p, x.block < W.heap.size := fun x hx => hW'.lt x (by simpa using hx)
  refine (h H enc W base args ds p hval hA hsz hk hlt).mono fun e W' ⟨he, hbel⟩ => ?_
  obtain ⟨s1, s2, s3⟩ := hs H ds (counted hA)
  subst he
  refine ⟨_, rfl, ds, [], p ++ [], [], p, [], hW', ?_, ?_, ?_, hbel.frame _, fun h => by cases h⟩
  · rw [s1, hr]; exact trodAll_mk1 (shut_bool hb _)
  · rw [s2]; exact stays laidOut hbel hts hA hlt
  · rw [s3, hv]; rfl
def any : (H : Type) → List (DataW H) → Bool := fun _ _ => true
end Go.Proofs.Ytealhicbcbkofaa.R
