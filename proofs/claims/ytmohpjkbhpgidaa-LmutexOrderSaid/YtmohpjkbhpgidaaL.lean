/-
  LgroupAlone.
-/
import Derived.Test.YtmohpjkbhpgidaaI
namespace Go.Proofs.Ytmohpjkbhpgidaa.A
open Go.RowKit Go.Proofs.Ytmohpjkbhpgidaa.U
set_option linter.unusedVariables false
set_option linter.unusedSimpArgs false
set_option maxRecDepth 100000

def intC (n : {n : Int // I64 n}) : List Value := [.int .i64 n.1]
theorem int_all {w : World} {B : Nat} {A : Option Addr} {len : Nat} {L : List {n : Int // I64 n}} (h : R.Args w B A len 1 intC L) {k : Nat} (hk : k < len) :
    ∃ (ad : Addr) (n : Int), A = some ad ∧ ∀ w', Below B w w' → w'.cell? (ad.add k) = some (.int .i64 n) := by
  have hl := h.1
  obtain ⟨ad, e, hB, hc⟩ := h.2 k (L[k]'(by omega)) (List.getElem?_eq_getElem (by omega))
  have := hc 0 _ rfl
  rw [Nat.mul_one, Nat.add_zero] at this
  exact ⟨ad, _, e, fun w' hw => (hw.cell (p := ad.add k) (by rw [addBlock]; exact hB)).trans this⟩
open Go.ChangeShapes Go.WideShapes Go.ChangeAt in
theorem open_ints {H : Type} {enc : TypeId × Value → H} {W : World} {base : Nat} {v : Value} {d : DataW H} {p : List MemPlace}
    (hv : Value.okWide Try.prog W .any base 26 v) (h : DataW.Trod enc Try.prog W 0 (fun _ => true) true 26 v d p) (hlt : ∀ x ∈ p, x.block < W.heap.size) :
    ∃ A len cap l, v = .slice A len cap ∧ len ≤ cap ∧ cap ≤ maxLen ∧ R.Args W W.heap.size A len 1 intC l := by
  obtain ⟨A, len, cap, rfl, hc1, hc2, hel, hd⟩ := R.open_cells Try.underlying26 cells3 hv h hlt (by omega)
  obtain ⟨l, hl, hp⟩ := R.exists_list (p := fun i (x : {n : Int // I64 n}) => ∃ ad, A = some ad ∧ ad.block < W.heap.size ∧ ∀ j u, (intC x)[j]? = some u → W.cell? (ad.add (i * 1 + j)) = some u) len (fun i hi => by
    obtain ⟨ad, cs, n, y, rfl, hB, hcl, hat, ht, _⟩ := hel i hi
    obtain ⟨c, rfl⟩ : ∃ c, cs = [c] := by
      match cs, hcl with
      | [c], _ => exact ⟨c, rfl⟩
    obtain ⟨s, e0, _, hw⟩ := DataW.trod_int Try.underlying3 ht
    injection e0 with e0 _
    subst e0
    exact ⟨⟨s, wf_i64 hw⟩, ad, rfl, hB, fun j u hu => (hat j (by have := (List.getElem?_eq_some_iff.1 hu).1; simpa [intC] using this)).trans hu⟩)
  exact ⟨A, len, cap, l, rfl, hc1, hc2, hl, hp⟩
theorem dL_len_ (W : Int) (ov : Bool) (L : List Int) (x : Int) : (dL W ov L x).length ≤ L.length + 1 := by
  unfold dL; split <;> simp
/-- Nobody ran it: who comes. -/
theorem al_first {x : Int} (hx : 0 ≤ x) : dRun (-1) false [] x = true ∧ dWait (-1) false [] x = false ∧ dE (-1) [] x = 0 ∧ dW (-1) false [] x = x ∧ dL (-1) false [] x = [] := by
  have e : dE (-1) [] x = 0 := by unfold dE; rw [if_neg (by omega), if_neg (by rintro (h | h); omega; cases h)]
  have r : dRun (-1) false [] x = true := by unfold dRun; rw [e]; exact decide_eq_true ⟨rfl, rfl, by omega⟩
  have w : dWait (-1) false [] x = false := by unfold dWait; exact decide_eq_false (by omega)
  exact ⟨r, w, e, by unfold dW; rw [r]; rfl, by unfold dL; rw [w]; rfl⟩
theorem al_bad {x : Int} (hx : x < 0) : dRun (-1) false [] x = false ∧ dE (-1) [] x = 1 ∧ dW (-1) false [] x = -1 ∧ dL (-1) false [] x = [] := by
  have e : dE (-1) [] x = 1 := by unfold dE; rw [if_pos hx]
  have r : dRun (-1) false [] x = false := by unfold dRun; rw [e]; simp
  have w : dWait (-1) false [] x = false := by unfold dWait; rw [e]; simp
  exact ⟨r, e, by unfold dW; rw [r]; rfl, by unfold dL; rw [w]; rfl⟩
theorem al_runs {W x : Int} {L : List Int} (hW : 0 ≤ W) : dRun W false L x = false ∧ dW W false L x = W := by
  have r : dRun W false L x = false := by unfold dRun; exact decide_eq_false (by omega)
  exact ⟨r, by unfold dW; rw [r]; rfl⟩
theorem al_done {W : Int} {L : List Int} (hW : 0 ≤ W) : fE W W = 0 ∧ fW W W = -1 ∧ fO W W false = true ∧ fL W W L = [] ∧ fR W W L = L := by
  have e : fE W W = 0 := by unfold fE; rw [if_neg (by omega)]
  exact ⟨e, by unfold fW; rw [if_pos e], by unfold fO; rw [if_pos e], by unfold fL; rw [if_pos e], by unfold fR; rw [if_pos e]⟩
theorem al_over {x : Int} (hx : 0 ≤ x) : dRun (-1) true [] x = false ∧ dWait (-1) true [] x = false ∧ dE (-1) [] x = 0 := by
  have e : dE (-1) [] x = 0 := by unfold dE; rw [if_neg (by omega), if_neg (by rintro (h | h); omega; cases h)]
  exact ⟨by unfold dRun; simp, by unfold dWait; simp, e⟩
set_option maxHeartbeats 3200000 in
theorem alone_calls (w : World) (A : Option Addr) (len cap : Nat) (l : List {n : Int // I64 n}) (hA : R.Args w w.heap.size A len 1 intC l) (hlen : len ≤ cap) (hcap : cap ≤ maxLen) :
    Calls Try.prog 9 #[.slice A len cap] w (fun e w' => e = .returned (.bool true) ∧ Keep Nothing w w') := by
  have HA := Lib.hid hA
  have hb : ∀ w', Below w.heap.size w w' → Keep Nothing w w' := fun w' h => Keep.of_below h _
  have H0 := Lib.hid (Holds.start w)
  have SO := Lib.hid oP_stable
  have SA := Lib.hid anP_stable
  have hmax : maxLen = 9223372036854775807 := by rfl
  clear hA
  go_enter Try.func9, Try.ntmps9
  go_wp2_with fail
  refine (onew_calls _).mono ?_
  rintro e w1 ⟨rfl, hw1⟩
  have H1 := Lib.hid (show Holds w.heap.size w w1 (star (oP w.heap.size (-1) false []) none_) by rw [hw1]; exact H0.out.more none_stable (new_once w) ((Keep.same _ _).alloc _) (fun k hk => by omega))
  clear hw1
  go_wp2_with fail
  generalize hg1 : w.heap.size = b1 at *
  clear hg1
  go_loopw [4, 5] (fun f v wr => ∃ (k : Nat) (W : Int) (L : List Int), k ≤ 200 ∧ v = .int .i64 k ∧ f = .int .i64 W ∧ L.length ≤ k ∧ (0 ≤ W ∨ (W = -1 ∧ L = [])) ∧ Holds b1 w wr (star (oP b1 W false L) none_)) (fun _ v _ => 200 - (intOf v).toNat)
  case atStart => exact ⟨0, -1, [], by omega, by simp, by simp, by simp, .inr ⟨rfl, rfl⟩, H1.out⟩
  case round =>
    obtain ⟨k, W, L, hk, rfl, rfl, hL, hc, hh⟩ := hrel
    have H := Lib.hid hh
    clear hh
    by_cases hin : k < len ∧ k < 200
    · obtain ⟨hkl, hk3⟩ := hin
      obtain ⟨ad, x, rfl, hat⟩ := int_all HA.out hkl
      have CC := Lib.hid hat
      have c0 := CC.out _ H.out.below
      clear hat
      have hlen2 := dL_len_ W false L x
      have HW := x_do (x := x) H.out none_stable (by omega)
      rcases hc with hW | ⟨rfl, rfl⟩
      · obtain ⟨e1, e2⟩ := al_runs (x := x) (L := L) hW
        rw [e1, e2] at HW
        have HX := Lib.hid HW
        clear HW e1 e2
        have g0 : decide (W < 0) = false := decide_eq_false (by omega)
        generalize dL W false L x = LL at *
        generalize dWait W false L x = cc at *
        generalize dE W L x = ee at *
        go_wp2_with fail
        refine HX.out.mono ?_
        rintro e w2 ⟨rfl, h2⟩
        have H4 := Lib.hid h2
        clear h2
        have c9 := CC.out _ H4.out.below
        go_wp2_with fail
        go_roundw
        case rel => exact ⟨k + 1, W, LL, by omega, by go_num, rfl, by omega, .inl hW, H4.out⟩
        case measure => simp [intOf]; omega
      · by_cases hx : 0 ≤ x
        · obtain ⟨e1, e2, e3, e4, e5⟩ := al_first hx
          rw [e1, e2, e3, e4, e5] at HW
          have HX := Lib.hid HW
          clear HW e1 e2 e3 e4 e5 hlen2
          have g0 : decide (x < 0) = false := decide_eq_false (by omega)
          have g1 : decide (0 ≤ x) = true := decide_eq_true hx
          have HX0 := Lib.hid hx
          go_wp2_with fail
          refine HX.out.mono ?_
          rintro e w2 ⟨rfl, h2⟩
          have H4 := Lib.hid h2
          clear h2
          have c9 := CC.out _ H4.out.below
          go_wp2_with fail
          go_roundw
          case rel => exact ⟨k + 1, x, [], by omega, by go_num, rfl, by simp, .inl HX0.out, H4.out⟩
          case measure => simp [intOf]; omega
        · obtain ⟨e1, e3, e4, e5⟩ := al_bad (show x < 0 by omega)
          rw [e1, e3, e4, e5] at HW
          have HX := Lib.hid HW
          clear HW e1 e3 e4 e5 hlen2
          have g1 : decide (0 ≤ x) = false := decide_eq_false hx
          generalize dWait (-1) false [] x = cc at *
          go_wp2_with fail
          refine HX.out.mono ?_
          rintro e w2 ⟨rfl, h2⟩
          have H4 := Lib.hid h2
          clear h2
          have c9 := CC.out _ H4.out.below
          go_wp2_with fail
          go_roundw
          case rel => exact ⟨k + 1, -1, [], by omega, by go_num, rfl, by simp, .inr ⟨rfl, rfl⟩, H4.out⟩
          case measure => simp [intOf]; omega
    · rcases hc with hW | ⟨rfl, rfl⟩
      · have g0 : decide (W < 0) = false := decide_eq_false (by omega)
        obtain ⟨e1, e2, e3, e4, e5⟩ := al_done (L := L) hW
        obtain ⟨d1, d2, d3⟩ := al_over hW
        have HD := x_done (x := W) H.out none_stable
        rw [e1, e2, e3, e4, e5] at HD
        have HX := Lib.hid HD
        have E1 := Lib.hid d1
        have E2 := Lib.hid d2
        have E3 := Lib.hid d3
        clear HD e1 e2 e3 e4 e5 d1 d2 d3
        rcases (show ¬ k < len ∨ (k < len ∧ ¬ k < 200) by omega) with hex | ⟨hex1, hex2⟩
        all_goals go_wp2_with fail
        all_goals refine HX.out.mono ?_
        all_goals rintro e w2 ⟨a2, rfl, h2⟩
        all_goals have HY := x_do (x := W) (Holds.assoc h2).drop none_stable (by decide)
        all_goals rw [E1.out, E2.out, E3.out] at HY
        all_goals have HZ := Lib.hid HY
        all_goals clear HY h2
        all_goals go_wp2_with fail
        all_goals refine HZ.out.mono ?_
        all_goals rintro e w3 ⟨rfl, h3⟩
        all_goals have H5 := Lib.hid h3
        all_goals clear h3
        all_goals go_wp2_with fail
        all_goals refine (awake_calls _).mono ?_
        all_goals rintro e w9 ⟨rfl, hk9⟩
        all_goals have K9 := Lib.hid hk9
        all_goals clear hk9
        all_goals go_wp2_with fail
        all_goals go_ret
        all_goals exact ⟨rfl, (hb _ H5.out.below).then K9.out⟩
      · rcases (show ¬ k < len ∨ (k < len ∧ ¬ k < 200) by omega) with hex | ⟨hex1, hex2⟩
        all_goals go_wp2_with fail
        all_goals refine (awake_calls _).mono ?_
        all_goals rintro e w9 ⟨rfl, hk9⟩
        all_goals have K9 := Lib.hid hk9
        all_goals clear hk9
        all_goals go_wp2_with fail
        all_goals go_ret
        all_goals exact ⟨rfl, (hb _ H.out.below).then K9.out⟩
open Go.ChangeShapes Go.WideShapes Go.ChangeAt in
theorem alone_law : R.Law 9 Try.f9 R.any := by
  intro H enc W base args ds p hval hA hsz _ hlt
  rw [Try.params9] at hA hval
  obtain ⟨v0, vs0, d0, ds0, p0, q0, hargs, rfl, rfl, h0, r0⟩ := trodAll_cons hA
  obtain ⟨rfl, rfl, rfl⟩ := trodAll_nil r0
  obtain rfl : args = #[v0] := by cases args; simp_all
  obtain ⟨A, len, cap, l, rfl, h1, h2, hl⟩ := open_ints (hval 0 26 v0 rfl rfl) h0 (fun x hx => hlt x (List.mem_append_left _ hx))
  exact (alone_calls W A len cap l hl h1 h2).mono fun e w' h => ⟨h.1, h.2.below (Nat.le_refl _) (fun _ h => h.elim)⟩
end Go.Proofs.Ytmohpjkbhpgidaa.A
