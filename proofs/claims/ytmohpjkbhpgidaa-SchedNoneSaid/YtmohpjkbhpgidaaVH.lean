/-
  The scheduler: find and do of a mutex, whole; a step of no task. Printed by gen_vh.py.
-/
import Derived.Test.YtmohpjkbhpgidaaVG
namespace Go.Proofs.Ytmohpjkbhpgidaa.A
open Go.RowKit Go.Proofs.Ytmohpjkbhpgidaa.U
set_option linter.unusedVariables false
set_option linter.unusedSimpArgs false
set_option maxRecDepth 100000
set_option maxHeartbeats 800000

section
variable {B : Nat} {w0 w : World} {Q : SP} {b bm : Nat} {X : List (Nat × Tk)} {O : List Ob}
theorem x_find (h : Holds B w0 w (star (schP b X bm O) Q)) (hQ : Stable Q) (x : Op3) (hn : x.n = 0) (hk : x.k = 1 ∨ x.k = 2) :
    Calls Try.prog 91 #[.pointer (some ⟨b, 0, none⟩), x.val] w (FindPost B w0 b X bm O x.obj Q) := by
  rcases look_ob O x.obj with ⟨h1, h2⟩ | ⟨i, o, h1, h2, h3, h4⟩
  · rcases hk with hk | hk
    · exact find_new1 h hQ x hn hk h1 h2
    · exact find_new2 h hQ x hn hk h1 h2
  · rcases hk with hk | hk
    · exact find_old1 h hQ x hn hk i o h1 h2 h3 h4
    · exact find_old2 h hQ x hn hk i o h1 h2 h3 h4
/-- What a mutex does: whether it waits, who goes on, the error, the mutex. -/
def doS (o : Ob) (k id : Int) : Bool × List Int × Int × Ob :=
  if k = 1 then (!(mLock o.h o.who o.L id).1, [], (mLock o.h o.who o.L id).2.1, ⟨o.num, o.g, (mLock o.h o.who o.L id).2.2.1, (mLock o.h o.who o.L id).2.2.2.1, (mLock o.h o.who o.L id).2.2.2.2⟩)
  else (false, wakeL (mUnlock o.h o.who o.L id).1 (mUnlock o.h o.who o.L id).2.1, (mUnlock o.h o.who o.L id).2.1, ⟨o.num, o.g, (mUnlock o.h o.who o.L id).2.2.1, (mUnlock o.h o.who o.L id).2.2.2.1, (mUnlock o.h o.who o.L id).2.2.2.2⟩)
theorem doS_same (o : Ob) (k id : Int) : (doS o k id).2.2.2.num = o.num ∧ (doS o k id).2.2.2.g = o.g := by
  unfold doS
  split <;> exact ⟨rfl, rfl⟩
theorem x_do {o : Ob} {x : Op3} {tv : Value} {id : Int} (h : Holds B w0 w (star o.P Q)) (hQ : Stable Q) (hL : o.L.length ≤ 1000000) (hk : x.k = 1 ∨ x.k = 2) :
    Calls Try.prog 134 #[.agg #[.pointer (some ⟨o.g, 0, none⟩)], tv, .int .i64 id, x.val] w (DoPost B w0 (doS o x.k id).1 (doS o x.k id).2.1 (doS o x.k id).2.2.1 (star (doS o x.k id).2.2.2.P Q)) := by
  rcases hk with hk | hk
  · have := do_lock (tv := tv) (id := id) h hQ hL hk
    unfold doS
    rw [if_pos hk]
    exact this
  · have := do_unlock (tv := tv) (id := id) h hQ hL hk
    unfold doS
    rw [if_neg (by omega)]
    exact this
theorem obM_set {i : Nat} {o o' : Ob} (h : O[i]? = some o) (hn : o'.num = o.num) (hg : o'.g = o.g) : obM (O.set i o') = obM O := by
  unfold obM
  apply List.ext_getElem?
  intro j
  rw [List.getElem?_map, List.getElem?_map, List.getElem?_set]
  by_cases hj : i = j
  · subst hj
    have hl := (List.getElem?_eq_some_iff.1 h).1
    rw [if_pos rfl, if_pos hl, h]
    show some (((109 : Int), o'.num), o'.v) = some ((109, o.num), o.v)
    unfold Ob.v
    rw [hn, hg]
  · rw [if_neg hj]
/-- A mutex taken out of the scheduler, and put back otherwise. -/
theorem sch_ob {i : Nat} {o : Ob} (h : Holds B w0 w (star (schP b X bm O) Q)) (hQ : Stable Q) (ho : O[i]? = some o) :
    ∃ R, Stable R ∧ Holds B w0 w (star o.P (star R (star (coreP b X bm) (star (mapP bm (obM O)) Q)))) ∧
      ∀ (w' : World) (o' : Ob) (X' : List (Nat × Tk)) (Q' : SP), o'.num = o.num → o'.g = o.g → Holds B w0 w' (star o'.P (star R (star (coreP b X' bm) (star (mapP bm (obM O)) Q')))) → Holds B w0 w' (star (schP b X' bm (O.set i o')) Q') := by
  obtain ⟨R, hR, e1, e2⟩ := obsP_take O i o ho
  refine ⟨R, hR, ?_, fun w' o' X' Q' hn hg h' => ?_⟩
  · have g : Holds B w0 w (star (star (coreP b X bm) (star (mapP bm (obM O)) (star o.P R))) Q) := by rw [← e1]; exact h
    exact g.perm (by ac_rfl)
  · show Holds B w0 w' (star (star (coreP b X' bm) (star (mapP bm (obM (O.set i o'))) (obsP (O.set i o')))) Q')
    rw [obM_set ho hn hg, e2]
    exact h'.perm (by ac_rfl)
theorem step_none (w : World) (id : Int) : Calls Try.prog 62 #[.pointer none, .int .i64 id] w (fun e w' => e = .returned (.tuple #[.agg #[.int .i64 0, .int .i64 0, .int .i64 0], .int .i64 1]) ∧ Keep Nothing w w') := by
  have hu3 := Try.underlying103
  have Z := Blk.fresh w 103 #[.int .i64 0, .int .i64 0, .int .i64 0]
  obtain ⟨a0, n0, a1, n1, a2, n2, q0, q1, q2, p0, p1⟩ := store3 Z (.int .i64 0) (.int .i64 0) (.int .i64 0)
  clear Z
  go_enter Try.func62, Try.ntmps62
  go_wp2_with fail
  refine bodyPost_ret (v := .tuple #[.agg #[.int .i64 0, .int .i64 0, .int .i64 0], .int .i64 1]) (by simp [results, Try.results62, go_sem, hu3, q0, q1, q2]) rfl ?_
  exact ⟨rfl, by repeat (first | with_reducible (exact Keep.same _ _) | with_reducible (apply Keep.drew) | with_reducible (apply Keep.alloc) | refine Keep.set ?_ (.inr (Nat.le_refl _)) _)⟩
end
theorem ready61n (w : World) : Calls Try.prog 61 #[.pointer none] w (fun e w' => e = .returned (.slice none 0 0) ∧ Keep Nothing w w') := by
  have H := Lib.hid (show Calls Try.prog 89 #[.pointer none, .func (.func 90) #[] #[]] w (fun e w' => e = .returned (.slice none 0 0) ∧ Keep Nothing w w') by
    go_enter Try.func89, Try.ntmps89
    go_wp2_with fail
    go_ret
    exact ⟨rfl, Keep.same _ _⟩)
  go_enter Try.func61, Try.ntmps61
  go_wp2_with fail
  refine H.out.mono ?_
  rintro e w1 ⟨rfl, hk⟩
  have K := Lib.hid hk
  clear hk
  go_wp2_with fail
  go_ret
  exact ⟨rfl, K.out⟩
theorem blocked67n (w : World) : Calls Try.prog 67 #[.pointer none] w (fun e w' => e = .returned (.slice none 0 0) ∧ Keep Nothing w w') := by
  have H := Lib.hid (show Calls Try.prog 89 #[.pointer none, .func (.func 98) #[] #[]] w (fun e w' => e = .returned (.slice none 0 0) ∧ Keep Nothing w w') by
    go_enter Try.func89, Try.ntmps89
    go_wp2_with fail
    go_ret
    exact ⟨rfl, Keep.same _ _⟩)
  go_enter Try.func67, Try.ntmps67
  go_wp2_with fail
  refine H.out.mono ?_
  rintro e w1 ⟨rfl, hk⟩
  have K := Lib.hid hk
  clear hk
  go_wp2_with fail
  go_ret
  exact ⟨rfl, K.out⟩
theorem ended63n (w : World) : Calls Try.prog 63 #[.pointer none] w (fun e w' => e = .returned (.bool true) ∧ Keep Nothing w w') := by
  have H := Lib.hid (show Calls Try.prog 89 #[.pointer none, .func (.func 92) #[] #[]] w (fun e w' => e = .returned (.slice none 0 0) ∧ Keep Nothing w w') by
    go_enter Try.func89, Try.ntmps89
    go_wp2_with fail
    go_ret
    exact ⟨rfl, Keep.same _ _⟩)
  go_enter Try.func63, Try.ntmps63
  go_wp2_with fail
  refine H.out.mono ?_
  rintro e w1 ⟨rfl, hk⟩
  have K := Lib.hid hk
  clear hk
  go_wp2_with fail
  go_ret
  exact ⟨rfl, K.out⟩
def readyL (X : List (Nat × Tk)) : List Int := pickL Tk.ready X X.length
def openL (X : List (Nat × Tk)) : List Int := pickL Tk.open_ X X.length
theorem ready61 (w : World) (b : Nat) (X : List (Nat × Tk)) (A : Option Addr) (c : Nat) (m : Value) (h : Tasks w b X A c m) : Calls Try.prog 61 #[.pointer (some ⟨b, 0, none⟩)] w (PickPost (readyL X) w) := by
  have H := Lib.hid (pick_ready w b X A c m h)
  clear h
  go_enter Try.func61, Try.ntmps61
  go_wp2_with fail
  refine H.out.mono ?_
  rintro e w1 ⟨A1, c1, rfl, hr, hk, hf⟩
  have R := Lib.hid hr
  have K := Lib.hid hk
  have F := Lib.hid hf
  clear hr hk hf
  go_wp2_with fail
  go_ret
  exact ⟨A1, c1, rfl, R.out, K.out, F.out⟩
theorem ended63 (w : World) (b : Nat) (X : List (Nat × Tk)) (A : Option Addr) (c : Nat) (m : Value) (h : Tasks w b X A c m) : Calls Try.prog 63 #[.pointer (some ⟨b, 0, none⟩)] w (fun e w' => e = .returned (.bool (openL X).isEmpty) ∧ Keep Nothing w w') := by
  have H := Lib.hid (pick_open w b X A c m h)
  clear h
  go_enter Try.func63, Try.ntmps63
  go_wp2_with fail
  refine H.out.mono ?_
  rintro e w1 ⟨A1, c1, rfl, hr, hk, hf⟩
  have K := Lib.hid hk
  have E := Lib.hid (show (((pickL Tk.open_ X X.length).length : Int) == 0) = (openL X).isEmpty by
    unfold openL
    cases pickL Tk.open_ X X.length with
    | nil => rfl
    | cons a l => simp; omega)
  clear hr hk hf
  go_wp2_with fail
  go_ret
  exact ⟨by first | (rw [← E.out]; rfl) | (rw [← E.out]), K.out⟩
end Go.Proofs.Ytmohpjkbhpgidaa.A
