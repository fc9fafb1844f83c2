/-
  Who waits: rows of Wait; the queue's functions.
-/
import Derived.Test.YtmohpjkbhpgidaaO
import Derived.Test.YtmohpjkbhpgidaaD
namespace Go.Proofs.Ytmohpjkbhpgidaa.A
open Go.RowKit Go.Proofs.Ytmohpjkbhpgidaa.U
set_option linter.unusedVariables false
set_option linter.unusedSimpArgs false
set_option maxRecDepth 100000

structure Wt where
  t : Int
  r : Bool
  d : Bool
abbrev Wt.cl (x : Wt) : List Value := [.int .i64 x.t, .bool x.r, .bool x.d]
abbrev Wt.cs (x : Wt) : Array Value := #[.int .i64 x.t, .bool x.r, .bool x.d]
abbrev Wt.val (x : Wt) : Value := .agg x.cs
theorem EW : Elem Try.prog 27 119 3 16 (Wt.val ⟨0, false, false⟩) := ⟨Try.underlying27, by kernel_rfl, by rfl, by decide⟩
def wts (L : List Wt) : List Value := L.flatMap Wt.cl
theorem wts_app (L M : List Wt) : wts (L ++ M) = wts L ++ wts M := by simp [wts]
theorem wts_cons (x : Wt) (L : List Wt) : wts (x :: L) = x.cl ++ wts L := rfl
theorem wts_len (L : List Wt) : (wts L).length = L.length * 3 := by
  induction L with
  | nil => rfl
  | cons x L ih => rw [wts_cons, List.length_append, ih, List.length_cons]; simp only [List.length_cons, List.length_nil]; omega
theorem wts_one (L : List Wt) : ∀ u ∈ wts L, u.oneCell' = true := by
  intro u hu
  obtain ⟨x, _, h⟩ := List.mem_flatMap.1 hu
  simp only [Wt.cl, List.mem_cons, List.not_mem_nil, or_false] at h
  rcases h with rfl | rfl | rfl <;> rfl
theorem wts_drop (L : List Wt) : ∀ k, (wts L).drop (k * 3) = wts (L.drop k) := by
  induction L with
  | nil => intro k; simp [wts]
  | cons x L ih =>
    intro k
    cases k with
    | zero => simp
    | succ k => rw [wts_cons, List.drop_succ_cons, ← ih k, List.drop_append, List.drop_eq_nil_of_le (by simp; omega), List.nil_append]; congr 1; simp only [List.length_cons, List.length_nil]; omega
theorem wts_get {L : List Wt} {k : Nat} {x : Wt} (h : L[k]? = some x) (j : Nat) (hj : j < 3) : (wts L)[k * 3 + j]? = x.cl[j]? := by
  obtain ⟨hk, he⟩ := List.getElem?_eq_some_iff.1 h
  rw [← List.getElem?_drop, wts_drop, List.drop_eq_getElem_cons hk, he, wts_cons, List.getElem?_append_left (by simpa using hj)]
theorem wsrc_len {w : World} {A : Option Addr} {L : List Wt} {n : Nat} (h : U.Src w A 3 n (wts L)) : L.length = n := by
  have := h.1
  rw [wts_len] at this
  omega
theorem wrow_len {w : World} {v : Value} {L : List Wt} {n : Nat} (h : Row w 119 3 v n (wts L)) : L.length = n := by
  have := h.1
  rw [wts_len] at this
  omega
def WtAt (w : World) (p : Addr) (x : Wt) : Prop :=
  w.cell? p = some (.int .i64 x.t) ∧ w.cell? ⟨p.block, p.off + 1, none⟩ = some (.bool x.r) ∧ w.cell? ⟨p.block, p.off + 2, none⟩ = some (.bool x.d)
theorem wt_at {w : World} {A : Option Addr} {L : List Wt} {n k : Nat} (h : U.Src w A 3 n (wts L)) (hk : k < n) : ∃ (ad : Addr) (x : Wt), A = some ad ∧ L[k]? = some x ∧ WtAt w (ad.add (k * 3)) x := by
  have hl := wsrc_len h
  obtain ⟨ad, rfl, hc⟩ := h.2 (by omega)
  have hx : L[k]? = some (L[k]'(by omega)) := List.getElem?_eq_getElem (by omega)
  have hc' : ∀ j u, (L[k]'(by omega)).cl[j]? = some u → w.cell? (ad.add (k * 3 + j)) = some u := fun j u hu => hc _ _ (by
    have hj : j < 3 := (List.getElem?_eq_some_iff.1 hu).1
    rw [wts_get hx j hj]
    exact hu)
  have g : ∀ j u, 0 < j → (L[k]'(by omega)).cl[j]? = some u → w.cell? ⟨(ad.add (k * 3)).block, (ad.add (k * 3)).off + j, none⟩ = some u := fun j u hj hu => by
    rw [← addLater ad (k * 3) j hj]; exact hc' j u hu
  exact ⟨ad, _, rfl, hx, hc' 0 _ rfl, g 1 _ (by omega) rfl, g 2 _ (by omega) rfl⟩
theorem WtAt.keep {w w' : World} {p : Addr} {x : Wt} {S : Nat → Prop} (h : WtAt w p x) (hk : Keep S w w') (hn : ¬ S p.block) : WtAt w' p x := by
  obtain ⟨h0, h1, h2⟩ := h
  exact ⟨hk.cell h0 hn, hk.cell h1 hn, hk.cell h2 hn⟩
/-- A task is among them. -/
def hasW (L : List Wt) (x : Int) : Bool := L.any fun y => y.t == x
theorem is103 (w : World) (y : Wt) (p : Nat) (x : Int) (hp : w.cell? ⟨p, 0, none⟩ = some (.int .i64 x)) : Calls Try.prog 103 #[y.val, .pointer (some ⟨p, 0, none⟩)] w (fun e w' => e = .returned (.bool (y.t == x)) ∧ Keep Nothing w w') := by
  have hu := Try.underlying119
  have HP := Lib.hid (show (w.alloc (.cells y.cs 119)).cell? ⟨p, 0, none⟩ = some (.int .i64 x) from ((Keep.same Nothing w).alloc (.cells y.cs 119)).cell hp (fun h => h))
  have D := (Blk.fresh w 119 y.cs).cell 0
  unfold Wt.cs at D HP
  unfold Wt.val Wt.cs
  clear hp
  go_enter Try.func103, Try.ntmps103
  have hpp := HP.out
  go_wp2_with fail
  go_ret
  exact ⟨by first | rfl | simp, (Keep.same Nothing w).alloc _⟩
def FirstW (L : List Wt) (x i : Int) : Prop := (i = -1 ∧ hasW L x = false) ∨ (0 ≤ i ∧ hasW L x = true)
theorem hasW_no {L : List Wt} {x : Int} (h : ∀ (j : Nat) (y : Wt), L[j]? = some y → (y.t == x) = false) : hasW L x = false := by
  unfold hasW
  rw [List.any_eq_false]
  intro y hy
  obtain ⟨i, hi, e⟩ := List.mem_iff_getElem.1 hy
  simpa using h i y (by rw [List.getElem?_eq_getElem hi, e])
theorem hasW_yes {L : List Wt} {x : Int} {k : Nat} {y : Wt} (h : L[k]? = some y) (hy : (y.t == x) = true) : hasW L x = true := by
  unfold hasW
  rw [List.any_eq_true]
  exact ⟨y, List.mem_of_getElem? h, hy⟩
def FirstWPost (L : List Wt) (x : Int) (w : World) (e : Ending) (w' : World) : Prop := ∃ i : Int, e = .returned (.int .i64 i) ∧ FirstW L x i ∧ Keep Nothing w w'
set_option maxHeartbeats 3200000 in
theorem ixw_calls (w : World) (A : Option Addr) (n c : Nat) (L : List Wt) (h : U.Src w A 3 n (wts L)) (hn : n ≤ 9223372036854775807) (p : Nat) (x : Int) (hp : w.cell? ⟨p, 0, none⟩ = some (.int .i64 x)) :
    Calls Try.prog 114 #[.slice A n c, .func (.func 103) #[] #[.pointer (some ⟨p, 0, none⟩)]] w (FirstWPost L x w) := by
  have hu := Try.underlying119
  have HS := Lib.hid h
  have HL := Lib.hid (wsrc_len h)
  have HP := Lib.hid hp
  clear h hp
  go_enter Try.func114, Try.ntmps114
  go_wp2_with fail
  go_loopw [8] (fun v wr => ∃ k : Nat, k ≤ n ∧ v = .int .i64 k ∧ Keep Nothing w wr ∧ ∀ (j : Nat) (y : Wt), j < k → L[j]? = some y → (y.t == x) = false) (fun v _ => n - (intOf v).toNat)
  case atStart => exact ⟨0, by omega, by simp, Keep.same _ _, fun j y hj => by omega⟩
  case round =>
    obtain ⟨k, hk, rfl, hkk, hne⟩ := hrel
    have K := Lib.hid hkk
    have NE := Lib.hid hne
    clear hkk hne
    by_cases hlt : k < n
    · obtain ⟨ad, y, rfl, hy, he⟩ := wt_at HS.out hlt
      obtain ⟨c0, c1, c2⟩ := he.keep K.out (fun h => h)
      have HY := Lib.hid hy
      have HI := Lib.hid (is103 wr y p x (K.out.cell HP.out (fun h => h)))
      clear hy he
      cases hi : (y.t == x) with
      | true =>
        rw [hi] at HI
        have HF := Lib.hid hi
        clear hi
        go_wp2_with fail
        refine HI.out.mono ?_
        rintro e w2 ⟨rfl, hk2⟩
        have K2 := Lib.hid (K.out.then hk2)
        clear hk2 c0 c1 c2
        go_wp2_with fail
        go_ret
        exact ⟨k, rfl, .inr ⟨by omega, hasW_yes HY.out HF.out⟩, K2.out⟩
      | false =>
        rw [hi] at HI
        have HF := Lib.hid hi
        clear hi
        go_wp2_with fail
        refine HI.out.mono ?_
        rintro e w2 ⟨rfl, hk2⟩
        have K2 := Lib.hid (K.out.then hk2)
        clear hk2 c0 c1 c2
        go_wp2_with fail
        go_roundw
        case rel => exact ⟨k + 1, by omega, by go_num, K2.out, fun j y' hj hy' => by
          by_cases h : j < k
          · exact NE.out j y' h hy'
          · obtain rfl : j = k := by omega
            rw [HY.out] at hy'
            injection hy' with hy'
            subst hy'
            exact HF.out⟩
        case measure => simp [intOf]; omega
    · obtain rfl : k = n := by omega
      have FS := Lib.hid (show hasW L x = false from hasW_no fun j y hy => NE.out j y (by have := (List.getElem?_eq_some_iff.1 hy).1; have := HL.out; omega) hy)
      go_wp2_with fail
      go_ret
      exact ⟨-1, rfl, .inl ⟨rfl, FS.out⟩, K.out⟩
theorem cont102 (w : World) (A : Option Addr) (n c : Nat) (L : List Wt) (h : U.Src w A 3 n (wts L)) (hn : n ≤ 9223372036854775807) (p : Nat) (x : Int) (hp : w.cell? ⟨p, 0, none⟩ = some (.int .i64 x)) :
    Calls Try.prog 102 #[.slice A n c, .func (.func 103) #[] #[.pointer (some ⟨p, 0, none⟩)]] w (fun e w' => e = .returned (.bool (hasW L x)) ∧ Keep Nothing w w') := by
  have HX := Lib.hid (ixw_calls w A n c L h hn p x hp)
  clear h hp
  go_enter Try.func102, Try.ntmps102
  go_wp2_with fail
  refine HX.out.mono ?_
  rintro e w1 ⟨i, rfl, hi, hk⟩
  have K1 := Lib.hid hk
  clear hk
  rcases hi with ⟨rfl, hi⟩ | ⟨h0, hi⟩
  · have HW := Lib.hid hi
    clear hi
    go_wp2_with fail
    go_ret
    exact ⟨by rw [HW.out]; rfl, K1.out⟩
  · have HW := Lib.hid hi
    clear hi
    have D := decide_eq_true h0
    go_wp2_with fail
    go_ret
    exact ⟨by rw [HW.out]; first | rfl | simp [h0], K1.out⟩
theorem waiting_calls (w : World) (b t : Nat) (cs : Array Value) (v : Value) (L : List Wt) (hb : Blk w b t cs) (hv : cs[0]? = some v) (hr : Row w 119 3 v L.length (wts L)) (x : Int) :
    Calls Try.prog 80 #[.pointer (some ⟨b, 0, none⟩), .int .i64 x] w (fun e w' => e = .returned (.bool (hasW L x)) ∧ Keep Nothing w w') := by
  have hu := Try.underlying113
  obtain ⟨A, c, rfl, hnc, hcm⟩ := hr.form
  have hlen := hr.len
  have hc : (w.alloc (.cells #[.int .i64 x] 3)).cell? ⟨b, 0, none⟩ = some (.slice A L.length c) := by
    have := (hb.alloc (.cells #[.int .i64 x] 3)).cell 0
    rw [this, hv]
  have HX := Lib.hid (cont102 (w.alloc (.cells #[.int .i64 x] 3)) A L.length c L (hr.alloc _).src (by unfold maxLen at hlen; omega) w.heap.size x ((Blk.fresh w 3 #[.int .i64 x]).cell 0))
  clear hb hr hv hlen hcm
  go_enter Try.func80, Try.ntmps80
  go_wp2_with fail
  refine HX.out.mono ?_
  rintro e w1 ⟨rfl, hk⟩
  have K1 := Lib.hid hk
  clear hk
  go_wp2_with fail
  go_ret
  exact ⟨rfl, ((Keep.same Nothing w).alloc _).then K1.out⟩
end Go.Proofs.Ytmohpjkbhpgidaa.A
