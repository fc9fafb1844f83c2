/-
  The learner: the thing in memory; what follows; known, Known, New, Applied; the reference's find, Known, New.
-/
import Derived.Test.YtcbjmmjjohigmaaA
namespace Go.Proofs.Ytcbjmmjjohigmaa.A
open Go.RowKit Go.Proofs.Ytcbjmmjjohigmaa.U
set_option linter.unusedVariables false
set_option linter.unusedSimpArgs false
set_option maxRecDepth 100000

/-! ### The plain law: what follows -/
def cnt (L : List Ent) (at_ : Int) : Nat := (L.filter (fun x => decide (at_ < x.a))).length
theorem cnt_le (L : List Ent) (at_ : Int) : cnt L at_ ≤ L.length := List.length_filter_le _ _
theorem findV_mem {L : List Ent} {s : Int} {x : Ent} (h : findV L s = some x) : x ∈ L ∧ x.a = s := by
  unfold findV at h
  have h1 := List.mem_of_find?_eq_some h
  have h2 := List.find?_some h
  exact ⟨h1, by simpa [isSlot] using h2⟩
theorem cnt_step {L : List Ent} {at_ : Int} {x : Ent} (h : findV L (at_ + 1) = some x) : cnt L (at_ + 1) < cnt L at_ := by
  obtain ⟨h1, h2⟩ := findV_mem h
  unfold cnt
  have e : L.filter (fun x => decide (at_ + 1 < x.a)) = (L.filter (fun x => decide (at_ < x.a))).filter (fun x => decide (at_ + 1 < x.a)) := by
    rw [List.filter_filter]
    congr 1
    funext y
    by_cases h : at_ + 1 < y.a
    · have h3 : at_ < y.a := by omega
      simp [h, h3]
    · simp [h]
  rw [e, List.length_filter_lt_length_iff_exists]
  exact ⟨x, List.mem_filter.2 ⟨h1, by rw [decide_eq_true_iff]; omega⟩, by rw [decide_eq_true_iff]; omega⟩
/-- What follows is applied: the last slot that is, and the entries. -/
def fol (L : List Ent) (at_ : Int) : Int × List Ent :=
  if at_ < 9223372036854775807 then
    match h : findV L (at_ + 1) with
    | none => (at_, [])
    | some x => ((fol L (at_ + 1)).1, x :: (fol L (at_ + 1)).2)
  else (at_, [])
termination_by cnt L at_
decreasing_by
  all_goals exact cnt_step h
theorem fol_max {L : List Ent} {a : Int} (h : ¬ a < 9223372036854775807) : fol L a = (a, []) := by
  rw [fol, if_neg h]
theorem fol_none {L : List Ent} {a : Int} (h : findV L (a + 1) = none) : fol L a = (a, []) := by
  rw [fol]
  split
  · split
    · rfl
    · rename_i x hx; rw [h] at hx; cases hx
  · rfl
theorem fol_some {L : List Ent} {a : Int} {x : Ent} (h0 : a < 9223372036854775807) (h : findV L (a + 1) = some x) : fol L a = ((fol L (a + 1)).1, x :: (fol L (a + 1)).2) := by
  conv => lhs; rw [fol]
  rw [if_pos h0]
  split
  · rename_i hx; rw [h] at hx; cases hx
  · rename_i y hy; rw [h] at hy; injection hy with hy; subst hy; rfl
theorem fol_len (L : List Ent) (a : Int) : (fol L a).2.length ≤ cnt L a := by
  induction hc : cnt L a using Nat.strongRecOn generalizing a with
  | _ c ih =>
    by_cases h0 : a < 9223372036854775807
    · cases h : findV L (a + 1) with
      | none => rw [fol_none h]; simp
      | some x =>
        have hs := cnt_step h
        have := ih (cnt L (a + 1)) (by omega) (a + 1) rfl
        rw [fol_some h0 h, List.length_cons]
        omega
    · rw [fol_max h0]; simp
theorem fol_ge (L : List Ent) (a : Int) : a ≤ (fol L a).1 ∧ ((fol L a).1 ≤ 9223372036854775807 ∨ (fol L a).1 = a) := by
  induction hc : cnt L a using Nat.strongRecOn generalizing a with
  | _ c ih =>
    by_cases h0 : a < 9223372036854775807
    · cases h : findV L (a + 1) with
      | none => rw [fol_none h]; exact ⟨by simp, .inr rfl⟩
      | some x =>
        have hs := cnt_step h
        have := ih (cnt L (a + 1)) (by omega) (a + 1) rfl
        rw [fol_some h0 h]
        exact ⟨by have := this.1; simp only; omega, .inl (by rcases this.2 with h | h <;> simp only <;> omega)⟩
    · rw [fol_max h0]; exact ⟨by simp, .inr rfl⟩
/-! ### The thing in memory -/
def lnP (t b : Nat) (a : Int) (L : List Ent) : SP := fun w F => ∃ v, Blk w b t #[.int .i64 a, v] ∧ Row w 30 7 v L.length (ents L) ∧ ∀ k, F k ↔ k = b ∨ v.ownBlock = some k
theorem lnP_stable (t b : Nat) (a : Int) (L : List Ent) : Stable (lnP t b a L) where
  keep := fun ⟨v, hb, hr, hF⟩ hk hn => ⟨v, hb.keep hk (hn b ((hF b).2 (.inl rfl))), hr.keep hk (fun g hg => hn g ((hF g).2 (.inr hg))), hF⟩
  lt := fun ⟨v, hb, hr, hF⟩ hk => by
    rcases (hF _).1 hk with h | h
    · rw [h]; exact hb.lt
    · exact hr.lt _ h
theorem new_ln (w : World) (t : Nat) (a : Int) : lnP t w.heap.size a [] (w.alloc (.cells #[.int .i64 a, .slice none 0 0] t)) (fun k => k = w.heap.size) :=
  ⟨_, Blk.fresh w t _, Row.nil _ 30 7, fun k => by simp [Value.ownBlock]⟩
theorem Holds.newLn {B : Nat} {w0 w : World} {Q : SP} (h : Holds B w0 w Q) (hQ : Stable Q) (t : Nat) (a : Int) : Holds B w0 (w.alloc (.cells #[.int .i64 a, .slice none 0 0] t)) (star (lnP t w.heap.size a []) Q) :=
  h.more hQ (new_ln w t a) ((Keep.same _ _).alloc _) (fun k hk => Nat.le_of_eq hk.symm)
def base0 (n : Int) : Int := if n < 0 then 0 else n
theorem new_calls (w : World) (n : Int) : Calls Try.prog 7 #[.int .i64 n] w (fun e w' => e = .returned (.pointer (some ⟨w.heap.size, 0, none⟩)) ∧ w' = w.alloc (.cells #[.int .i64 (base0 n), .slice none 0 0] 51)) := by
  have hu := Try.underlying51
  by_cases h : n < 0
  · have E := Lib.hid (show base0 n = 0 from if_pos h)
    have h0 : ¬ 0 ≤ n := by omega
    have h1 : n ≤ 0 := by omega
    go_enter Try.func7, Try.ntmps7
    go_wp2_with fail
    go_ret
    exact ⟨rfl, by rw [E.out]⟩
  · have E := Lib.hid (show base0 n = n from if_neg h)
    have h0 : 0 ≤ n := by omega
    go_enter Try.func7, Try.ntmps7
    go_wp2_with fail
    go_ret
    exact ⟨rfl, by rw [E.out]⟩
theorem rnew_calls (w : World) (n : Int) : Calls Try.prog 12 #[.int .i64 n] w (fun e w' => e = .returned (.pointer (some ⟨w.heap.size, 0, none⟩)) ∧ w' = w.alloc (.cells #[.int .i64 (base0 n), .slice none 0 0] 47)) := by
  have hu := Try.underlying47
  by_cases h : n < 0
  · have E := Lib.hid (show base0 n = 0 from if_pos h)
    have h0 : ¬ 0 ≤ n := by omega
    have h1 : n ≤ 0 := by omega
    go_enter Try.func12, Try.ntmps12
    go_wp2_with fail
    go_ret
    exact ⟨rfl, by rw [E.out]⟩
  · have E := Lib.hid (show base0 n = n from if_neg h)
    by_cases h2 : n = 0
    · subst h2
      go_enter Try.func12, Try.ntmps12
      go_wp2_with fail
      go_ret
      exact ⟨rfl, by rw [E.out]⟩
    · have h0 : 0 < n := by omega
      have h1 : ¬ n ≤ 0 := by omega
      have h3 : 0 ≤ n := by omega
      go_enter Try.func12, Try.ntmps12
      go_wp2_with fail
      go_ret
      exact ⟨rfl, by rw [E.out]⟩
set_option maxHeartbeats 3200000 in
theorem known_calls (w : World) (b : Nat) (F : Nat → Prop) (a : Int) (L : List Ent) (h : lnP 51 b a L w F) (s : Int) :
    Calls Try.prog 22 #[.pointer (some ⟨b, 0, none⟩), .int .i64 s] w (fun e w' => e = .returned (.tuple #[(entOr (findV L s)).val, .bool (findV L s).isSome]) ∧ Keep Nothing w w') := by
  have hu := Try.underlying51
  have hu2 := Try.underlying30
  obtain ⟨v, hb, hr, hF⟩ := h
  obtain ⟨A, c, rfl, hc1, hc2⟩ := hr.form
  have hlen := hr.len
  unfold maxLen at hlen
  have K0 := Lib.hid (((Keep.same Nothing w).alloc (.cells #[.int .i64 s] 3)).alloc (.cells zes 30))
  have R0 := Lib.hid ((hr.alloc (.cells #[.int .i64 s] 3)).alloc (.cells zes 30))
  have C1 := ((hb.alloc (.cells #[.int .i64 s] 3)).alloc (.cells zes 30)).cell 1
  have P0 := Lib.hid (((Blk.fresh w 3 #[.int .i64 s]).alloc (.cells zes 30)).cell 0)
  have B0 := Lib.hid (show Blk ((w.alloc (.cells #[.int .i64 s] 3)).alloc (.cells zes 30)) (w.heap.size + 1) 30 zes by
    have := Blk.fresh (w.alloc (.cells #[.int .i64 s] 3)) 30 zes
    rwa [show (w.alloc (.cells #[.int .i64 s] 3)).heap.size = w.heap.size + 1 by simp] at this)
  have FC := Lib.hid (find_calls ((w.alloc (.cells #[.int .i64 s] 3)).alloc (.cells zes 30)) A L.length c L R0.out.src hlen w.heap.size s P0.out)
  generalize findV L s = f at *
  obtain ⟨x, hx⟩ : ∃ x, entOr f = x := ⟨_, rfl⟩
  rw [hx] at FC ⊢
  clear hb hr hF hx hlen hc1 hc2
  go_enter Try.func22, Try.ntmps22
  go_wp2_with fail
  refine FC.out.mono ?_
  rintro e w2 ⟨rfl, hk⟩
  have K2 := Lib.hid (K0.out.then hk)
  have B2 := Lib.hid (B0.out.keep hk (fun h => h))
  obtain ⟨r0, f0, r1, f1, r2, f2, r3, f3, r4, f4, r5, f5, r6, f6, q0, q1, q2, q3, q4, q5, q6, p0, p1, p2, p3, p4, p5⟩ := store7 B2.out (.int .i64 x.a) (.int .i64 x.b) (.int .i64 x.c.k) (.int .i64 x.c.s) (.int .i64 x.c.q) (.string x.c.nm) (.int .i64 x.c.n)
  have K3 := Lib.hid (blks7 B2.out (.int .i64 x.a) (.int .i64 x.b) (.int .i64 x.c.k) (.int .i64 x.c.s) (.int .i64 x.c.q) (.string x.c.nm) (.int .i64 x.c.n)).2
  clear hk C1
  go_wp2_with fail
  refine bodyPost_ret (v := .tuple #[x.val, .bool f.isSome]) (by simp [results, Try.results22, go_sem, hu, hu2, p0, p1, p2, p3, p4, p5, q0, q1, q2, q3, q4, q5, q6]) rfl ?_
  exact ⟨rfl, K2.out.trans K3.out (fun i hi => .inr (by omega))⟩
theorem applied_calls (w : World) (b : Nat) (F : Nat → Prop) (a : Int) (L : List Ent) (h : lnP 51 b a L w F) :
    Calls Try.prog 9 #[.pointer (some ⟨b, 0, none⟩)] w (fun e w' => e = .returned (.int .i64 a) ∧ w' = w) := by
  have hu := Try.underlying51
  obtain ⟨v, hb, hr, hF⟩ := h
  have c0 := hb.cell 0
  clear hb hr hF
  go_enter Try.func9, Try.ntmps9
  go_wp2_with fail
  go_ret
  exact ⟨rfl, rfl⟩
/-- The answer of Known. -/
def knV (f : Option Ent) : Value := .tuple #[(entOr f).c.val, .bool f.isSome]
set_option maxHeartbeats 3200000 in
theorem Known_calls (w : World) (b : Nat) (F : Nat → Prop) (a : Int) (L : List Ent) (h : lnP 51 b a L w F) (s : Int) :
    Calls Try.prog 11 #[.pointer (some ⟨b, 0, none⟩), .int .i64 s] w (fun e w' => e = .returned (knV (findV L s)) ∧ Keep Nothing w w') := by
  have hu := Try.underlying51
  have hu2 := Try.underlying30
  have hu3 := Try.underlying28
  have K0 := Lib.hid ((Keep.same Nothing w).alloc (.cells zcs 28))
  have B0 := Lib.hid (Blk.fresh w 28 zcs)
  have FC := Lib.hid (known_calls (w.alloc (.cells zcs 28)) b F a L ((lnP_stable _ _ _ _).keep h K0.out (fun _ _ h => h)) s)
  have VV := Lib.hid (show knV (findV L s) = .tuple #[(entOr (findV L s)).c.val, .bool (findV L s).isSome] from rfl)
  generalize findV L s = f at *
  obtain ⟨x, hx⟩ : ∃ x, entOr f = x := ⟨_, rfl⟩
  rw [hx] at FC VV
  clear hx h
  go_enter Try.func11, Try.ntmps11
  go_wp2_with fail
  refine FC.out.mono ?_
  rintro e w2 ⟨rfl, hk⟩
  have K2 := Lib.hid ((K0.out.then hk).alloc (.cells x.cs 30))
  have B2 := Lib.hid ((B0.out.keep hk (fun h => h)).alloc (.cells x.cs 30))
  obtain ⟨r0, f0, r1, f1, r2, f2, r3, f3, r4, f4, q0, q1, q2, q3, q4, p0, p1, p2, p3⟩ := store5 B2.out (.int .i64 x.c.k) (.int .i64 x.c.s) (.int .i64 x.c.q) (.string x.c.nm) (.int .i64 x.c.n)
  have K3 := Lib.hid (blks5 B2.out (.int .i64 x.c.k) (.int .i64 x.c.s) (.int .i64 x.c.q) (.string x.c.nm) (.int .i64 x.c.n)).2
  clear hk
  go_wp2_with fail
  refine bodyPost_ret (v := .tuple #[x.c.val, .bool f.isSome]) (by simp [results, Try.results11, go_sem, hu, hu2, hu3, p0, p1, p2, p3, q0, q1, q2, q3, q4]) rfl ?_
  exact ⟨by rw [VV.out], K2.out.trans K3.out (fun i hi => .inr (by omega))⟩
/-- A place that was found. -/
def IxOf (L : List Ent) (s : Int) (i : Int) : Prop := (i = -1 ∧ findV L s = none) ∨ ∃ (k : Nat) (x : Ent), i = k ∧ L[k]? = some x ∧ findV L s = some x
def IxPost (L : List Ent) (s : Int) (w : World) (e : Ending) (w' : World) : Prop := ∃ i : Int, e = .returned (.int .i64 i) ∧ IxOf L s i ∧ w' = w
set_option maxHeartbeats 3200000 in
theorem rfind_calls (w : World) (b : Nat) (F : Nat → Prop) (a : Int) (L : List Ent) (h : lnP 47 b a L w F) (s : Int) :
    Calls Try.prog 24 #[.pointer (some ⟨b, 0, none⟩), .int .i64 s] w (IxPost L s w) := by
  have hu := Try.underlying47
  obtain ⟨v, hb, hr, hF⟩ := h
  obtain ⟨A, c, rfl, hc1, hc2⟩ := hr.form
  have hlen := hr.len
  unfold maxLen at hlen
  have HS := Lib.hid hr.src
  have c1 := hb.cell 1
  clear hb hr hF hc1 hc2
  go_enter Try.func24, Try.ntmps24
  go_wp2_with fail
  go_loopw [5] (fun v wr => wr = w ∧ ∃ k : Nat, k ≤ L.length ∧ v = .int .i64 k ∧ ∀ (j : Nat) (y : Ent), j < k → L[j]? = some y → isSlot s y = false) (fun v _ => L.length - (intOf v).toNat)
  case atStart => exact ⟨by trivial, 0, by omega, by simp, fun j y hj => by omega⟩
  case round =>
    obtain ⟨rfl, k, hk, rfl, hne⟩ := hrel
    have NE := Lib.hid hne
    clear hne
    by_cases hlt : k < L.length
    · obtain ⟨ad, x, rfl, hx, he⟩ := ent_at HS.out hlt
      obtain ⟨e0, e1, e2, e3, e4, e5, e6⟩ := he
      have HX := Lib.hid hx
      clear hx e1 e2 e3 e4 e5 e6
      cases hi : isSlot s x with
      | true =>
        have FS := Lib.hid (findV_some HX.out hi NE.out)
        have g : (x.a == s) = true := hi
        clear hi
        go_wp2_with fail
        go_ret
        exact ⟨k, rfl, .inr ⟨k, x, rfl, HX.out, FS.out⟩, rfl⟩
      | false =>
        have HF := Lib.hid hi
        have g : (x.a == s) = false := hi
        clear hi
        go_wp2_with fail
        go_roundw
        case rel => exact ⟨by trivial, k + 1, by omega, by go_num, fun j y hj hy => by
          by_cases h : j < k
          · exact NE.out j y h hy
          · obtain rfl : j = k := by omega
            rw [HX.out] at hy
            injection hy with hy
            subst hy
            exact HF.out⟩
        case measure => simp [intOf]; omega
    · have FS := Lib.hid (findV_none (L := L) (s := s) (fun j x hx => NE.out j x (by have := (List.getElem?_eq_some_iff.1 hx).1; omega) hx))
      have g : decide (k < L.length) = false := decide_eq_false hlt
      go_wp2_with fail
      go_ret
      exact ⟨-1, rfl, .inl ⟨rfl, FS.out⟩, rfl⟩
set_option maxHeartbeats 3200000 in
theorem rKnown_calls (w : World) (b : Nat) (F : Nat → Prop) (a : Int) (L : List Ent) (h : lnP 47 b a L w F) (s : Int) :
    Calls Try.prog 20 #[.pointer (some ⟨b, 0, none⟩), .int .i64 s] w (fun e w' => e = .returned (knV (findV L s)) ∧ Keep Nothing w w') := by
  have hu := Try.underlying47
  have hu2 := Try.underlying30
  have hu3 := Try.underlying28
  have K0 := Lib.hid ((Keep.same Nothing w).alloc (.cells zcs 28))
  have B0 := Lib.hid (Blk.fresh w 28 zcs)
  have FC := Lib.hid (rfind_calls (w.alloc (.cells zcs 28)) b F a L ((lnP_stable _ _ _ _).keep h K0.out (fun _ _ h => h)) s)
  obtain ⟨v, hb, hr, hF⟩ := (lnP_stable _ _ _ _).keep h K0.out (fun _ _ h => h)
  obtain ⟨A, c, rfl, hc1, hc2⟩ := hr.form
  have HS := Lib.hid hr.src
  have c1 := hb.cell 1
  clear hb hr hF hc1 hc2 h
  go_enter Try.func20, Try.ntmps20
  go_wp2_with fail
  refine FC.out.mono ?_
  rintro e w2 ⟨i, rfl, hi, rfl⟩
  rcases hi with ⟨rfl, hn⟩ | ⟨k, x, rfl, hx, hs⟩
  · have VV := Lib.hid (show knV (findV L s) = .tuple #[.agg zcs, .bool false] by rw [hn]; rfl)
    clear hn
    go_wp2_with fail
    refine bodyPost_ret (v := .tuple #[.agg zcs, .bool false]) (by simp [results, Try.results20, go_sem, hu, hu2, hu3]) rfl ?_
    exact ⟨by rw [VV.out], (Keep.same Nothing w).alloc _⟩
  · have VV := Lib.hid (show knV (findV L s) = .tuple #[x.c.val, .bool true] by rw [hs]; rfl)
    have hkl : k < L.length := (List.getElem?_eq_some_iff.1 hx).1
    obtain ⟨ad, y, rfl, hy, he⟩ := ent_at HS.out hkl
    obtain rfl : x = y := by rw [hx] at hy; injection hy
    obtain ⟨e0, e1, e2, e3, e4, e5, e6⟩ := he
    clear hx hs hy
    go_wp2_with fail
    refine bodyPost_ret (v := .tuple #[x.c.val, .bool true]) (by simp [results, Try.results20, go_sem, hu, hu2, hu3]) rfl ?_
    exact ⟨by rw [VV.out], (Keep.same Nothing w).alloc _⟩
end Go.Proofs.Ytcbjmmjjohigmaa.A
