/-
  The reference's scheduler: lock. Printed by gen_wa.py.
-/
import Derived.Test.YtmohpjkbhpgidaaWD
namespace Go.Proofs.Ytmohpjkbhpgidaa.A
open Go.RowKit Go.Proofs.Ytmohpjkbhpgidaa.U
set_option linter.unusedVariables false
set_option linter.unusedSimpArgs false
set_option maxRecDepth 100000
set_option maxHeartbeats 1600000

def RTk.wake (r : RTk) : RTk := { r with T := { r.T with blk := false } }
def wakeR1 (R : List RTk) (u : Int) : List RTk := match R[u.toNat]? with | some r => R.set u.toNat r.wake | none => R
def wakeR : List RTk → List Int → List RTk
  | R, [] => R
  | R, u :: l => wakeR (wakeR1 R u) l
theorem wakeR1_len (R : List RTk) (u : Int) : (wakeR1 R u).length = R.length := by
  unfold wakeR1
  split
  · rw [List.length_set]
  · rfl
theorem wakeR_len : ∀ (l : List Int) (R : List RTk), (wakeR R l).length = R.length
  | [], R => rfl
  | u :: l, R => by
    show (wakeR (wakeR1 R u) l).length = _
    rw [wakeR_len l, wakeR1_len]
theorem wakeR_push : ∀ (l : List Int) (R : List RTk) (u : Int), wakeR R (l ++ [u]) = wakeR1 (wakeR R l) u
  | [], R, u => rfl
  | v :: l, R, u => wakeR_push l (wakeR1 R v) u
theorem wakeR1_T (R : List RTk) (u : Int) : (wakeR1 R u).map (·.T) = wakeT1 (R.map (·.T)) u := by
  unfold wakeR1 wakeT1
  rw [List.getElem?_map]
  cases R[u.toNat]? with
  | none => rfl
  | some x => simp [List.map_set, RTk.wake]
theorem wakeR_T : ∀ (l : List Int) (R : List RTk), (wakeR R l).map (·.T) = wakeT (R.map (·.T)) l
  | [], R => rfl
  | u :: l, R => by
    show (wakeR (wakeR1 R u) l).map (·.T) = wakeT (wakeT1 (R.map (·.T)) u) l
    rw [wakeR_T l, wakeR1_T]
section
variable {B : Nat} {w0 w : World} {Q : SP} {b : Nat} {A : Option Addr} {c : Nat} {R : List RTk} {O : List RO}
theorem wake95 {l : List Int} {Al : Option Addr} {cl : Nat} (h : Holds B w0 w (star (rowP 3 1 (.slice Al l.length cl) l.length (ints l)) (star (refP b A c R O) Q))) (hQ : Stable Q) (hl : l.length ≤ 1000000) (hR : R.length ≤ 1000000) (hu0 : ∀ u ∈ l, 0 ≤ u ∧ u < R.length) :
    Calls Try.prog 95 #[.pointer (some ⟨b, 0, none⟩), .slice Al l.length cl] w (fun e w' => e = .returned (.tuple #[]) ∧ Holds B w0 w' (star (rowP 3 1 (.slice Al l.length cl) l.length (ints l)) (star (refP b A c (wakeR R l) O) Q))) := by
  have hu := Try.underlying155
  have hu2 := Try.underlying157
  have H := Lib.hid h
  have HQ := Lib.hid hQ
  have HU := Lib.hid hu0
  clear h hQ hu0
  go_enter Try.func95, Try.ntmps95
  go_wp2_with fail
  go_loopw [4] (fun iv wr => ∃ k : Nat, k ≤ l.length ∧ iv = .int .i64 k ∧ Holds B w0 wr (star (rowP 3 1 (.slice Al l.length cl) l.length (ints l)) (star (refP b A c (wakeR R (l.take k)) O) Q))) (fun iv _ => l.length - (intOf iv).toNat)
  case atStart => exact ⟨0, by omega, by simp, by rw [List.take_zero]; exact H.out⟩
  case round =>
    obtain ⟨k, hk, rfl, hh⟩ := hrel
    have HH := Lib.hid hh
    by_cases hlt : k < l.length
    · have HLT := Lib.hid hlt
      obtain ⟨al, u, hAl, hu6, hc6⟩ := i_at hh.row.src hlt
      subst hAl
      have hub := HU.out u (List.mem_of_getElem? hu6)
      obtain ⟨m, rfl⟩ : ∃ m : Nat, u = (m : Int) := ⟨u.toNat, by omega⟩
      have h2 : Holds B w0 wr (star (refP b A c (wakeR R (l.take k)) O) (star (rowP 3 1 (.slice (some al) l.length cl) l.length (ints l)) Q)) := hh.perm (by ac_rfl)
      have hRl : (wakeR R (l.take k)).length = R.length := wakeR_len _ _
      have HT := ref_tasks h2 (by rw [hRl]; exact hR)
      obtain ⟨ad, r, hA, hr, hat⟩ := rt_at HT.src (show m < (wakeR R (l.take k)).length by rw [hRl]; omega)
      subst hA
      have S2 : Stable (star (rowP 3 1 (.slice (some al) l.length cl) l.length (ints l)) Q) := (rowP_stable _ _ _ _ _).star HQ.out
      obtain ⟨fz, h3⟩ := ref_set h2 S2 hr (r' := r.wake) (j := 2) (by omega) (by omega) (u := .bool false) rfl rfl
      have WK := Lib.hid (show wakeR R (l.take (k + 1)) = (wakeR R (l.take k)).set m r.wake by
        rw [List.take_add_one, hu6]
        show wakeR R (l.take k ++ [(m : Int)]) = _
        rw [wakeR_push]
        unfold wakeR1
        rw [show ((m : Int)).toNat = m by simp, hr])
      have c0 := HT.c0
      have cb := hat.b
      obtain ⟨R1, hR1⟩ : ∃ R1, wakeR R (l.take k) = R1 := ⟨_, rfl⟩
      rw [hR1] at hRl HT c0 h3 WK
      have hm : m < R1.length := by rw [hRl]; omega
      have hRm : R1.length ≤ 1000000 := by rw [hRl]; exact hR
      have hH : (fun w' => w'.cell? ⟨b, 0, none⟩ = some (.slice (some ad) R1.length c) ∧ w'.cell? (al.add k) = some (.int .i64 (m : Int))) wr := ⟨c0, hc6⟩
      have h4 : Holds B w0 _ (star (rowP 3 1 (.slice (some al) l.length cl) l.length (ints l)) (star (refP b (some ad) c (R1.set m r.wake) O) Q)) := h3.perm (by ac_rfl)
      have HT3 := ref_tasks h3 (by rw [List.length_set]; exact hRm)
      have e3 : (R1.set m r.wake).length = R1.length := List.length_set
      have c3 := HT3.c0
      rw [e3] at c3
      have hS3 : (fun w' => w'.cell? ⟨b, 0, none⟩ = some (.slice (some ad) R1.length c) ∧ w'.cell? (al.add k) = some (.int .i64 (m : Int))) (wr.setCell ⟨(ad.add (m * 4)).block, (ad.add (m * 4)).off + 2, none⟩ (.bool false)) := by
        obtain ⟨al', u', e, hu', hc'⟩ := i_at h4.row.src hlt
        injection e with e
        subst e
        rw [hu6] at hu'
        injection hu' with hu'
        subst hu'
        exact ⟨c3, hc'⟩
      have HS3 := Lib.hid hS3
      have H4 := Lib.hid h4
      have S4 := Lib.hid (show Stable (star (rowP 3 1 (.slice (some al) l.length cl) l.length (ints l)) (star (refP b (some ad) c (R1.set m r.wake) O) Q)) from (rowP_stable _ _ _ _ _).star ((refP_stable _ _ _ _ _).star HQ.out))
      dsimp only at hH
      clear hh hu6 hc6 hub h2 HT hr hat h3 hR1 h4 HT3 e3 c3 hS3 S2 hRl
      go_wp2_with fail
      refine wp_region_noPanic ?_
      refine wp_region_held_drew (S := (fun w' => w'.cell? ⟨b, 0, none⟩ = some (.slice (some ad) R1.length c) ∧ w'.cell? (al.add k) = some (.int .i64 (m : Int)))) (by kernel_rfl) hH (fun hHeld => ?_)
      refine wpAnyH_take (i := 0) (oi := _) (v := ?_) (by simp only [List.getElem?_toArray, List.getElem?_cons_succ, List.getElem?_cons_zero]; rfl) (by kernel_rfl) (by kernel_rfl) (by kernel_rfl) (fun _ _ _ h => h) (Or.inl ⟨by rfl, ?_⟩) (by assumption) ?_
      rotate_left
      · (intro w hSw; (try dsimp only at hSw); go_simp; (try with_reducible rfl))
      (try simp only [Act.put, List.setIfInBounds_toArray, List.set_cons_zero, List.set_cons_succ])
      refine wpAnyH_take (i := 1) (oi := _) (v := ?_) (by simp only [List.getElem?_toArray, List.getElem?_cons_succ, List.getElem?_cons_zero]; rfl) (by kernel_rfl) (by kernel_rfl) (by kernel_rfl) (fun _ _ _ h => h) (Or.inl ⟨by rfl, ?_⟩) (by assumption) ?_
      rotate_left
      · (intro w hSw; (try dsimp only at hSw); go_simp; (try with_reducible rfl))
      (try simp only [Act.put, List.setIfInBounds_toArray, List.set_cons_zero, List.set_cons_succ])
      refine wpAnyH_take (i := 2) (oi := _) (v := ?_) (by simp only [List.getElem?_toArray, List.getElem?_cons_succ, List.getElem?_cons_zero]; rfl) (by kernel_rfl) (by kernel_rfl) (by kernel_rfl) (fun _ _ _ h => h) (Or.inl ⟨by rfl, ?_⟩) (by assumption) ?_
      rotate_left
      · (intro w hSw; (try dsimp only at hSw); go_simp; (try with_reducible rfl))
      (try simp only [Act.put, List.setIfInBounds_toArray, List.set_cons_zero, List.set_cons_succ])
      refine wpAnyH_take (i := 3) (oi := _) (v := ?_) (by simp only [List.getElem?_toArray, List.getElem?_cons_succ, List.getElem?_cons_zero]; rfl) (by kernel_rfl) (by kernel_rfl) (by kernel_rfl) (fun _ _ _ h => h) (Or.inl ⟨by rfl, ?_⟩) (by assumption) ?_
      rotate_left
      · (intro w hSw; (try dsimp only at hSw); go_simp; (try with_reducible rfl))
      (try simp only [Act.put, List.setIfInBounds_toArray, List.set_cons_zero, List.set_cons_succ])
      refine wpAnyH_take (i := 4) (oi := _) (v := ?_) (by simp only [List.getElem?_toArray, List.getElem?_cons_succ, List.getElem?_cons_zero]; rfl) (by kernel_rfl) (by kernel_rfl) (by kernel_rfl) (fun _ _ _ h => h) (Or.inl ⟨by rfl, ?_⟩) (by assumption) ?_
      rotate_left
      · (intro w hSw; (try dsimp only at hSw); go_simp; (try with_reducible rfl))
      (try simp only [Act.put, List.setIfInBounds_toArray, List.set_cons_zero, List.set_cons_succ])
      refine wpAnyH_take (i := 5) (oi := _) (v := ?_) (by simp only [List.getElem?_toArray, List.getElem?_cons_succ, List.getElem?_cons_zero]; rfl) (by kernel_rfl) (by kernel_rfl) (by kernel_rfl) (fun _ _ _ h => h) (Or.inl ⟨by rfl, ?_⟩) (by assumption) ?_
      rotate_left
      · (intro w hSw; (try dsimp only at hSw); go_simp; (try with_reducible rfl))
      (try simp only [Act.put, List.setIfInBounds_toArray, List.set_cons_zero, List.set_cons_succ])
      refine wpAnyH_take (i := 6) (oi := _) (v := ?_) (by simp only [List.getElem?_toArray, List.getElem?_cons_succ, List.getElem?_cons_zero]; rfl) (by kernel_rfl) (by kernel_rfl) (by kernel_rfl) (fun _ _ _ h => h) (Or.inl ⟨by rfl, ?_⟩) (by assumption) ?_
      rotate_left
      · (intro w hSw; (try dsimp only at hSw); go_simp; (try with_reducible rfl))
      (try simp only [Act.put, List.setIfInBounds_toArray, List.set_cons_zero, List.set_cons_succ])
      refine wpAnyH_take (i := 7) (oi := _) (v := ?_) (by simp only [List.getElem?_toArray, List.getElem?_cons_succ, List.getElem?_cons_zero]; rfl) (by kernel_rfl) (by kernel_rfl) (by kernel_rfl) (fun _ _ _ h => h) (Or.inl ⟨by rfl, ?_⟩) (by assumption) ?_
      rotate_left
      · (intro w hSw; (try dsimp only at hSw); go_simp; (try with_reducible rfl))
      (try simp only [Act.put, List.setIfInBounds_toArray, List.set_cons_zero, List.set_cons_succ])
      refine wpAnyH_take (i := 8) (oi := _) (v := ?_) (by simp only [List.getElem?_toArray, List.getElem?_cons_succ, List.getElem?_cons_zero]; rfl) (by kernel_rfl) (by kernel_rfl) (by kernel_rfl) (fun _ _ _ h => h) (Or.inl ⟨by rfl, ?_⟩) (by assumption) ?_
      rotate_left
      · (intro w hSw; (try dsimp only at hSw); go_simp; (try with_reducible rfl))
      (try simp only [Act.put, List.setIfInBounds_toArray, List.set_cons_zero, List.set_cons_succ])
      refine wpAnyH_take (i := 9) (oi := _) (v := ?_) (by simp only [List.getElem?_toArray, List.getElem?_cons_succ, List.getElem?_cons_zero]; rfl) (by kernel_rfl) (by kernel_rfl) (by kernel_rfl) (fun _ _ _ h => h) (Or.inl ⟨by rfl, ?_⟩) (by assumption) ?_
      rotate_left
      · (intro w hSw; (try dsimp only at hSw); go_simp; (try with_reducible rfl))
      (try simp only [Act.put, List.setIfInBounds_toArray, List.set_cons_zero, List.set_cons_succ])
      refine wpAnyH_ready (rs := [10]) (by kernel_rfl) (by simp) ?_
      refine AllReadyH.cons (o := _) (by simp only [List.getElem?_toArray, List.getElem?_cons_succ, List.getElem?_cons_zero]; rfl) (fun K hK => ?_) AllReadyH.nil
      go_simp
      refine hK.out _ _ (HS3.out) (fun hHeld => ?_)
      clear hK K
      (try simp only [Act.put, List.setIfInBounds_toArray, List.set_cons_zero, List.set_cons_succ])
      refine wpAnyH_done (by kernel_rfl) ?_ _
      refine NoPanic.normal ?_
      clear hH
      go_wp2_with fail
      go_roundw
      case rel => exact ⟨k + 1, HLT.out, by go_num, by rw [WK.out]; exact H4.out.kept S4.out (by repeat (first | with_reducible (exact Keep.same _ _) | with_reducible (apply Keep.drew) | with_reducible (apply Keep.alloc)))⟩
      case measure => have := HLT.out; simp [intOf]; omega
    · obtain rfl : k = l.length := by omega
      have HE := Lib.hid (show Holds B w0 wr (star (rowP 3 1 (.slice Al l.length cl) l.length (ints l)) (star (refP b A c (wakeR R l) O) Q)) by rw [List.take_length] at hh; exact hh)
      clear hh
      go_wp2_with fail
      go_end0
      exact ⟨rfl, HE.out⟩
end
end Go.Proofs.Ytmohpjkbhpgidaa.A
namespace Go.Proofs.Ytmohpjkbhpgidaa.A
open Go.RowKit Go.Proofs.Ytmohpjkbhpgidaa.U
set_option linter.unusedVariables false
set_option linter.unusedSimpArgs false
set_option maxRecDepth 100000
set_option maxHeartbeats 1600000

def mg : OS → Prop
  | .m h who L => MGood h who L
  | _ => True
theorem mg_fresh (k : Int) : mg (freshR k) := by
  unfold freshR
  split
  · exact ⟨fun h => (by cases h), fun _ => rfl, fun t ht => by simp [tasks] at ht⟩
  · split
    · trivial
    · split <;> trivial
theorem freshR_ok (k : Int) (m n : Nat) : (freshR k).ok m n := by
  unfold freshR
  split
  · exact ⟨Nat.zero_le _, fun y hy => by cases hy⟩
  · split
    · exact ⟨Nat.zero_le _, gd_nil, fun y hy => by cases hy⟩
    · split
      · exact ⟨by omega, by omega, Nat.zero_le _, fun y hy => by cases hy⟩
      · exact ⟨Nat.zero_le _, fun y hy => by cases hy⟩
def zT : Tk := ⟨[], 0, false, []⟩
theorem fld2 (a b c d e f : Value) (w : World) : (Instr.field 160 (.agg #[a, b, c, d, e, f]) 2).run Try.prog w = .ok c w := by kernel_rfl
theorem fld3 (a b c d e f : Value) (w : World) : (Instr.field 160 (.agg #[a, b, c, d, e, f]) 3).run Try.prog w = .ok d w := by kernel_rfl
theorem fld4 (a b c d e f : Value) (w : World) : (Instr.field 160 (.agg #[a, b, c, d, e, f]) 4).run Try.prog w = .ok e w := by kernel_rfl
theorem fld5 (a b c d e f : Value) (w : World) : (Instr.field 160 (.agg #[a, b, c, d, e, f]) 5).run Try.prog w = .ok f w := by kernel_rfl
section
variable {B : Nat} {w0 w : World} {Q : SP} {b : Nat} {A : Option Addr} {c : Nat} {R : List RTk} {O : List RO}
/-- An object taken out of the reference, and put back otherwise. -/
theorem ref_ob {j : Nat} {o : RO} (h : Holds B w0 w (star (refP b A c R O) Q)) (ho : O[j]? = some o) : ∃ Z, Stable Z ∧ Holds B w0 w (star (OS.RP o.g o.st) (star Z Q)) ∧
    ∀ (w' : World) (st' : OS) (Q' : SP), kindR st' = kindR o.st → Holds B w0 w' (star (OS.RP o.g st') (star Z Q')) → Holds B w0 w' (star (refP b A c R (O.set j { o with st := st' })) Q') := by
  obtain ⟨A', c', h1⟩ := ref_open h
  obtain ⟨Z, hZ, e1, e2⟩ := robP_take O j o ho
  rw [e1] at h1
  refine ⟨star (rBlk b R O A c A' c') (star (rRow R A c) (star (oRow O A' c') (star (rinP R) Z))), (blkP_stable _ _ _).star ((rowP_stable _ _ _ _ _).star ((rowP_stable _ _ _ _ _).star ((rinP_stable _).star hZ))), h1.perm (by ac_rfl), fun w' st' Q' hk h2 => ?_⟩
  have hcl : ({ o with st := st' } : RO).cl = o.cl := by unfold RO.cl pAt; rw [hk]
  refine ref_close (A' := A') (c' := c') ?_
  unfold rBlk oRow
  rw [List.length_set, roV_set ho hcl, e2]
  exact h2.perm (by dsimp only [rBlk, oRow]; ac_rfl)
/-- What a call on an object makes of the reference. -/
def RDo (B : Nat) (w0 : World) (b : Nat) (A : Option Addr) (c : Nat) (R : List RTk) (O : List RO) (K : Int) (x : Op3) (task : Int) (Q : SP) (e : Ending) (w' : World) : Prop :=
  ∃ (O1 : List RO) (j : Nat) (o : RO), O1[j]? = some o ∧ o.key = (K, x.obj) ∧ (∀ (j' : Nat) (o' : RO), j' < j → O1[j']? = some o' → o'.key ≠ (K, x.obj)) ∧ (O1 = O ∨ (O1 = O ++ [o] ∧ o.st = freshR K ∧ ∀ o ∈ O, o.key ≠ (K, x.obj))) ∧
    e = .returned (.tuple #[.bool (doS o.st x task zT).wait, .int .i64 (doS o.st x task zT).er]) ∧
    Holds B w0 w' (star (refP b A c (wakeR R (doS o.st x task zT).wk) (O1.set j { o with st := (doS o.st x task zT).st })) Q)
theorem rlock_1_0 {x : Op3} (h : Holds B w0 w (star (refP b A c R O) Q)) (hQ : Stable Q) (hO : O.length ≤ 1000000) (hR : R.length ≤ 1000000) {k0 n0 : Nat} (hok : ∀ o ∈ O, o.st.ok k0 n0 ∧ mg o.st) (hk0 : k0 ≤ 500000) (hn0 : n0 = R.length) (hk : x.k = 1) (hn : x.n = 0) (task : Int) :
    Calls Try.prog 97 #[.pointer (some ⟨b, 0, none⟩), .int .i64 task, x.val] w (RDo B w0 b A c R O 0 x task Q) := by
  have D1 : (x.k == 1) = true := by simp [hk]
  have D2 : (x.k == 2) = false := by simp [hk]
  have D3 : (x.k == 3) = false := by simp [hk]
  have D4 : (x.k == 4) = false := by simp [hk]
  have N0 : (x.n == 0) = true := by simp [hn]
  have N1 : (x.n == 1) = false := by simp [hn]
  have hu2 := Try.underlying97
  have hu3 := Try.underlying160
  have HQ := Lib.hid hQ
  have HOK := Lib.hid hok
  have HK0 := Lib.hid hk0
  have HRL0 := Lib.hid hR
  have HN0 := Lib.hid hn0
  have HXK := Lib.hid hk
  have SQ := Lib.hid (show Stable (star (blkP w.heap.size 97 x.cs) Q) from (blkP_stable _ _ _).star hQ)
  have h1 := h.newBlk ((refP_stable b A c R O).star hQ) 97 x.cs
  have X1 := blk_at' h1
  have x0 := X1.cell 0
  have x1 := X1.cell 1
  have x2 := X1.cell 2
  have h2 : Holds B w0 (w.alloc (.cells x.cs 97)) (star (refP b A c R O) (star (blkP w.heap.size 97 x.cs) Q)) := h1.perm (by ac_rfl)
  have H2 := Lib.hid h2
  have OBJ := Lib.hid (fun (X' : World) (hX : Keep Nothing (w.alloc (.cells x.cs 97)) X') => object94_0 (h2.kept ((refP_stable _ _ _ _ _).star SQ.out) hX) SQ.out hO x.obj)
  have hf2 := fun a b c d e f w => fld2 a b c d e f w
  have hf3 := fun a b c d e f w => fld3 a b c d e f w
  clear h hQ hok hO hk hn h1 h2 X1 hk0 hR hn0
  unfold Op3.val Op3.cs
  go_enter Try.func97, Try.ntmps97
  go_wp2_with fail
  refine (OBJ.out _ kn).mono ?_
  rintro e w1 ⟨O1, j, o, rfl, ho, hkey, hfst, hrel, h2⟩
  have hok2 : o.st.ok k0 n0 ∧ mg o.st := by
    rcases hrel with rfl | ⟨_, h3, _⟩
    · exact HOK.out o (List.mem_of_getElem? ho)
    · rw [h3]; exact ⟨freshR_ok _ _ _, mg_fresh _⟩
  have hkr : kindR o.st = 0 := (Prod.mk.inj hkey).1
  have hcl : o.cl.toArray = #[.int .i64 0, .int .i64 o.num, .pointer (some ⟨o.g, 0, none⟩), .pointer none, .pointer none, .pointer none] := by unfold RO.cl pAt; rw [hkr]; rfl
  obtain ⟨Z, hZ, h3, back⟩ := ref_ob h2 ho
  have HOO := Lib.hid ho
  have HKEY := Lib.hid hkey
  have HFS := Lib.hid hfst
  have HRL := Lib.hid hrel
  have BK := Lib.hid back
  have OPX := (trivial : True)
  rw [hcl]
  obtain ⟨st, hst⟩ : ∃ st, o.st = st := ⟨_, rfl⟩
  have HST := Lib.hid hst
  rw [hst] at hok2 h3 hkr
  clear ho hkey hfst hrel back h2 hcl hst
  cases st with
  | r W wr L => exact absurd hkr (by simp [kindR])
  | g cn L => exact absurd hkr (by simp [kindR])
  | o W ov L => exact absurd hkr (by simp [kindR])
  | m h0 who L =>
    have hm : MGood h0 who L := hok2.2
    have hb := lock_both hm task
    have h3' : Holds B w0 w1 (star (smP o.g (whoOf h0 who) (tasks L)) (star Z (star (blkP w.heap.size 97 x.cs) Q))) := h3
    have HC := Lib.hid (x_smlock h3' (hZ.star SQ.out) (by unfold tasks; rw [List.length_map]; have := hok2.1.1; have := HK0.out; omega) task)
    rw [hb.1] at HC
    have ED := Lib.hid (show doS (.m h0 who L) x task zT = ⟨!(mLock h0 who L task).1, [], (mLock h0 who L task).2.1, .m (mLock h0 who L task).2.2.1 (mLock h0 who L task).2.2.2.1 (mLock h0 who L task).2.2.2.2, zT⟩ by unfold doS; dsimp only; rw [if_pos HXK.out])
    generalize mLock h0 who L task = r at *
    obtain ⟨r1, r2, r3, r4, r5⟩ := r
    dsimp only at HC ED
    clear hm hb h3 h3' hok2 hkr hZ
    go_wp2_with fail
    refine HC.out.mono ?_
    rintro e w2 ⟨rfl, h4⟩
    have H5 := Lib.hid (BK.out w2 (.m r3 r4 r5) (star (blkP w.heap.size 97 x.cs) Q) (by rw [HST.out]; rfl) h4)
    clear h4
    go_wp2_with fail
    go_ret2
    refine ⟨O1, j, o, HOO.out, HKEY.out, HFS.out, HRL.out, by rw [HST.out, ED.out]; rfl, ?_⟩
    rw [HST.out, ED.out]
    show Holds B w0 _ (star (refP b A c R (O1.set j { o with st := .m r3 r4 r5 })) Q)
    have h6 : Holds B w0 w2 (star (blkP w.heap.size 97 x.cs) (star (refP b A c R (O1.set j { o with st := .m r3 r4 r5 })) Q)) := H5.out.perm (by ac_rfl)
    exact h6.drop
theorem rlock_2_0 {x : Op3} (h : Holds B w0 w (star (refP b A c R O) Q)) (hQ : Stable Q) (hO : O.length ≤ 1000000) (hR : R.length ≤ 1000000) {k0 n0 : Nat} (hok : ∀ o ∈ O, o.st.ok k0 n0 ∧ mg o.st) (hk0 : k0 ≤ 500000) (hn0 : n0 = R.length) (hk : x.k = 2) (hn : x.n = 0) (task : Int) :
    Calls Try.prog 97 #[.pointer (some ⟨b, 0, none⟩), .int .i64 task, x.val] w (RDo B w0 b A c R O 0 x task Q) := by
  have D1 : (x.k == 1) = false := by simp [hk]
  have D2 : (x.k == 2) = true := by simp [hk]
  have D3 : (x.k == 3) = false := by simp [hk]
  have D4 : (x.k == 4) = false := by simp [hk]
  have N0 : (x.n == 0) = true := by simp [hn]
  have N1 : (x.n == 1) = false := by simp [hn]
  have hu2 := Try.underlying97
  have hu3 := Try.underlying160
  have HQ := Lib.hid hQ
  have HOK := Lib.hid hok
  have HK0 := Lib.hid hk0
  have HRL0 := Lib.hid hR
  have HN0 := Lib.hid hn0
  have HXK := Lib.hid hk
  have SQ := Lib.hid (show Stable (star (blkP w.heap.size 97 x.cs) Q) from (blkP_stable _ _ _).star hQ)
  have h1 := h.newBlk ((refP_stable b A c R O).star hQ) 97 x.cs
  have X1 := blk_at' h1
  have x0 := X1.cell 0
  have x1 := X1.cell 1
  have x2 := X1.cell 2
  have h2 : Holds B w0 (w.alloc (.cells x.cs 97)) (star (refP b A c R O) (star (blkP w.heap.size 97 x.cs) Q)) := h1.perm (by ac_rfl)
  have H2 := Lib.hid h2
  have OBJ := Lib.hid (fun (X' : World) (hX : Keep Nothing (w.alloc (.cells x.cs 97)) X') => object94_0 (h2.kept ((refP_stable _ _ _ _ _).star SQ.out) hX) SQ.out hO x.obj)
  have hf2 := fun a b c d e f w => fld2 a b c d e f w
  have hf3 := fun a b c d e f w => fld3 a b c d e f w
  clear h hQ hok hO hk hn h1 h2 X1 hk0 hR hn0
  unfold Op3.val Op3.cs
  go_enter Try.func97, Try.ntmps97
  go_wp2_with fail
  refine (OBJ.out _ kn).mono ?_
  rintro e w1 ⟨O1, j, o, rfl, ho, hkey, hfst, hrel, h2⟩
  have hok2 : o.st.ok k0 n0 ∧ mg o.st := by
    rcases hrel with rfl | ⟨_, h3, _⟩
    · exact HOK.out o (List.mem_of_getElem? ho)
    · rw [h3]; exact ⟨freshR_ok _ _ _, mg_fresh _⟩
  have hkr : kindR o.st = 0 := (Prod.mk.inj hkey).1
  have hcl : o.cl.toArray = #[.int .i64 0, .int .i64 o.num, .pointer (some ⟨o.g, 0, none⟩), .pointer none, .pointer none, .pointer none] := by unfold RO.cl pAt; rw [hkr]; rfl
  obtain ⟨Z, hZ, h3, back⟩ := ref_ob h2 ho
  have HOO := Lib.hid ho
  have HKEY := Lib.hid hkey
  have HFS := Lib.hid hfst
  have HRL := Lib.hid hrel
  have BK := Lib.hid back
  have OPX := (trivial : True)
  rw [hcl]
  obtain ⟨st, hst⟩ : ∃ st, o.st = st := ⟨_, rfl⟩
  have HST := Lib.hid hst
  rw [hst] at hok2 h3 hkr
  clear ho hkey hfst hrel back h2 hcl hst
  cases st with
  | r W wr L => exact absurd hkr (by simp [kindR])
  | g cn L => exact absurd hkr (by simp [kindR])
  | o W ov L => exact absurd hkr (by simp [kindR])
  | m h0 who L =>
    have hm : MGood h0 who L := hok2.2
    have hb := unlock_both hm task
    have h3' : Holds B w0 w1 (star (smP o.g (whoOf h0 who) (tasks L)) (star Z (star (blkP w.heap.size 97 x.cs) Q))) := h3
    have HC := Lib.hid (x_smunlock h3' (hZ.star SQ.out) (by unfold tasks; rw [List.length_map]; have := hok2.1.1; have := HK0.out; omega) task)
    rw [hb.1] at HC
    have ED := Lib.hid (show doS (.m h0 who L) x task zT = ⟨false, wakeL (mUnlock h0 who L task).1 (mUnlock h0 who L task).2.1, (mUnlock h0 who L task).2.1, .m (mUnlock h0 who L task).2.2.1 (mUnlock h0 who L task).2.2.2.1 (mUnlock h0 who L task).2.2.2.2, zT⟩ by unfold doS; dsimp only; rw [if_neg (by have := HXK.out; omega)])
    have WK := Lib.hid (mUnlock_ok (id := task) hok2.1).2
    generalize mUnlock h0 who L task = r at *
    obtain ⟨r1, r2, r3, r4, r5⟩ := r
    dsimp only at HC ED WK
    clear hm hb h3 h3' hok2 hkr hZ
    go_wp2_with fail
    refine HC.out.mono ?_
    rintro e w2 ⟨rfl, h4⟩
    have H5 := Lib.hid (BK.out w2 (.m r3 r4 r5) (star (blkP w.heap.size 97 x.cs) Q) (by rw [HST.out]; rfl) h4)
    have S5 := Lib.hid (show Stable (star (refP b A c R (O1.set j { o with st := .m r3 r4 r5 })) (star (blkP w.heap.size 97 x.cs) Q)) from (refP_stable _ _ _ _ _).star SQ.out)
    clear h4
    rcases (show (r2 = 0 ∧ 0 ≤ r1) ∨ (r2 = 0 ∧ ¬ 0 ≤ r1) ∨ r2 ≠ 0 by omega) with ⟨q1, q2⟩ | ⟨q1, q2⟩ | q1
    · have hw : wakeL r1 r2 = [r1] := by unfold wakeL; rw [if_pos ⟨q1, q2⟩]
      rw [hw] at ED WK
      have d1 : (r2 == 0) = true := by simp [q1]
      have d2 : decide (0 ≤ r1) = true := decide_eq_true q2
      have hL1 := H5.out.newRow S5.out (Row.fresh w2 3 1 1 #[.int .i64 r1] rfl (by decide)) ((Keep.same _ _).alloc _) (fun k hk => by simp [Value.ownBlock] at hk; omega)
      have WA := Lib.hid (wake95 (l := [r1]) (show Holds B w0 (w2.alloc (.cells #[.int .i64 r1] 3)) (star (rowP 3 1 (.slice (some ⟨w2.heap.size, 0, none⟩) [r1].length 1) [r1].length (ints [r1])) (star (refP b A c R (O1.set j { o with st := .m r3 r4 r5 })) (star (blkP w.heap.size 97 x.cs) Q))) from hL1) SQ.out (by simp) HRL0.out (fun u hu => by have := WK.out u hu; rw [HN0.out] at this; exact this))
      clear q1 q2 hw hL1
      go_wp2_with fail
      refine WA.out.mono ?_
      rintro e w3 ⟨rfl, h6⟩
      have H6 := Lib.hid h6
      clear h6
      go_wp2_with fail
      go_ret2
      refine ⟨O1, j, o, HOO.out, HKEY.out, HFS.out, HRL.out, by rw [HST.out, ED.out]; rfl, ?_⟩
      rw [HST.out, ED.out]
      have h7 := H6.out.drop
      have h8 : Holds B w0 w3 (star (blkP w.heap.size 97 x.cs) (star (refP b A c (wakeR R [r1]) (O1.set j { o with st := .m r3 r4 r5 })) Q)) := h7.perm (by ac_rfl)
      exact h8.drop
    · have hw : wakeL r1 r2 = [] := by unfold wakeL; rw [if_neg (fun h => q2 h.2)]
      rw [hw] at ED WK
      have d1 : (r2 == 0) = true := by simp [q1]
      have d2 : decide (0 ≤ r1) = false := decide_eq_false q2
      clear q1 q2 hw
      go_wp2_with fail
      go_ret2
      refine ⟨O1, j, o, HOO.out, HKEY.out, HFS.out, HRL.out, by rw [HST.out, ED.out]; rfl, ?_⟩
      rw [HST.out, ED.out]
      have h8 : Holds B w0 w2 (star (blkP w.heap.size 97 x.cs) (star (refP b A c R (O1.set j { o with st := .m r3 r4 r5 })) Q)) := H5.out.perm (by ac_rfl)
      exact h8.drop
    · have hw : wakeL r1 r2 = [] := by unfold wakeL; rw [if_neg (fun h => q1 h.1)]
      rw [hw] at ED WK
      have d1 : (r2 == 0) = false := by simp [q1]
      clear q1 hw
      go_wp2_with fail
      go_ret2
      refine ⟨O1, j, o, HOO.out, HKEY.out, HFS.out, HRL.out, by rw [HST.out, ED.out]; rfl, ?_⟩
      rw [HST.out, ED.out]
      have h8 : Holds B w0 w2 (star (blkP w.heap.size 97 x.cs) (star (refP b A c R (O1.set j { o with st := .m r3 r4 r5 })) Q)) := H5.out.perm (by ac_rfl)
      exact h8.drop
theorem rlock_1_1 {x : Op3} (h : Holds B w0 w (star (refP b A c R O) Q)) (hQ : Stable Q) (hO : O.length ≤ 1000000) (hR : R.length ≤ 1000000) {k0 n0 : Nat} (hok : ∀ o ∈ O, o.st.ok k0 n0 ∧ mg o.st) (hk0 : k0 ≤ 500000) (hn0 : n0 = R.length) (hk : x.k = 1) (hn : x.n = 1) (task : Int) :
    Calls Try.prog 97 #[.pointer (some ⟨b, 0, none⟩), .int .i64 task, x.val] w (RDo B w0 b A c R O 1 x task Q) := by
  have D1 : (x.k == 1) = true := by simp [hk]
  have D2 : (x.k == 2) = false := by simp [hk]
  have D3 : (x.k == 3) = false := by simp [hk]
  have D4 : (x.k == 4) = false := by simp [hk]
  have N0 : (x.n == 0) = false := by simp [hn]
  have N1 : (x.n == 1) = true := by simp [hn]
  have hu2 := Try.underlying97
  have hu3 := Try.underlying160
  have HQ := Lib.hid hQ
  have HOK := Lib.hid hok
  have HK0 := Lib.hid hk0
  have HRL0 := Lib.hid hR
  have HN0 := Lib.hid hn0
  have HXK := Lib.hid hk
  have SQ := Lib.hid (show Stable (star (blkP w.heap.size 97 x.cs) Q) from (blkP_stable _ _ _).star hQ)
  have h1 := h.newBlk ((refP_stable b A c R O).star hQ) 97 x.cs
  have X1 := blk_at' h1
  have x0 := X1.cell 0
  have x1 := X1.cell 1
  have x2 := X1.cell 2
  have h2 : Holds B w0 (w.alloc (.cells x.cs 97)) (star (refP b A c R O) (star (blkP w.heap.size 97 x.cs) Q)) := h1.perm (by ac_rfl)
  have H2 := Lib.hid h2
  have OBJ := Lib.hid (fun (X' : World) (hX : Keep Nothing (w.alloc (.cells x.cs 97)) X') => object94_1 (h2.kept ((refP_stable _ _ _ _ _).star SQ.out) hX) SQ.out hO x.obj)
  have hf2 := fun a b c d e f w => fld2 a b c d e f w
  have hf3 := fun a b c d e f w => fld3 a b c d e f w
  have hH : (fun w' => w'.cell? ⟨w.heap.size, 0, none⟩ = some (.int .i64 x.k) ∧ w'.cell? ⟨w.heap.size, 1, none⟩ = some (.int .i64 x.obj)) (w.alloc (.cells x.cs 97)) := ⟨x0, x1⟩
  dsimp only at hH
  clear h hQ hok hO hk hn h1 h2 X1 hk0 hR hn0
  unfold Op3.val Op3.cs
  go_enter Try.func97, Try.ntmps97
  go_wp2_with fail
  refine wp_region_noPanic ?_
  refine wp_region_held_drew (S := (fun w' => w'.cell? ⟨w.heap.size, 0, none⟩ = some (.int .i64 x.k) ∧ w'.cell? ⟨w.heap.size, 1, none⟩ = some (.int .i64 x.obj))) (by kernel_rfl) hH (fun hHeld => ?_)
  refine tk 0 ?_
  (try simp only [pn])
  refine tk 1 ?_
  (try simp only [pn])
  refine tk 2 ?_
  (try simp only [pn])
  refine tk 5 ?_
  (try simp only [pn])
  refine tk 6 ?_
  (try simp only [pn])
  refine tk 7 ?_
  (try simp only [pn])
  refine tk 8 ?_
  (try simp only [pn])
  refine rd 3 (fun K hK => ?_)
  go_simp
  refine (OBJ.out _ kn).mono ?_
  rintro e w1 ⟨O1, j, o, rfl, ho, hkey, hfst, hrel, h2⟩
  have hok2 : o.st.ok k0 n0 ∧ mg o.st := by
    rcases hrel with rfl | ⟨_, h3, _⟩
    · exact HOK.out o (List.mem_of_getElem? ho)
    · rw [h3]; exact ⟨freshR_ok _ _ _, mg_fresh _⟩
  have hkr : kindR o.st = 1 := (Prod.mk.inj hkey).1
  have hcl : o.cl.toArray = #[.int .i64 1, .int .i64 o.num, .pointer none, .pointer (some ⟨o.g, 0, none⟩), .pointer none, .pointer none] := by unfold RO.cl pAt; rw [hkr]; rfl
  obtain ⟨Z, hZ, h3, back⟩ := ref_ob h2 ho
  have HOO := Lib.hid ho
  have HKEY := Lib.hid hkey
  have HFS := Lib.hid hfst
  have HRL := Lib.hid hrel
  have BK := Lib.hid back
  have OPX := blk_at' (show Holds B w0 w1 (star (blkP w.heap.size 97 x.cs) (star (refP b A c R O1) Q)) from h2.perm (by ac_rfl))
  rw [hcl]
  obtain ⟨st, hst⟩ : ∃ st, o.st = st := ⟨_, rfl⟩
  have HST := Lib.hid hst
  rw [hst] at hok2 h3 hkr
  clear ho hkey hfst hrel back h2 hcl hst
  cases st with
  | m h0 who L => exact absurd hkr (by simp [kindR])
  | g cn L => exact absurd hkr (by simp [kindR])
  | o W ov L => exact absurd hkr (by simp [kindR])
  | r W wr L =>
    have h3' : Holds B w0 w1 (star (rrP o.g W wr L) (star Z (star (blkP w.heap.size 97 x.cs) Q))) := h3
    have HC := Lib.hid (x_rlock h3' (hZ.star SQ.out) (by have := hok2.1.1; have := HK0.out; omega) (by have := hok2.1.1; have := HK0.out; omega) task false)
    have ED := Lib.hid (show doS (.r W wr L) x task zT = ⟨!(rwLock W wr L task false).1, [], (rwLock W wr L task false).2.1, .r (rwLock W wr L task false).2.2.1 (rwLock W wr L task false).2.2.2.1 (rwLock W wr L task false).2.2.2.2, zT⟩ by unfold doS; dsimp only; rw [if_pos (by have := HXK.out; omega), show (x.k == 3) = false by simp [HXK.out]])
    generalize rwLock W wr L task false = r at *
    obtain ⟨r1, r2, r3, r4, r5⟩ := r
    dsimp only at HC ED
    have HS1 := Lib.hid (show (fun w' => w'.cell? ⟨w.heap.size, 0, none⟩ = some (.int .i64 x.k) ∧ w'.cell? ⟨w.heap.size, 1, none⟩ = some (.int .i64 x.obj)) w1 from ⟨OPX.cell 0, OPX.cell 1⟩)
    clear h3 h3' hok2 hkr OPX
    refine hK.out _ _ HS1.out (fun hHeld => ?_)
    clear hK K
    (try simp only [pn])
    refine tk 4 ?_
    (try simp only [pn])
    refine rd 9 (fun K hK => ?_)
    go_simp
    refine HC.out.mono ?_
    rintro e w2 ⟨rfl, h4⟩
    have h5 := BK.out w2 (.r r3 r4 r5) (star (blkP w.heap.size 97 x.cs) Q) (by rw [HST.out]; rfl) h4
    have H5 := Lib.hid h5
    have X5 := blk_at' (show Holds B w0 w2 (star (blkP w.heap.size 97 x.cs) (star (refP b A c R (O1.set j { o with st := .r r3 r4 r5 })) Q)) from h5.perm (by ac_rfl))
    have HS2 := Lib.hid (show (fun w' => w'.cell? ⟨w.heap.size, 0, none⟩ = some (.int .i64 x.k) ∧ w'.cell? ⟨w.heap.size, 1, none⟩ = some (.int .i64 x.obj)) w2 from ⟨X5.cell 0, X5.cell 1⟩)
    clear h4 h5 X5 hZ
    refine hK.out _ _ HS2.out (fun hHeld => ?_)
    clear hK K
    (try simp only [pn])
    refine tk 10 ?_
    (try simp only [pn])
    refine tk 11 ?_
    (try simp only [pn])
    refine tk 12 ?_
    (try simp only [pn])
    refine tk 13 ?_
    (try simp only [pn])
    refine tk 14 ?_
    (try simp only [pn])
    refine wpAnyH_done (by kernel_rfl) ?_ _
    refine NoPanic.normal ?_
    clear hH
    go_wp2_with fail
    go_ret2
    refine ⟨O1, j, o, HOO.out, HKEY.out, HFS.out, HRL.out, by rw [HST.out, ED.out]; rfl, ?_⟩
    rw [HST.out, ED.out]
    show Holds B w0 _ (star (refP b A c R (O1.set j { o with st := .r r3 r4 r5 })) Q)
    have h6 : Holds B w0 w2 (star (blkP w.heap.size 97 x.cs) (star (refP b A c R (O1.set j { o with st := .r r3 r4 r5 })) Q)) := H5.out.perm (by ac_rfl)
    exact h6.drop
theorem rlock_3 {x : Op3} (h : Holds B w0 w (star (refP b A c R O) Q)) (hQ : Stable Q) (hO : O.length ≤ 1000000) (hR : R.length ≤ 1000000) {k0 n0 : Nat} (hok : ∀ o ∈ O, o.st.ok k0 n0 ∧ mg o.st) (hk0 : k0 ≤ 500000) (hn0 : n0 = R.length) (hk : x.k = 3) (task : Int) :
    Calls Try.prog 97 #[.pointer (some ⟨b, 0, none⟩), .int .i64 task, x.val] w (RDo B w0 b A c R O 1 x task Q) := by
  have D1 : (x.k == 1) = false := by simp [hk]
  have D2 : (x.k == 2) = false := by simp [hk]
  have D3 : (x.k == 3) = true := by simp [hk]
  have D4 : (x.k == 4) = false := by simp [hk]
  have hu2 := Try.underlying97
  have hu3 := Try.underlying160
  have HQ := Lib.hid hQ
  have HOK := Lib.hid hok
  have HK0 := Lib.hid hk0
  have HRL0 := Lib.hid hR
  have HN0 := Lib.hid hn0
  have HXK := Lib.hid hk
  have SQ := Lib.hid (show Stable (star (blkP w.heap.size 97 x.cs) Q) from (blkP_stable _ _ _).star hQ)
  have h1 := h.newBlk ((refP_stable b A c R O).star hQ) 97 x.cs
  have X1 := blk_at' h1
  have x0 := X1.cell 0
  have x1 := X1.cell 1
  have x2 := X1.cell 2
  have h2 : Holds B w0 (w.alloc (.cells x.cs 97)) (star (refP b A c R O) (star (blkP w.heap.size 97 x.cs) Q)) := h1.perm (by ac_rfl)
  have H2 := Lib.hid h2
  have OBJ := Lib.hid (fun (X' : World) (hX : Keep Nothing (w.alloc (.cells x.cs 97)) X') => object94_1 (h2.kept ((refP_stable _ _ _ _ _).star SQ.out) hX) SQ.out hO x.obj)
  have hf2 := fun a b c d e f w => fld2 a b c d e f w
  have hf3 := fun a b c d e f w => fld3 a b c d e f w
  have hH : (fun w' => w'.cell? ⟨w.heap.size, 0, none⟩ = some (.int .i64 x.k) ∧ w'.cell? ⟨w.heap.size, 1, none⟩ = some (.int .i64 x.obj)) (w.alloc (.cells x.cs 97)) := ⟨x0, x1⟩
  dsimp only at hH
  clear h hQ hok hO hk h1 h2 X1 hk0 hR hn0
  unfold Op3.val Op3.cs
  go_enter Try.func97, Try.ntmps97
  go_wp2_with fail
  refine wp_region_noPanic ?_
  refine wp_region_held_drew (S := (fun w' => w'.cell? ⟨w.heap.size, 0, none⟩ = some (.int .i64 x.k) ∧ w'.cell? ⟨w.heap.size, 1, none⟩ = some (.int .i64 x.obj))) (by kernel_rfl) hH (fun hHeld => ?_)
  refine tk 0 ?_
  (try simp only [pn])
  refine tk 1 ?_
  (try simp only [pn])
  refine tk 2 ?_
  (try simp only [pn])
  refine tk 5 ?_
  (try simp only [pn])
  refine tk 6 ?_
  (try simp only [pn])
  refine tk 7 ?_
  (try simp only [pn])
  refine tk 8 ?_
  (try simp only [pn])
  refine rd 3 (fun K hK => ?_)
  go_simp
  refine (OBJ.out _ kn).mono ?_
  rintro e w1 ⟨O1, j, o, rfl, ho, hkey, hfst, hrel, h2⟩
  have hok2 : o.st.ok k0 n0 ∧ mg o.st := by
    rcases hrel with rfl | ⟨_, h3, _⟩
    · exact HOK.out o (List.mem_of_getElem? ho)
    · rw [h3]; exact ⟨freshR_ok _ _ _, mg_fresh _⟩
  have hkr : kindR o.st = 1 := (Prod.mk.inj hkey).1
  have hcl : o.cl.toArray = #[.int .i64 1, .int .i64 o.num, .pointer none, .pointer (some ⟨o.g, 0, none⟩), .pointer none, .pointer none] := by unfold RO.cl pAt; rw [hkr]; rfl
  obtain ⟨Z, hZ, h3, back⟩ := ref_ob h2 ho
  have HOO := Lib.hid ho
  have HKEY := Lib.hid hkey
  have HFS := Lib.hid hfst
  have HRL := Lib.hid hrel
  have BK := Lib.hid back
  have OPX := blk_at' (show Holds B w0 w1 (star (blkP w.heap.size 97 x.cs) (star (refP b A c R O1) Q)) from h2.perm (by ac_rfl))
  rw [hcl]
  obtain ⟨st, hst⟩ : ∃ st, o.st = st := ⟨_, rfl⟩
  have HST := Lib.hid hst
  rw [hst] at hok2 h3 hkr
  clear ho hkey hfst hrel back h2 hcl hst
  cases st with
  | m h0 who L => exact absurd hkr (by simp [kindR])
  | g cn L => exact absurd hkr (by simp [kindR])
  | o W ov L => exact absurd hkr (by simp [kindR])
  | r W wr L =>
    have h3' : Holds B w0 w1 (star (rrP o.g W wr L) (star Z (star (blkP w.heap.size 97 x.cs) Q))) := h3
    have HC := Lib.hid (x_rlock h3' (hZ.star SQ.out) (by have := hok2.1.1; have := HK0.out; omega) (by have := hok2.1.1; have := HK0.out; omega) task true)
    have ED := Lib.hid (show doS (.r W wr L) x task zT = ⟨!(rwLock W wr L task true).1, [], (rwLock W wr L task true).2.1, .r (rwLock W wr L task true).2.2.1 (rwLock W wr L task true).2.2.2.1 (rwLock W wr L task true).2.2.2.2, zT⟩ by unfold doS; dsimp only; rw [if_pos (by have := HXK.out; omega), show (x.k == 3) = true by simp [HXK.out]])
    generalize rwLock W wr L task true = r at *
    obtain ⟨r1, r2, r3, r4, r5⟩ := r
    dsimp only at HC ED
    have HS1 := Lib.hid (show (fun w' => w'.cell? ⟨w.heap.size, 0, none⟩ = some (.int .i64 x.k) ∧ w'.cell? ⟨w.heap.size, 1, none⟩ = some (.int .i64 x.obj)) w1 from ⟨OPX.cell 0, OPX.cell 1⟩)
    clear h3 h3' hok2 hkr OPX
    refine hK.out _ _ HS1.out (fun hHeld => ?_)
    clear hK K
    (try simp only [pn])
    refine tk 4 ?_
    (try simp only [pn])
    refine rd 9 (fun K hK => ?_)
    go_simp
    refine HC.out.mono ?_
    rintro e w2 ⟨rfl, h4⟩
    have h5 := BK.out w2 (.r r3 r4 r5) (star (blkP w.heap.size 97 x.cs) Q) (by rw [HST.out]; rfl) h4
    have H5 := Lib.hid h5
    have X5 := blk_at' (show Holds B w0 w2 (star (blkP w.heap.size 97 x.cs) (star (refP b A c R (O1.set j { o with st := .r r3 r4 r5 })) Q)) from h5.perm (by ac_rfl))
    have HS2 := Lib.hid (show (fun w' => w'.cell? ⟨w.heap.size, 0, none⟩ = some (.int .i64 x.k) ∧ w'.cell? ⟨w.heap.size, 1, none⟩ = some (.int .i64 x.obj)) w2 from ⟨X5.cell 0, X5.cell 1⟩)
    clear h4 h5 X5 hZ
    refine hK.out _ _ HS2.out (fun hHeld => ?_)
    clear hK K
    (try simp only [pn])
    refine tk 10 ?_
    (try simp only [pn])
    refine tk 11 ?_
    (try simp only [pn])
    refine tk 12 ?_
    (try simp only [pn])
    refine tk 13 ?_
    (try simp only [pn])
    refine tk 14 ?_
    (try simp only [pn])
    refine wpAnyH_done (by kernel_rfl) ?_ _
    refine NoPanic.normal ?_
    clear hH
    go_wp2_with fail
    go_ret2
    refine ⟨O1, j, o, HOO.out, HKEY.out, HFS.out, HRL.out, by rw [HST.out, ED.out]; rfl, ?_⟩
    rw [HST.out, ED.out]
    show Holds B w0 _ (star (refP b A c R (O1.set j { o with st := .r r3 r4 r5 })) Q)
    have h6 : Holds B w0 w2 (star (blkP w.heap.size 97 x.cs) (star (refP b A c R (O1.set j { o with st := .r r3 r4 r5 })) Q)) := H5.out.perm (by ac_rfl)
    exact h6.drop
theorem rlock_2_1 {x : Op3} (h : Holds B w0 w (star (refP b A c R O) Q)) (hQ : Stable Q) (hO : O.length ≤ 1000000) (hR : R.length ≤ 1000000) {k0 n0 : Nat} (hok : ∀ o ∈ O, o.st.ok k0 n0 ∧ mg o.st) (hk0 : k0 ≤ 500000) (hn0 : n0 = R.length) (hk : x.k = 2) (hn : x.n = 1) (task : Int) :
    Calls Try.prog 97 #[.pointer (some ⟨b, 0, none⟩), .int .i64 task, x.val] w (RDo B w0 b A c R O 1 x task Q) := by
  have D1 : (x.k == 1) = false := by simp [hk]
  have D2 : (x.k == 2) = true := by simp [hk]
  have D3 : (x.k == 3) = false := by simp [hk]
  have D4 : (x.k == 4) = false := by simp [hk]
  have N0 : (x.n == 0) = false := by simp [hn]
  have N1 : (x.n == 1) = true := by simp [hn]
  have hu2 := Try.underlying97
  have hu3 := Try.underlying160
  have HQ := Lib.hid hQ
  have HOK := Lib.hid hok
  have HK0 := Lib.hid hk0
  have HRL0 := Lib.hid hR
  have HN0 := Lib.hid hn0
  have HXK := Lib.hid hk
  have SQ := Lib.hid (show Stable (star (blkP w.heap.size 97 x.cs) Q) from (blkP_stable _ _ _).star hQ)
  have h1 := h.newBlk ((refP_stable b A c R O).star hQ) 97 x.cs
  have X1 := blk_at' h1
  have x0 := X1.cell 0
  have x1 := X1.cell 1
  have x2 := X1.cell 2
  have h2 : Holds B w0 (w.alloc (.cells x.cs 97)) (star (refP b A c R O) (star (blkP w.heap.size 97 x.cs) Q)) := h1.perm (by ac_rfl)
  have H2 := Lib.hid h2
  have OBJ := Lib.hid (fun (X' : World) (hX : Keep Nothing (w.alloc (.cells x.cs 97)) X') => object94_1 (h2.kept ((refP_stable _ _ _ _ _).star SQ.out) hX) SQ.out hO x.obj)
  have hf2 := fun a b c d e f w => fld2 a b c d e f w
  have hf3 := fun a b c d e f w => fld3 a b c d e f w
  have hH : (fun w' => w'.cell? ⟨w.heap.size, 0, none⟩ = some (.int .i64 x.k) ∧ w'.cell? ⟨w.heap.size, 1, none⟩ = some (.int .i64 x.obj)) (w.alloc (.cells x.cs 97)) := ⟨x0, x1⟩
  dsimp only at hH
  clear h hQ hok hO hk hn h1 h2 X1 hk0 hR hn0
  unfold Op3.val Op3.cs
  go_enter Try.func97, Try.ntmps97
  go_wp2_with fail
  refine wp_region_noPanic ?_
  refine wp_region_held_drew (S := (fun w' => w'.cell? ⟨w.heap.size, 0, none⟩ = some (.int .i64 x.k) ∧ w'.cell? ⟨w.heap.size, 1, none⟩ = some (.int .i64 x.obj))) (by kernel_rfl) hH (fun hHeld => ?_)
  refine tk 0 ?_
  (try simp only [pn])
  refine tk 1 ?_
  (try simp only [pn])
  refine tk 2 ?_
  (try simp only [pn])
  refine tk 5 ?_
  (try simp only [pn])
  refine tk 6 ?_
  (try simp only [pn])
  refine tk 7 ?_
  (try simp only [pn])
  refine tk 8 ?_
  (try simp only [pn])
  refine rd 3 (fun K hK => ?_)
  go_simp
  refine (OBJ.out _ kn).mono ?_
  rintro e w1 ⟨O1, j, o, rfl, ho, hkey, hfst, hrel, h2⟩
  have hok2 : o.st.ok k0 n0 ∧ mg o.st := by
    rcases hrel with rfl | ⟨_, h3, _⟩
    · exact HOK.out o (List.mem_of_getElem? ho)
    · rw [h3]; exact ⟨freshR_ok _ _ _, mg_fresh _⟩
  have hkr : kindR o.st = 1 := (Prod.mk.inj hkey).1
  have hcl : o.cl.toArray = #[.int .i64 1, .int .i64 o.num, .pointer none, .pointer (some ⟨o.g, 0, none⟩), .pointer none, .pointer none] := by unfold RO.cl pAt; rw [hkr]; rfl
  obtain ⟨Z, hZ, h3, back⟩ := ref_ob h2 ho
  have HOO := Lib.hid ho
  have HKEY := Lib.hid hkey
  have HFS := Lib.hid hfst
  have HRL := Lib.hid hrel
  have BK := Lib.hid back
  have OPX := blk_at' (show Holds B w0 w1 (star (blkP w.heap.size 97 x.cs) (star (refP b A c R O1) Q)) from h2.perm (by ac_rfl))
  rw [hcl]
  obtain ⟨st, hst⟩ : ∃ st, o.st = st := ⟨_, rfl⟩
  have HST := Lib.hid hst
  rw [hst] at hok2 h3 hkr
  clear ho hkey hfst hrel back h2 hcl hst
  cases st with
  | m h0 who L => exact absurd hkr (by simp [kindR])
  | g cn L => exact absurd hkr (by simp [kindR])
  | o W ov L => exact absurd hkr (by simp [kindR])
  | r W wr L =>
    have h3' : Holds B w0 w1 (star (rrP o.g W wr L) (star Z (star (blkP w.heap.size 97 x.cs) Q))) := h3
    have HC := Lib.hid (x_rrunlock h3' (hZ.star SQ.out) (by have := hok2.1.1; have := HK0.out; omega) (by have := hok2.1.1; have := HK0.out; omega) task false)
    have ED := Lib.hid (show doS (.r W wr L) x task zT = ⟨false, (rwUnlock W wr L task false).1, (rwUnlock W wr L task false).2.1, .r (rwUnlock W wr L task false).2.2.1 (rwUnlock W wr L task false).2.2.2.1 (rwUnlock W wr L task false).2.2.2.2, zT⟩ by unfold doS; dsimp only; rw [if_neg (by have := HXK.out; omega), show (x.k == 4) = false by simp [HXK.out]])
    have WK := Lib.hid (rwUnlock_ok (id := task) (r := false) hok2.1).2.1
    have WL := Lib.hid (show (rwUnlock W wr L task false).1.length ≤ 1000000 by have := (rwUnlock_ok (id := task) (r := false) hok2.1).2.2; have := HK0.out; omega)
    generalize rwUnlock W wr L task false = r at *
    obtain ⟨r1, r2, r3, r4, r5⟩ := r
    dsimp only at HC ED WK WL
    have HS1 := Lib.hid (show (fun w' => w'.cell? ⟨w.heap.size, 0, none⟩ = some (.int .i64 x.k) ∧ w'.cell? ⟨w.heap.size, 1, none⟩ = some (.int .i64 x.obj)) w1 from ⟨OPX.cell 0, OPX.cell 1⟩)
    clear h3 h3' hok2 hkr OPX
    refine hK.out _ _ HS1.out (fun hHeld => ?_)
    clear hK K
    (try simp only [pn])
    refine tk 4 ?_
    (try simp only [pn])
    refine rd 9 (fun K hK => ?_)
    go_simp
    refine HC.out.mono ?_
    rintro e w2 ⟨A2, c2, rfl, h4r⟩
    have h4 : Holds B w0 w2 (star (rrP o.g r3 r4 r5) (star Z (star (rowP 3 1 (.slice A2 r1.length c2) r1.length (ints r1)) (star (blkP w.heap.size 97 x.cs) Q)))) := h4r.perm (by ac_rfl)
    have h5 := BK.out w2 (.r r3 r4 r5) (star (rowP 3 1 (.slice A2 r1.length c2) r1.length (ints r1)) (star (blkP w.heap.size 97 x.cs) Q)) (by rw [HST.out]; rfl) h4
    have H5 := Lib.hid h5
    have X5 := blk_at' (show Holds B w0 w2 (star (blkP w.heap.size 97 x.cs) (star (refP b A c R (O1.set j { o with st := .r r3 r4 r5 })) (star (rowP 3 1 (.slice A2 r1.length c2) r1.length (ints r1)) Q))) from h5.perm (by ac_rfl))
    have HS2 := Lib.hid (show (fun w' => w'.cell? ⟨w.heap.size, 0, none⟩ = some (.int .i64 x.k) ∧ w'.cell? ⟨w.heap.size, 1, none⟩ = some (.int .i64 x.obj)) w2 from ⟨X5.cell 0, X5.cell 1⟩)
    clear h4 h5 X5 hZ
    refine hK.out _ _ HS2.out (fun hHeld => ?_)
    clear hK K
    (try simp only [pn])
    refine tk 10 ?_
    (try simp only [pn])
    refine tk 11 ?_
    (try simp only [pn])
    refine tk 12 ?_
    (try simp only [pn])
    refine tk 13 ?_
    (try simp only [pn])
    refine tk 14 ?_
    (try simp only [pn])
    refine wpAnyH_done (by kernel_rfl) ?_ _
    refine NoPanic.normal ?_
    have WA := Lib.hid (wake95 (l := r1) (show Holds B w0 w2 (star (rowP 3 1 (.slice A2 r1.length c2) r1.length (ints r1)) (star (refP b A c R (O1.set j { o with st := .r r3 r4 r5 })) (star (blkP w.heap.size 97 x.cs) Q))) from H5.out.perm (by ac_rfl)) SQ.out WL.out HRL0.out (fun u hu => by have := WK.out u hu; rw [HN0.out] at this; exact this))
    clear hH
    go_wp2_with fail
    refine WA.out.mono ?_
    rintro e w3 ⟨rfl, h6⟩
    have H6 := Lib.hid h6
    clear h6
    go_wp2_with fail
    go_ret2
    refine ⟨O1, j, o, HOO.out, HKEY.out, HFS.out, HRL.out, by rw [HST.out, ED.out]; rfl, ?_⟩
    rw [HST.out, ED.out]
    have h7 := H6.out.drop
    have h8 : Holds B w0 w3 (star (blkP w.heap.size 97 x.cs) (star (refP b A c (wakeR R r1) (O1.set j { o with st := .r r3 r4 r5 })) Q)) := h7.perm (by ac_rfl)
    exact h8.drop
theorem rlock_4 {x : Op3} (h : Holds B w0 w (star (refP b A c R O) Q)) (hQ : Stable Q) (hO : O.length ≤ 1000000) (hR : R.length ≤ 1000000) {k0 n0 : Nat} (hok : ∀ o ∈ O, o.st.ok k0 n0 ∧ mg o.st) (hk0 : k0 ≤ 500000) (hn0 : n0 = R.length) (hk : x.k = 4) (task : Int) :
    Calls Try.prog 97 #[.pointer (some ⟨b, 0, none⟩), .int .i64 task, x.val] w (RDo B w0 b A c R O 1 x task Q) := by
  have D1 : (x.k == 1) = false := by simp [hk]
  have D2 : (x.k == 2) = false := by simp [hk]
  have D3 : (x.k == 3) = false := by simp [hk]
  have D4 : (x.k == 4) = true := by simp [hk]
  have hu2 := Try.underlying97
  have hu3 := Try.underlying160
  have HQ := Lib.hid hQ
  have HOK := Lib.hid hok
  have HK0 := Lib.hid hk0
  have HRL0 := Lib.hid hR
  have HN0 := Lib.hid hn0
  have HXK := Lib.hid hk
  have SQ := Lib.hid (show Stable (star (blkP w.heap.size 97 x.cs) Q) from (blkP_stable _ _ _).star hQ)
  have h1 := h.newBlk ((refP_stable b A c R O).star hQ) 97 x.cs
  have X1 := blk_at' h1
  have x0 := X1.cell 0
  have x1 := X1.cell 1
  have x2 := X1.cell 2
  have h2 : Holds B w0 (w.alloc (.cells x.cs 97)) (star (refP b A c R O) (star (blkP w.heap.size 97 x.cs) Q)) := h1.perm (by ac_rfl)
  have H2 := Lib.hid h2
  have OBJ := Lib.hid (fun (X' : World) (hX : Keep Nothing (w.alloc (.cells x.cs 97)) X') => object94_1 (h2.kept ((refP_stable _ _ _ _ _).star SQ.out) hX) SQ.out hO x.obj)
  have hf2 := fun a b c d e f w => fld2 a b c d e f w
  have hf3 := fun a b c d e f w => fld3 a b c d e f w
  have hH : (fun w' => w'.cell? ⟨w.heap.size, 0, none⟩ = some (.int .i64 x.k) ∧ w'.cell? ⟨w.heap.size, 1, none⟩ = some (.int .i64 x.obj)) (w.alloc (.cells x.cs 97)) := ⟨x0, x1⟩
  dsimp only at hH
  clear h hQ hok hO hk h1 h2 X1 hk0 hR hn0
  unfold Op3.val Op3.cs
  go_enter Try.func97, Try.ntmps97
  go_wp2_with fail
  refine wp_region_noPanic ?_
  refine wp_region_held_drew (S := (fun w' => w'.cell? ⟨w.heap.size, 0, none⟩ = some (.int .i64 x.k) ∧ w'.cell? ⟨w.heap.size, 1, none⟩ = some (.int .i64 x.obj))) (by kernel_rfl) hH (fun hHeld => ?_)
  refine tk 0 ?_
  (try simp only [pn])
  refine tk 1 ?_
  (try simp only [pn])
  refine tk 2 ?_
  (try simp only [pn])
  refine tk 5 ?_
  (try simp only [pn])
  refine tk 6 ?_
  (try simp only [pn])
  refine tk 7 ?_
  (try simp only [pn])
  refine tk 8 ?_
  (try simp only [pn])
  refine rd 3 (fun K hK => ?_)
  go_simp
  refine (OBJ.out _ kn).mono ?_
  rintro e w1 ⟨O1, j, o, rfl, ho, hkey, hfst, hrel, h2⟩
  have hok2 : o.st.ok k0 n0 ∧ mg o.st := by
    rcases hrel with rfl | ⟨_, h3, _⟩
    · exact HOK.out o (List.mem_of_getElem? ho)
    · rw [h3]; exact ⟨freshR_ok _ _ _, mg_fresh _⟩
  have hkr : kindR o.st = 1 := (Prod.mk.inj hkey).1
  have hcl : o.cl.toArray = #[.int .i64 1, .int .i64 o.num, .pointer none, .pointer (some ⟨o.g, 0, none⟩), .pointer none, .pointer none] := by unfold RO.cl pAt; rw [hkr]; rfl
  obtain ⟨Z, hZ, h3, back⟩ := ref_ob h2 ho
  have HOO := Lib.hid ho
  have HKEY := Lib.hid hkey
  have HFS := Lib.hid hfst
  have HRL := Lib.hid hrel
  have BK := Lib.hid back
  have OPX := blk_at' (show Holds B w0 w1 (star (blkP w.heap.size 97 x.cs) (star (refP b A c R O1) Q)) from h2.perm (by ac_rfl))
  rw [hcl]
  obtain ⟨st, hst⟩ : ∃ st, o.st = st := ⟨_, rfl⟩
  have HST := Lib.hid hst
  rw [hst] at hok2 h3 hkr
  clear ho hkey hfst hrel back h2 hcl hst
  cases st with
  | m h0 who L => exact absurd hkr (by simp [kindR])
  | g cn L => exact absurd hkr (by simp [kindR])
  | o W ov L => exact absurd hkr (by simp [kindR])
  | r W wr L =>
    have h3' : Holds B w0 w1 (star (rrP o.g W wr L) (star Z (star (blkP w.heap.size 97 x.cs) Q))) := h3
    have HC := Lib.hid (x_rrunlock h3' (hZ.star SQ.out) (by have := hok2.1.1; have := HK0.out; omega) (by have := hok2.1.1; have := HK0.out; omega) task true)
    have ED := Lib.hid (show doS (.r W wr L) x task zT = ⟨false, (rwUnlock W wr L task true).1, (rwUnlock W wr L task true).2.1, .r (rwUnlock W wr L task true).2.2.1 (rwUnlock W wr L task true).2.2.2.1 (rwUnlock W wr L task true).2.2.2.2, zT⟩ by unfold doS; dsimp only; rw [if_neg (by have := HXK.out; omega), show (x.k == 4) = true by simp [HXK.out]])
    have WK := Lib.hid (rwUnlock_ok (id := task) (r := true) hok2.1).2.1
    have WL := Lib.hid (show (rwUnlock W wr L task true).1.length ≤ 1000000 by have := (rwUnlock_ok (id := task) (r := true) hok2.1).2.2; have := HK0.out; omega)
    generalize rwUnlock W wr L task true = r at *
    obtain ⟨r1, r2, r3, r4, r5⟩ := r
    dsimp only at HC ED WK WL
    have HS1 := Lib.hid (show (fun w' => w'.cell? ⟨w.heap.size, 0, none⟩ = some (.int .i64 x.k) ∧ w'.cell? ⟨w.heap.size, 1, none⟩ = some (.int .i64 x.obj)) w1 from ⟨OPX.cell 0, OPX.cell 1⟩)
    clear h3 h3' hok2 hkr OPX
    refine hK.out _ _ HS1.out (fun hHeld => ?_)
    clear hK K
    (try simp only [pn])
    refine tk 4 ?_
    (try simp only [pn])
    refine rd 9 (fun K hK => ?_)
    go_simp
    refine HC.out.mono ?_
    rintro e w2 ⟨A2, c2, rfl, h4r⟩
    have h4 : Holds B w0 w2 (star (rrP o.g r3 r4 r5) (star Z (star (rowP 3 1 (.slice A2 r1.length c2) r1.length (ints r1)) (star (blkP w.heap.size 97 x.cs) Q)))) := h4r.perm (by ac_rfl)
    have h5 := BK.out w2 (.r r3 r4 r5) (star (rowP 3 1 (.slice A2 r1.length c2) r1.length (ints r1)) (star (blkP w.heap.size 97 x.cs) Q)) (by rw [HST.out]; rfl) h4
    have H5 := Lib.hid h5
    have X5 := blk_at' (show Holds B w0 w2 (star (blkP w.heap.size 97 x.cs) (star (refP b A c R (O1.set j { o with st := .r r3 r4 r5 })) (star (rowP 3 1 (.slice A2 r1.length c2) r1.length (ints r1)) Q))) from h5.perm (by ac_rfl))
    have HS2 := Lib.hid (show (fun w' => w'.cell? ⟨w.heap.size, 0, none⟩ = some (.int .i64 x.k) ∧ w'.cell? ⟨w.heap.size, 1, none⟩ = some (.int .i64 x.obj)) w2 from ⟨X5.cell 0, X5.cell 1⟩)
    clear h4 h5 X5 hZ
    refine hK.out _ _ HS2.out (fun hHeld => ?_)
    clear hK K
    (try simp only [pn])
    refine tk 10 ?_
    (try simp only [pn])
    refine tk 11 ?_
    (try simp only [pn])
    refine tk 12 ?_
    (try simp only [pn])
    refine tk 13 ?_
    (try simp only [pn])
    refine tk 14 ?_
    (try simp only [pn])
    refine wpAnyH_done (by kernel_rfl) ?_ _
    refine NoPanic.normal ?_
    have WA := Lib.hid (wake95 (l := r1) (show Holds B w0 w2 (star (rowP 3 1 (.slice A2 r1.length c2) r1.length (ints r1)) (star (refP b A c R (O1.set j { o with st := .r r3 r4 r5 })) (star (blkP w.heap.size 97 x.cs) Q))) from H5.out.perm (by ac_rfl)) SQ.out WL.out HRL0.out (fun u hu => by have := WK.out u hu; rw [HN0.out] at this; exact this))
    clear hH
    go_wp2_with fail
    refine WA.out.mono ?_
    rintro e w3 ⟨rfl, h6⟩
    have H6 := Lib.hid h6
    clear h6
    go_wp2_with fail
    go_ret2
    refine ⟨O1, j, o, HOO.out, HKEY.out, HFS.out, HRL.out, by rw [HST.out, ED.out]; rfl, ?_⟩
    rw [HST.out, ED.out]
    have h7 := H6.out.drop
    have h8 : Holds B w0 w3 (star (blkP w.heap.size 97 x.cs) (star (refP b A c (wakeR R r1) (O1.set j { o with st := .r r3 r4 r5 })) Q)) := h7.perm (by ac_rfl)
    exact h8.drop
theorem rlock_bad {x : Op3} (h : Holds B w0 w (star (refP b A c R O) Q)) (hQ : Stable Q) (hk : ((x.k = 1 ∨ x.k = 2) ∧ x.n ≠ 0 ∧ x.n ≠ 1) ∨ (x.k ≠ 1 ∧ x.k ≠ 2 ∧ x.k ≠ 3 ∧ x.k ≠ 4)) (task : Int) :
    Calls Try.prog 97 #[.pointer (some ⟨b, 0, none⟩), .int .i64 task, x.val] w (fun e w' => e = .returned (.tuple #[.bool false, .int .i64 1]) ∧ Keep Nothing w w') := by
  have hu2 := Try.underlying97
  have X1 := Blk.fresh w 97 x.cs
  have x0 := X1.cell 0
  have x1 := X1.cell 1
  have x2 := X1.cell 2
  clear X1 h hQ
  unfold Op3.val Op3.cs
  rcases hk with ⟨h1 | h1, n0, n1⟩ | ⟨h1, h2, h3, h4⟩
  · have D1 : (x.k == 1) = true := by simp [h1]
    have D2 : (x.k == 2) = false := by simp [h1]
    have D3 : (x.k == 3) = false := by simp [h1]
    have D4 : (x.k == 4) = false := by simp [h1]
    have e0 : (x.n == 0) = false := by simp [n0]
    have e1 : (x.n == 1) = false := by simp [n1]
    clear h1 n0 n1
    go_enter Try.func97, Try.ntmps97
    go_wp2_with fail
    go_ret2
    exact ⟨rfl, kn⟩
  · have D1 : (x.k == 1) = false := by simp [h1]
    have D2 : (x.k == 2) = true := by simp [h1]
    have D3 : (x.k == 3) = false := by simp [h1]
    have D4 : (x.k == 4) = false := by simp [h1]
    have e0 : (x.n == 0) = false := by simp [n0]
    have e1 : (x.n == 1) = false := by simp [n1]
    clear h1 n0 n1
    go_enter Try.func97, Try.ntmps97
    go_wp2_with fail
    go_ret2
    exact ⟨rfl, kn⟩
  · have D1 : (x.k == 1) = false := by simp [h1]
    have D2 : (x.k == 2) = false := by simp [h2]
    have D3 : (x.k == 3) = false := by simp [h3]
    have D4 : (x.k == 4) = false := by simp [h4]
    clear h1 h2 h3 h4
    go_enter Try.func97, Try.ntmps97
    go_wp2_with fail
    go_ret2
    exact ⟨rfl, kn⟩
end
end Go.Proofs.Ytmohpjkbhpgidaa.A
