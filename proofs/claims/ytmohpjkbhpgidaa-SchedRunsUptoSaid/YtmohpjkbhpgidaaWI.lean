/-
  The reference's scheduler: once, Do. Printed by gen_wa.py.
-/
import Derived.Test.YtmohpjkbhpgidaaWG
import Derived.Test.YtmohpjkbhpgidaaYF
namespace Go.Proofs.Ytmohpjkbhpgidaa.A
open Go.RowKit Go.Proofs.Ytmohpjkbhpgidaa.U
set_option linter.unusedVariables false
set_option linter.unusedSimpArgs false
set_option maxRecDepth 100000
set_option maxHeartbeats 1600000

section
variable {B : Nat} {w0 w : World} {Q : SP} {b : Nat} {A : Option Addr} {ad : Addr} {c : Nat} {R : List RTk} {O : List RO}
/-- A task out of the reference, and back otherwise. -/
theorem ref_task {i : Nat} {r : RTk} (h : Holds B w0 w (star (refP b A c R O) Q)) (hR : R[i]? = some r) : ∃ Z, Stable Z ∧ Holds B w0 w (star (rRow R A c) (star (rtI r) (star Z Q))) ∧
    ∀ (w' : World) (r' : RTk) (Q' : SP), Holds B w0 w' (star (rowP 157 4 (.slice A R.length c) R.length (rtV (R.set i r'))) (star (rtI r') (star Z Q'))) → Holds B w0 w' (star (refP b A c (R.set i r') O) Q') := by
  obtain ⟨Z, hZ, h1, back⟩ := ref_row h
  obtain ⟨Y, hY, e1, e2⟩ := rinP_take R i r hR
  rw [e1] at h1
  refine ⟨star Y Z, hY.star hZ, h1.perm (by ac_rfl), fun w' r' Q' h2 => back _ _ _ (by rw [List.length_set]) ?_⟩
  unfold rRow
  rw [List.length_set, e2]
  exact h2.perm (by ac_rfl)
theorem ref_inner {r : RTk} (h : Holds B w0 w (star (refP b A c R O) Q)) (hr : r ∈ R) : Row w 97 3 r.vo r.T.ops.length (opsV r.T.ops) ∧ Row w 3 1 r.vr r.T.runs.length (ints r.T.runs) := by
  obtain ⟨A', c', h9⟩ := ref_open h
  have h10 : Holds B w0 w (star (rinP R) (star (rBlk b R O A c A' c') (star (rRow R A c) (star (oRow O A' c') (star (robP O) Q))))) := h9.perm (by ac_rfl)
  exact rin_form h10 r hr
def ROnce (B : Nat) (w0 : World) (b : Nat) (A : Option Addr) (c : Nat) (R : List RTk) (O : List RO) (x : Op3) (i : Nat) (r : RTk) (Q : SP) (e : Ending) (w' : World) : Prop :=
  ∃ (O1 : List RO) (j : Nat) (o : RO) (r' : RTk), O1[j]? = some o ∧ o.key = (3, x.obj) ∧ (∀ (j' : Nat) (o' : RO), j' < j → O1[j']? = some o' → o'.key ≠ (3, x.obj)) ∧ (O1 = O ∨ (O1 = O ++ [o] ∧ o.st = freshR 3 ∧ ∀ o ∈ O, o.key ≠ (3, x.obj))) ∧
    r'.T = (doS o.st x i r.T).tk ∧ e = .returned (.tuple #[.bool (doS o.st x i r.T).wait, .int .i64 (doS o.st x i r.T).er]) ∧
    Holds B w0 w' (star (refP b A c (wakeR (R.set i r') (doS o.st x i r.T).wk) (O1.set j { o with st := (doS o.st x i r.T).st })) Q)
theorem ronce_end0 {x : Op3} (h : Holds B w0 w (star (refP b (some ad) c R O) Q)) (hQ : Stable Q) (hO : O.length ≤ 1000000) (hR : R.length ≤ 1000000) {k0 n0 : Nat} (hok : ∀ o ∈ O, o.st.ok k0 n0 ∧ mg o.st) (hk0 : k0 ≤ 500000) (hn0 : n0 = R.length) (hk : x.k = 8) (i : Nat) (r : RTk) (hr : R[i]? = some r) (hsm : r.T.small) (h0 : r.T.runs.length = 0) :
    Calls Try.prog 96 #[.pointer (some ⟨b, 0, none⟩), .int .i64 i, x.val] w (fun e w' => e = .returned (.tuple #[.bool false, .int .i64 1]) ∧ Keep Nothing w w') := by
  have D8 : (x.k == 8) = true := by simp [hk]
  have hu := Try.underlying155
  have hu2 := Try.underlying97
  have hu3 := Try.underlying160
  have hu4 := Try.underlying157
  have hf5 := fun a b c d e f w => fld5 a b c d e f w
  have HQ := Lib.hid hQ
  have HOK := Lib.hid hok
  have HK0 := Lib.hid hk0
  have HRL0 := Lib.hid hR
  have HN0 := Lib.hid hn0
  have HXK := Lib.hid hk
  have HSM := Lib.hid hsm
  have HR := Lib.hid hr
  have HO := Lib.hid hO
  have hil := (List.getElem?_eq_some_iff.1 hr).1
  have SQ := Lib.hid (show Stable (star (blkP w.heap.size 97 x.cs) Q) from (blkP_stable _ _ _).star hQ)
  have h1 := h.newBlk ((refP_stable b (some ad) c R O).star hQ) 97 x.cs
  have X1 := blk_at' h1
  have x0 := X1.cell 0
  have x1 := X1.cell 1
  have h2 : Holds B w0 (w.alloc (.cells x.cs 97)) (star (refP b (some ad) c R O) (star (blkP w.heap.size 97 x.cs) Q)) := h1.perm (by ac_rfl)
  have H2 := Lib.hid h2
  have HT := ref_tasks h2 hR
  have c0 := HT.c0
  obtain ⟨ad', r2, hA, hr2, hat⟩ := rt_at HT.src hil
  injection hA with hA
  subst hA
  obtain rfl : r2 = r := by rw [hr] at hr2; injection hr2 with e; exact e.symm
  obtain ⟨A1, c1, A2, c2, hf1, hf2⟩ := HT.form r2 (List.mem_of_getElem? hr)
  have c3 := hat.r
  rw [hf2] at c3
  rw [h0] at c3
  have hT : (fun _ => True : World → Prop) (w.alloc (.cells x.cs 97)) := trivial
  clear h hQ hO hR hok hk0 hn0 hk hsm h1 h2 X1 HT hr2 hat hr h0
  unfold Op3.val Op3.cs
  go_enter Try.func96, Try.ntmps96
  go_wp2_with fail
  refine wp_region_noPanic ?_
  refine wp_region_held_drew (S := (fun _ => True)) (by kernel_rfl) hT (fun hHeld => ?_)
  refine tk 0 ?_
  (try simp only [pn])
  refine tk 1 ?_
  (try simp only [pn])
  refine tk 2 ?_
  (try simp only [pn])
  refine wpAnyH_take (i := 3) (oi := _) (v := undef) (by simp only [List.getElem?_toArray, List.getElem?_cons_succ, List.getElem?_cons_zero]; rfl) (by kernel_rfl) (by kernel_rfl) (by kernel_rfl) (fun _ _ _ h => h) (Or.inr ⟨by rfl, rfl⟩) (by assumption) ?_
  (try simp only [pn])
  refine wpAnyH_take (i := 4) (oi := _) (v := undef) (by simp only [List.getElem?_toArray, List.getElem?_cons_succ, List.getElem?_cons_zero]; rfl) (by kernel_rfl) (by kernel_rfl) (by kernel_rfl) (fun _ _ _ h => h) (Or.inr ⟨by rfl, rfl⟩) (by assumption) ?_
  (try simp only [pn])
  refine wpAnyH_take (i := 5) (oi := _) (v := undef) (by simp only [List.getElem?_toArray, List.getElem?_cons_succ, List.getElem?_cons_zero]; rfl) (by kernel_rfl) (by kernel_rfl) (by kernel_rfl) (fun _ _ _ h => h) (Or.inr ⟨by rfl, rfl⟩) (by assumption) ?_
  (try simp only [pn])
  refine wpAnyH_take (i := 6) (oi := _) (v := undef) (by simp only [List.getElem?_toArray, List.getElem?_cons_succ, List.getElem?_cons_zero]; rfl) (by kernel_rfl) (by kernel_rfl) (by kernel_rfl) (fun _ _ _ h => h) (Or.inr ⟨by rfl, rfl⟩) (by assumption) ?_
  (try simp only [pn])
  refine wpAnyH_take (i := 7) (oi := _) (v := undef) (by simp only [List.getElem?_toArray, List.getElem?_cons_succ, List.getElem?_cons_zero]; rfl) (by kernel_rfl) (by kernel_rfl) (by kernel_rfl) (fun _ _ _ h => h) (Or.inr ⟨by rfl, rfl⟩) (by assumption) ?_
  (try simp only [pn])
  refine wpAnyH_take (i := 8) (oi := _) (v := undef) (by simp only [List.getElem?_toArray, List.getElem?_cons_succ, List.getElem?_cons_zero]; rfl) (by kernel_rfl) (by kernel_rfl) (by kernel_rfl) (fun _ _ _ h => h) (Or.inr ⟨by rfl, rfl⟩) (by assumption) ?_
  (try simp only [pn])
  refine wpAnyH_take (i := 9) (oi := _) (v := undef) (by simp only [List.getElem?_toArray, List.getElem?_cons_succ, List.getElem?_cons_zero]; rfl) (by kernel_rfl) (by kernel_rfl) (by kernel_rfl) (fun _ _ _ h => h) (Or.inr ⟨by rfl, rfl⟩) (by assumption) ?_
  (try simp only [pn])
  refine wpAnyH_take (i := 10) (oi := _) (v := undef) (by simp only [List.getElem?_toArray, List.getElem?_cons_succ, List.getElem?_cons_zero]; rfl) (by kernel_rfl) (by kernel_rfl) (by kernel_rfl) (fun _ _ _ h => h) (Or.inr ⟨by rfl, rfl⟩) (by assumption) ?_
  (try simp only [pn])
  refine wpAnyH_take (i := 11) (oi := _) (v := undef) (by simp only [List.getElem?_toArray, List.getElem?_cons_succ, List.getElem?_cons_zero]; rfl) (by kernel_rfl) (by kernel_rfl) (by kernel_rfl) (fun _ _ _ h => h) (Or.inr ⟨by rfl, rfl⟩) (by assumption) ?_
  (try simp only [pn])
  refine wpAnyH_take (i := 12) (oi := _) (v := undef) (by simp only [List.getElem?_toArray, List.getElem?_cons_succ, List.getElem?_cons_zero]; rfl) (by kernel_rfl) (by kernel_rfl) (by kernel_rfl) (fun _ _ _ h => h) (Or.inr ⟨by rfl, rfl⟩) (by assumption) ?_
  (try simp only [pn])
  refine wpAnyH_take (i := 13) (oi := _) (v := undef) (by simp only [List.getElem?_toArray, List.getElem?_cons_succ, List.getElem?_cons_zero]; rfl) (by kernel_rfl) (by kernel_rfl) (by kernel_rfl) (fun _ _ _ h => h) (Or.inr ⟨by rfl, rfl⟩) (by assumption) ?_
  (try simp only [pn])
  refine tk 14 ?_
  (try simp only [pn])
  refine wpAnyH_done (by kernel_rfl) ?_ _
  refine NoPanic.normal ?_
  clear hT
  go_wp2_with fail
  go_ret2
  exact ⟨rfl, kn⟩
theorem ronce_endn {x : Op3} (h : Holds B w0 w (star (refP b (some ad) c R O) Q)) (hQ : Stable Q) (hO : O.length ≤ 1000000) (hR : R.length ≤ 1000000) {k0 n0 : Nat} (hok : ∀ o ∈ O, o.st.ok k0 n0 ∧ mg o.st) (hk0 : k0 ≤ 500000) (hn0 : n0 = R.length) (hk : x.k = 8) (i : Nat) (r : RTk) (hr : R[i]? = some r) (hsm : r.T.small) (h0 : 0 < r.T.runs.length) (hne : onceOk r.T x = false) :
    Calls Try.prog 96 #[.pointer (some ⟨b, 0, none⟩), .int .i64 i, x.val] w (fun e w' => e = .returned (.tuple #[.bool false, .int .i64 1]) ∧ Keep Nothing w w') := by
  have D8 : (x.k == 8) = true := by simp [hk]
  have hu := Try.underlying155
  have hu2 := Try.underlying97
  have hu3 := Try.underlying160
  have hu4 := Try.underlying157
  have hf5 := fun a b c d e f w => fld5 a b c d e f w
  have HQ := Lib.hid hQ
  have HOK := Lib.hid hok
  have HK0 := Lib.hid hk0
  have HRL0 := Lib.hid hR
  have HN0 := Lib.hid hn0
  have HXK := Lib.hid hk
  have HSM := Lib.hid hsm
  have HR := Lib.hid hr
  have HO := Lib.hid hO
  have hil := (List.getElem?_eq_some_iff.1 hr).1
  have SQ := Lib.hid (show Stable (star (blkP w.heap.size 97 x.cs) Q) from (blkP_stable _ _ _).star hQ)
  have h1 := h.newBlk ((refP_stable b (some ad) c R O).star hQ) 97 x.cs
  have X1 := blk_at' h1
  have x0 := X1.cell 0
  have x1 := X1.cell 1
  have h2 : Holds B w0 (w.alloc (.cells x.cs 97)) (star (refP b (some ad) c R O) (star (blkP w.heap.size 97 x.cs) Q)) := h1.perm (by ac_rfl)
  have H2 := Lib.hid h2
  have HT := ref_tasks h2 hR
  have c0 := HT.c0
  obtain ⟨ad', r2, hA, hr2, hat⟩ := rt_at HT.src hil
  injection hA with hA
  subst hA
  obtain rfl : r2 = r := by rw [hr] at hr2; injection hr2 with e; exact e.symm
  obtain ⟨A1, c1, A2, c2, hf1, hf2⟩ := HT.form r2 (List.mem_of_getElem? hr)
  have c3 := hat.r
  rw [hf2] at c3
  have g3 := (ref_inner h2 (List.mem_of_getElem? hr)).2
  rw [hf2] at g3
  obtain ⟨l, hl⟩ : ∃ l, r2.T.runs.length = l + 1 := ⟨r2.T.runs.length - 1, by omega⟩
  obtain ⟨al, v, hal, hv, hcv⟩ := i_at g3.src (show l < r2.T.runs.length by omega)
  subst hal
  have hlast : r2.T.runs.getLast? = some v := by rw [List.getLast?_eq_getElem?, hl]; exact hv
  obtain ⟨A9, c9, e9, hc1, hc2⟩ := g3.form
  have hcc : r2.T.runs.length ≤ c2 := by injection e9 with _ _ e3; rw [e3]; exact hc1
  have hr6 := HSM.out.runs
  obtain ⟨m, hm⟩ : ∃ m, r2.T.runs.length = m := ⟨_, rfl⟩
  rw [hm] at c3 hl hcc hr6
  have hlm : l < m := by omega
  have hlc : l ≤ c2 := by omega
  have hm0 : ((m : Int) == 0) = false := by simp; omega
  have hwA : IntKind.i64.wrap ((m : Int) - 1) = (l : Int) := by rw [IntKind.wrap_i64]; omega
  have hwB : wrap64 ((m : Int) - 1) = (l : Int) := by unfold wrap64; omega
  have hv1 : (v != x.obj) = true := by unfold onceOk at hne; rw [hlast] at hne; simpa using hne
  have hH : (fun w' => w'.cell? ⟨(ad.add (i * 4)).block, (ad.add (i * 4)).off + 3, none⟩ = some (.slice (some al) m c2) ∧ w'.cell? (al.add l) = some (.int .i64 v) ∧ w'.cell? ⟨w.heap.size, 1, none⟩ = some (.int .i64 x.obj)) (w.alloc (.cells x.cs 97)) := ⟨c3, hcv, x1⟩
  dsimp only at hH
  clear h hQ hO hR hok hk0 hn0 hk hsm h1 h2 X1 HT hr2 hat hr h0 hne hlast hv hcv e9 hc1 hc2 hcc hm hr6 g3 hl
  unfold Op3.val Op3.cs
  go_enter Try.func96, Try.ntmps96
  go_wp2_with fail
  refine wp_region_noPanic ?_
  refine wp_region_held_drew (S := (fun w' => w'.cell? ⟨(ad.add (i * 4)).block, (ad.add (i * 4)).off + 3, none⟩ = some (.slice (some al) m c2) ∧ w'.cell? (al.add l) = some (.int .i64 v) ∧ w'.cell? ⟨w.heap.size, 1, none⟩ = some (.int .i64 x.obj))) (by kernel_rfl) hH (fun hHeld => ?_)
  refine tk 0 ?_
  (try simp only [pn])
  refine tk 1 ?_
  (try simp only [pn])
  refine tk 2 ?_
  (try simp only [pn])
  refine tk 3 ?_
  (try simp only [pn])
  refine tk 4 ?_
  (try simp only [pn])
  refine tk 5 ?_
  (try simp only [pn])
  refine tk 6 ?_
  (try simp only [pn])
  refine tk 7 ?_
  (try simp only [pn])
  refine tk 8 ?_
  (try simp only [pn])
  refine tk 9 ?_
  (try simp only [pn])
  refine tk 10 ?_
  (try simp only [pn])
  refine tk 11 ?_
  (try simp only [pn])
  refine tk 12 ?_
  (try simp only [pn])
  refine tk 13 ?_
  (try simp only [pn])
  refine tk 14 ?_
  (try simp only [pn])
  refine wpAnyH_done (by kernel_rfl) ?_ _
  refine NoPanic.normal ?_
  clear hH
  go_wp2_with fail
  go_ret2
  exact ⟨rfl, kn⟩
theorem ronce_endy {x : Op3} (h : Holds B w0 w (star (refP b (some ad) c R O) Q)) (hQ : Stable Q) (hO : O.length ≤ 1000000) (hR : R.length ≤ 1000000) {k0 n0 : Nat} (hok : ∀ o ∈ O, o.st.ok k0 n0 ∧ mg o.st) (hk0 : k0 ≤ 500000) (hn0 : n0 = R.length) (hk : x.k = 8) (i : Nat) (r : RTk) (hr : R[i]? = some r) (hsm : r.T.small) (hne : onceOk r.T x = true) :
    Calls Try.prog 96 #[.pointer (some ⟨b, 0, none⟩), .int .i64 i, x.val] w (ROnce B w0 b (some ad) c R O x i r Q) := by
  have D8 : (x.k == 8) = true := by simp [hk]
  have hu := Try.underlying155
  have hu2 := Try.underlying97
  have hu3 := Try.underlying160
  have hu4 := Try.underlying157
  have hf5 := fun a b c d e f w => fld5 a b c d e f w
  have HQ := Lib.hid hQ
  have HOK := Lib.hid hok
  have HK0 := Lib.hid hk0
  have HRL0 := Lib.hid hR
  have HN0 := Lib.hid hn0
  have HXK := Lib.hid hk
  have HSM := Lib.hid hsm
  have HR := Lib.hid hr
  have HO := Lib.hid hO
  have hil := (List.getElem?_eq_some_iff.1 hr).1
  have SQ := Lib.hid (show Stable (star (blkP w.heap.size 97 x.cs) Q) from (blkP_stable _ _ _).star hQ)
  have h1 := h.newBlk ((refP_stable b (some ad) c R O).star hQ) 97 x.cs
  have X1 := blk_at' h1
  have x0 := X1.cell 0
  have x1 := X1.cell 1
  have h2 : Holds B w0 (w.alloc (.cells x.cs 97)) (star (refP b (some ad) c R O) (star (blkP w.heap.size 97 x.cs) Q)) := h1.perm (by ac_rfl)
  have H2 := Lib.hid h2
  have HT := ref_tasks h2 hR
  have c0 := HT.c0
  obtain ⟨ad', r2, hA, hr2, hat⟩ := rt_at HT.src hil
  injection hA with hA
  subst hA
  obtain rfl : r2 = r := by rw [hr] at hr2; injection hr2 with e; exact e.symm
  obtain ⟨A1, c1, A2, c2, hf1, hf2⟩ := HT.form r2 (List.mem_of_getElem? hr)
  have c3 := hat.r
  rw [hf2] at c3
  have h0 : 0 < r2.T.runs.length := by
    unfold onceOk at hne
    cases hq : r2.T.runs with
    | nil => rw [hq] at hne; simp at hne
    | cons a l => simp
  have g3 := (ref_inner h2 (List.mem_of_getElem? hr)).2
  rw [hf2] at g3
  obtain ⟨l, hl⟩ : ∃ l, r2.T.runs.length = l + 1 := ⟨r2.T.runs.length - 1, by omega⟩
  obtain ⟨al, v, hal, hv, hcv⟩ := i_at g3.src (show l < r2.T.runs.length by omega)
  subst hal
  have hlast : r2.T.runs.getLast? = some v := by rw [List.getLast?_eq_getElem?, hl]; exact hv
  obtain ⟨A9, c9, e9, hc1, hc2⟩ := g3.form
  have hcc : r2.T.runs.length ≤ c2 := by injection e9 with _ _ e3; rw [e3]; exact hc1
  have hr6 := HSM.out.runs
  obtain ⟨m, hm⟩ : ∃ m, r2.T.runs.length = m := ⟨_, rfl⟩
  rw [hm] at c3 hl hcc hr6
  have hlm : l < m := by omega
  have hlc : l ≤ c2 := by omega
  have hm0 : ((m : Int) == 0) = false := by simp; omega
  have hwA : IntKind.i64.wrap ((m : Int) - 1) = (l : Int) := by rw [IntKind.wrap_i64]; omega
  have hwB : wrap64 ((m : Int) - 1) = (l : Int) := by unfold wrap64; omega
  have hv1 : (v != x.obj) = false := by unfold onceOk at hne; rw [hlast] at hne; simpa using hne
  have hH : (fun w' => w'.cell? ⟨(ad.add (i * 4)).block, (ad.add (i * 4)).off + 3, none⟩ = some (.slice (some al) m c2) ∧ w'.cell? (al.add l) = some (.int .i64 v) ∧ w'.cell? ⟨w.heap.size, 1, none⟩ = some (.int .i64 x.obj)) (w.alloc (.cells x.cs 97)) := ⟨c3, hcv, x1⟩
  dsimp only at hH
  obtain ⟨Z, hZ, k1, back⟩ := ref_task h2 hr
  have hlt : i * 4 + 3 < R.length * 4 := by omega
  have fz := (Row.put1 k1.row hlt (.slice (some al) l c2)).2.1
  rw [addLater ad (i * 4) 3 (by omega)] at fz
  have k2 := Holds.rowPut k1 ((rtI_stable r2).star (hZ.star SQ.out)) hlt (.slice (some al) l c2)
  obtain ⟨r', hr'⟩ : ∃ r' : RTk, r' = ⟨r2.T.pop, r2.vo, .slice (some al) l c2⟩ := ⟨_, rfl⟩
  rw [rtV_set hr (r' := r') (by omega) (by rw [hr']; rfl), addLater ad (i * 4) 3 (by omega)] at k2
  have k3 : Holds B w0 ((w.alloc (.cells x.cs 97)).setCell ⟨(ad.add (i * 4)).block, (ad.add (i * 4)).off + 3, none⟩ (.slice (some al) l c2)) (star (rowP 3 1 (.slice (some al) r2.T.runs.length c2) r2.T.runs.length (ints r2.T.runs)) (star (rowP 157 4 (.slice (some ad) R.length c) R.length (rtV (R.set i r'))) (star (rowP 97 3 r2.vo r2.T.ops.length (opsV r2.T.ops)) (star Z (star (blkP w.heap.size 97 x.cs) Q))))) := k2.perm (by
    unfold rtI
    rw [hf2]
    ac_rfl)
  have k4 := row_cut k3 ((rowP_stable _ _ _ _ _).star ((rowP_stable _ _ _ _ _).star (hZ.star SQ.out))) (show l ≤ r2.T.runs.length by omega)
  have hpl : r2.T.runs.dropLast.length = l := by rw [List.length_dropLast]; omega
  have hpi : (ints r2.T.runs).take l = ints r2.T.runs.dropLast := by unfold ints; rw [← List.map_take, List.dropLast_eq_take, show r2.T.runs.length - 1 = l by omega]
  rw [hpi] at k4
  have k5 := back _ r' (star (blkP w.heap.size 97 x.cs) Q) (show Holds B w0 ((w.alloc (.cells x.cs 97)).setCell ⟨(ad.add (i * 4)).block, (ad.add (i * 4)).off + 3, none⟩ (.slice (some al) l c2)) (star (rowP 157 4 (.slice (some ad) R.length c) R.length (rtV (R.set i r'))) (star (rtI r') (star Z (star (blkP w.heap.size 97 x.cs) Q)))) from k4.perm (by
    unfold rtI
    rw [hr']
    show _ = star _ (star (star (rowP 97 3 r2.vo r2.T.ops.length (opsV r2.T.ops)) (rowP 3 1 (.slice (some al) l c2) r2.T.runs.dropLast.length (ints r2.T.runs.dropLast))) _)
    rw [hpl]
    ac_rfl))
  have HRP := Lib.hid (show r'.T = r2.T.pop by rw [hr'])
  have K5 := Lib.hid k5
  have X5 := blk_at' (show Holds B w0 ((w.alloc (.cells x.cs 97)).setCell ⟨(ad.add (i * 4)).block, (ad.add (i * 4)).off + 3, none⟩ (.slice (some al) l c2)) (star (blkP w.heap.size 97 x.cs) (star (refP b (some ad) c (R.set i r') O) Q)) from k5.perm (by ac_rfl))
  have y1 := X5.cell 1
  have OBJ := Lib.hid (fun (X' : World) (hX : Keep Nothing ((w.alloc (.cells x.cs 97)).setCell ⟨(ad.add (i * 4)).block, (ad.add (i * 4)).off + 3, none⟩ (.slice (some al) l c2)) X') => object94_3 (K5.out.kept ((refP_stable _ _ _ _ _).star SQ.out) hX) SQ.out HO.out x.obj)
  have HNE := Lib.hid hne
  clear h hQ hO hR hok hk0 hn0 hk hsm h1 h2 X1 HT hr2 hat h0 hne hlast hv hcv e9 hc1 hc2 hcc hm hr6 g3 hl Z hZ k1 back k2 k3 k4 k5 hpl hpi X5 hr' hlt hr
  unfold Op3.val Op3.cs
  go_enter Try.func96, Try.ntmps96
  go_wp2_with fail
  refine wp_region_noPanic ?_
  refine wp_region_held_drew (S := (fun w' => w'.cell? ⟨(ad.add (i * 4)).block, (ad.add (i * 4)).off + 3, none⟩ = some (.slice (some al) m c2) ∧ w'.cell? (al.add l) = some (.int .i64 v) ∧ w'.cell? ⟨w.heap.size, 1, none⟩ = some (.int .i64 x.obj))) (by kernel_rfl) hH (fun hHeld => ?_)
  refine tk 0 ?_
  (try simp only [pn])
  refine tk 1 ?_
  (try simp only [pn])
  refine tk 2 ?_
  (try simp only [pn])
  refine tk 3 ?_
  (try simp only [pn])
  refine tk 4 ?_
  (try simp only [pn])
  refine tk 5 ?_
  (try simp only [pn])
  refine tk 6 ?_
  (try simp only [pn])
  refine tk 7 ?_
  (try simp only [pn])
  refine tk 8 ?_
  (try simp only [pn])
  refine tk 9 ?_
  (try simp only [pn])
  refine tk 10 ?_
  (try simp only [pn])
  refine tk 11 ?_
  (try simp only [pn])
  refine tk 12 ?_
  (try simp only [pn])
  refine tk 13 ?_
  (try simp only [pn])
  refine tk 14 ?_
  (try simp only [pn])
  refine wpAnyH_done (by kernel_rfl) ?_ _
  refine NoPanic.normal ?_
  clear hH
  go_wp2_with fail
  refine (OBJ.out _ kn).mono ?_
  rintro e w1 ⟨O1, j, o, rfl, ho, hkey, hfst, hrel, h2⟩
  have hok2 : o.st.ok k0 n0 ∧ mg o.st := by
    rcases hrel with rfl | ⟨_, h3, _⟩
    · exact HOK.out o (List.mem_of_getElem? ho)
    · rw [h3]; exact ⟨freshR_ok _ _ _, mg_fresh _⟩
  have hkr : kindR o.st = 3 := (Prod.mk.inj hkey).1
  have hcl : o.cl.toArray = #[.int .i64 3, .int .i64 o.num, .pointer none, .pointer none, .pointer none, .pointer (some ⟨o.g, 0, none⟩)] := by unfold RO.cl pAt; rw [hkr]; rfl
  obtain ⟨Z, hZ, h3, back⟩ := ref_ob h2 ho
  have HOO := Lib.hid ho
  have HKEY := Lib.hid hkey
  have HFS := Lib.hid hfst
  have HRL := Lib.hid hrel
  have BK := Lib.hid back
  have OPX := (trivial : True)
  rw [hcl]
  obtain ⟨st, hst⟩ : ∃ st, o.st = st := ⟨_, rfl⟩
  have HST := Lib.hid hst
  rw [hst] at hok2 h3 hkr
  clear ho hkey hfst hrel back h2 hcl hst
  cases st with
  | m h0 who L => exact absurd hkr (by simp [kindR])
  | r W wr L => exact absurd hkr (by simp [kindR])
  | g cn L => exact absurd hkr (by simp [kindR])
  | o W ov L =>
    have h3' : Holds B w0 w1 (star (rP o.g W ov L) (star Z (star (blkP w.heap.size 97 x.cs) Q))) := h3
    have HC := Lib.hid (y_done (x := (i : Int)) h3' (hZ.star SQ.out))
    have ED := Lib.hid (show doS (.o W ov L) x i r2.T = ⟨false, fR W i L, fE W i, .o (fW W i) (fO W i ov) (fL W i L), r2.T.pop⟩ by unfold doS; dsimp only; rw [if_pos HXK.out, if_pos HNE.out])
    have WK := Lib.hid (show ∀ u ∈ fR W i L, 0 ≤ u ∧ u < n0 by
      unfold fR; split
      · exact hok2.1.2
      · intro t ht; cases ht)
    have WL := Lib.hid (show (fR W i L).length ≤ 1000000 by
      unfold fR; split
      · have := hok2.1.1; have := HK0.out; omega
      · exact Nat.zero_le _)
    generalize fR W i L = r1 at *
    generalize fE W i = r2e at *
    generalize fW W i = r3 at *
    generalize fO W i ov = r4 at *
    generalize fL W i L = r5 at *
    clear h3 h3' hok2 hkr hZ
    go_wp2_with fail
    refine HC.out.mono ?_
    rintro e w2 ⟨⟨A2', c2'⟩, rfl, h4r⟩
    have h4 : Holds B w0 w2 (star (rP o.g r3 r4 r5) (star Z (star (rowP 3 1 (.slice A2' r1.length c2') r1.length (ints r1)) (star (blkP w.heap.size 97 x.cs) Q)))) := h4r.perm (by
      show star (star (rowP 3 1 (.slice A2' r1.length c2') r1.length (ints r1)) (rP o.g r3 r4 r5)) _ = _
      ac_rfl)
    have h5 := BK.out w2 (.o r3 r4 r5) (star (rowP 3 1 (.slice A2' r1.length c2') r1.length (ints r1)) (star (blkP w.heap.size 97 x.cs) Q)) (by rw [HST.out]; rfl) h4
    have WA := Lib.hid (wake95 (l := r1) (show Holds B w0 w2 (star (rowP 3 1 (.slice A2' r1.length c2') r1.length (ints r1)) (star (refP b (some ad) c (R.set i r') (O1.set j { o with st := .o r3 r4 r5 })) (star (blkP w.heap.size 97 x.cs) Q))) from h5.perm (by ac_rfl)) SQ.out WL.out (by rw [List.length_set]; exact HRL0.out) (fun u hu => by have := WK.out u hu; rw [HN0.out] at this; rw [List.length_set]; exact this))
    clear h4r h4 h5
    go_wp2_with fail
    refine WA.out.mono ?_
    rintro e w3 ⟨rfl, h6⟩
    have H6 := Lib.hid h6
    clear h6
    go_wp2_with fail
    go_ret2
    refine ⟨O1, j, o, r', HOO.out, HKEY.out, HFS.out, HRL.out, by rw [HST.out, ED.out]; exact HRP.out, by rw [HST.out, ED.out]; rfl, ?_⟩
    rw [HST.out, ED.out]
    have h7 := H6.out.drop
    have h8 : Holds B w0 w3 (star (blkP w.heap.size 97 x.cs) (star (refP b (some ad) c (wakeR (R.set i r') r1) (O1.set j { o with st := .o r3 r4 r5 })) Q)) := h7.perm (by ac_rfl)
    exact h8.drop
end
end Go.Proofs.Ytmohpjkbhpgidaa.A
namespace Go.Proofs.Ytmohpjkbhpgidaa.A
open Go.RowKit Go.Proofs.Ytmohpjkbhpgidaa.U
set_option linter.unusedVariables false
set_option linter.unusedSimpArgs false
set_option maxRecDepth 100000
set_option maxHeartbeats 1600000

section
variable {B : Nat} {w0 w : World} {Q : SP} {b : Nat} {A : Option Addr} {ad : Addr} {c : Nat} {R : List RTk} {O : List RO}
theorem set_same {α : Type} : ∀ {l : List α} {i : Nat} {a : α}, l[i]? = some a → l.set i a = l
  | [], i, a, h => by simp at h
  | y :: l, 0, a, h => by simp at h; subst h; rfl
  | y :: l, i + 1, a, h => by show y :: l.set i a = y :: l; rw [set_same (by simpa using h)]
theorem ref_at3 {i : Nat} {r : RTk} (h : Holds B w0 w (star (refP b (some ad) c R O) Q)) (hl : R.length ≤ 1000000) (hR : R[i]? = some r) : w.cell? ⟨(ad.add (i * 4)).block, (ad.add (i * 4)).off + 3, none⟩ = some r.vr := by
  have hT := ref_tasks h hl
  obtain ⟨ady, ry, hAy, hry, haty⟩ := rt_at hT.src (List.getElem?_eq_some_iff.1 hR).1
  injection hAy with hAy
  subst hAy
  rw [hR] at hry
  injection hry with hry
  subst hry
  exact haty.r
theorem ronce_do {x : Op3} (h : Holds B w0 w (star (refP b (some ad) c R O) Q)) (hQ : Stable Q) (hO : O.length ≤ 1000000) (hR : R.length ≤ 1000000) {k0 n0 : Nat} (hok : ∀ o ∈ O, o.st.ok k0 n0 ∧ mg o.st) (hk0 : k0 ≤ 500000) (hn0 : n0 = R.length) (hk : x.k = 7) (i : Nat) (r : RTk) (hr : R[i]? = some r) (hsm : r.T.small)  :
    Calls Try.prog 96 #[.pointer (some ⟨b, 0, none⟩), .int .i64 i, x.val] w (ROnce B w0 b (some ad) c R O x i r Q) := by
  have D8 : (x.k == 8) = false := by simp [hk]
  have hu := Try.underlying155
  have hu2 := Try.underlying97
  have hu3 := Try.underlying160
  have hu4 := Try.underlying157
  have hf5 := fun a b c d e f w => fld5 a b c d e f w
  have HQ := Lib.hid hQ
  have HOK := Lib.hid hok
  have HK0 := Lib.hid hk0
  have HRL0 := Lib.hid hR
  have HN0 := Lib.hid hn0
  have HXK := Lib.hid hk
  have HSM := Lib.hid hsm
  have HR := Lib.hid hr
  have HO := Lib.hid hO
  have hil := (List.getElem?_eq_some_iff.1 hr).1
  have SQ := Lib.hid (show Stable (star (blkP w.heap.size 97 x.cs) Q) from (blkP_stable _ _ _).star hQ)
  have h1 := h.newBlk ((refP_stable b (some ad) c R O).star hQ) 97 x.cs
  have X1 := blk_at' h1
  have x0 := X1.cell 0
  have x1 := X1.cell 1
  have h2 : Holds B w0 (w.alloc (.cells x.cs 97)) (star (refP b (some ad) c R O) (star (blkP w.heap.size 97 x.cs) Q)) := h1.perm (by ac_rfl)
  have H2 := Lib.hid h2
  have HT := ref_tasks h2 hR
  have c0 := HT.c0
  obtain ⟨ad', r2, hA, hr2, hat⟩ := rt_at HT.src hil
  injection hA with hA
  subst hA
  obtain rfl : r2 = r := by rw [hr] at hr2; injection hr2 with e; exact e.symm
  obtain ⟨A1, c1, A2, c2, hf1, hf2⟩ := HT.form r2 (List.mem_of_getElem? hr)
  have c3 := hat.r
  rw [hf2] at c3
  have OBJ := Lib.hid (fun (X' : World) (hX : Keep Nothing (w.alloc (.cells x.cs 97)) X') => object94_3 (H2.out.kept ((refP_stable _ _ _ _ _).star SQ.out) hX) SQ.out HO.out x.obj)
  clear h hQ hO hR hok hk0 hn0 hk hsm h1 h2 X1 HT hr2 hat hr c3 hf1 hf2
  unfold Op3.val Op3.cs
  go_enter Try.func96, Try.ntmps96
  go_wp2_with fail
  refine (OBJ.out _ kn).mono ?_
  rintro e w1 ⟨O1, j, o, rfl, ho, hkey, hfst, hrel, h2⟩
  have hok2 : o.st.ok k0 n0 ∧ mg o.st := by
    rcases hrel with rfl | ⟨_, h3, _⟩
    · exact HOK.out o (List.mem_of_getElem? ho)
    · rw [h3]; exact ⟨freshR_ok _ _ _, mg_fresh _⟩
  have hkr : kindR o.st = 3 := (Prod.mk.inj hkey).1
  have hcl : o.cl.toArray = #[.int .i64 3, .int .i64 o.num, .pointer none, .pointer none, .pointer none, .pointer (some ⟨o.g, 0, none⟩)] := by unfold RO.cl pAt; rw [hkr]; rfl
  obtain ⟨Z, hZ, h3, back⟩ := ref_ob h2 ho
  have HOO := Lib.hid ho
  have HKEY := Lib.hid hkey
  have HFS := Lib.hid hfst
  have HRL := Lib.hid hrel
  have BK := Lib.hid back
  have OPX := (trivial : True)
  rw [hcl]
  obtain ⟨st, hst⟩ : ∃ st, o.st = st := ⟨_, rfl⟩
  have HST := Lib.hid hst
  rw [hst] at hok2 h3 hkr
  clear ho hkey hfst hrel back h2 hcl hst
  cases st with
  | m h0 who L => exact absurd hkr (by simp [kindR])
  | r W wr L => exact absurd hkr (by simp [kindR])
  | g cn L => exact absurd hkr (by simp [kindR])
  | o W ov L =>
    have h3' : Holds B w0 w1 (star (rP o.g W ov L) (star Z (star (blkP w.heap.size 97 x.cs) Q))) := h3
    have HC := Lib.hid (y_do (x := (i : Int)) h3' (hZ.star SQ.out) (by have := hok2.1.1; have := HK0.out; omega))
    have ED := Lib.hid (show doS (.o W ov L) x i r2.T = ⟨dWait W ov L i, [], dE W L i, .o (dW W ov L i) ov (dL W ov L i), if dE W L i ≠ 0 then r2.T else if dRun W ov L i then r2.T.push x.obj else r2.T.past⟩ by unfold doS; dsimp only; rw [if_neg (by have := HXK.out; omega)])
    have hdw : dE W L i ≠ 0 → dWait W ov L i = false := fun h => by unfold dWait; exact decide_eq_false (fun h' => h h'.1)
    have HDW := Lib.hid hdw
    clear hdw
    generalize dRun W ov L i = s1 at *
    generalize dWait W ov L i = s2 at *
    generalize dE W L i = s3 at *
    generalize dW W ov L i = s4 at *
    generalize dL W ov L i = s5 at *
    clear h3 h3' hok2 hkr
    go_wp2_with fail
    refine HC.out.mono ?_
    rintro e w2 ⟨rfl, h4⟩
    have h5 := BK.out w2 (.o s4 ov s5) (star (blkP w.heap.size 97 x.cs) Q) (by rw [HST.out]; rfl) h4
    have H5 := Lib.hid h5
    have S5 := Lib.hid (show Stable (star (refP b (some ad) c R (O1.set j { o with st := .o s4 ov s5 })) (star (blkP w.heap.size 97 x.cs) Q)) from (refP_stable _ _ _ _ _).star SQ.out)
    clear h4
    rcases Decidable.em (s3 = 0) with q3 | q3
    · have d3 : (s3 != 0) = false := by simp [q3]
      have Q3 := Lib.hid q3
      have hT2 := ref_tasks h5 HRL0.out
      have hil := (List.getElem?_eq_some_iff.1 HR.out).1
      obtain ⟨adz, rz, hAz, hrz, hatz⟩ := rt_at hT2.src hil
      injection hAz with hAz
      subst hAz
      obtain rfl : rz = r2 := by rw [HR.out] at hrz; injection hrz with e; exact e.symm
      obtain ⟨A1z, c1z, A2z, c2z, hf1, hf2⟩ := hT2.form rz (List.mem_of_getElem? HR.out)
      have hin := ref_inner h5 (List.mem_of_getElem? HR.out)
      have c3z := hatz.r
      have c0z := hatz.o
      have c1a := hatz.a
      rw [hf2] at c3z hin
      rw [hf1] at c0z hin
      have XO := blk_at' (show Holds B w0 w2 (star (blkP w.heap.size 97 x.cs) (star (refP b (some ad) c R (O1.set j { o with st := .o s4 ov s5 })) Q)) from h5.perm (by ac_rfl))
      have xo1 := XO.cell 1
      have IN1 := Lib.hid hin.1
      have IN2 := Lib.hid hin.2
      have FV1 := Lib.hid hf1
      have FV2 := Lib.hid hf2
      clear hT2 hil hrz hatz hin h5 q3 hf1 hf2
      cases s1 with
      | true =>
        have c3a := ((Keep.same Nothing w2).alloc (.cells #[.int .i64 x.obj] 3)).cell c3z (fun h => h)
        go_wp2_with fail
        refine wp_region_noPanic ?_
        refine wp_region_held_drew (S := (fun w' => w'.cell? ⟨w.heap.size, 1, none⟩ = some (.int .i64 x.obj))) (by kernel_rfl) xo1 (fun hHeld => ?_)
        refine tk 0 ?_
        (try simp only [pn])
        refine tk 1 ?_
        (try simp only [pn])
        refine tk 2 ?_
        (try simp only [pn])
        refine tk 3 ?_
        (try simp only [pn])
        refine tk 6 ?_
        (try simp only [pn])
        refine tk 7 ?_
        (try simp only [pn])
        refine wpAnyH_ready (rs := [4, 8]) (by kernel_rfl) (by simp) ?_
        refine AllReadyH.cons (o := _) (by simp only [List.getElem?_toArray, List.getElem?_cons_succ, List.getElem?_cons_zero]; rfl) (fun K hK => ?_) (AllReadyH.cons (o := _) (by simp only [List.getElem?_toArray, List.getElem?_cons_succ, List.getElem?_cons_zero]; rfl) (fun K hK => ?_) AllReadyH.nil)
        · go_simp
          refine hK.out _ _ (hHeld) (fun hHeld => ?_)
          clear hK K
          (try simp only [pn])
          refine wpAnyH_ready (rs := [5, 8]) (by kernel_rfl) (by simp) ?_
          refine AllReadyH.cons (o := _) (by simp only [List.getElem?_toArray, List.getElem?_cons_succ, List.getElem?_cons_zero]; rfl) (fun K hK => ?_) (AllReadyH.cons (o := _) (by simp only [List.getElem?_toArray, List.getElem?_cons_succ, List.getElem?_cons_zero]; rfl) (fun K hK => ?_) AllReadyH.nil)
          · refine step_app _ (by rfl) E26 (.const (.slice none 0 0)) (.tmp 87) (by rfl) (Row.nil _ 3 1) (src_keep IN2.out.src kn) c2z (by simp [Act.eval, Act.put]) (by simp [Act.eval, Act.put]) (ints_one _) (by have := HSM.out.runs; unfold maxLen; omega) (by have := HSM.out.runs; omega) ?_
            intro A5 c5 w5 hr5 hg5 hl5
            have K5 := ((Keep.same Nothing _).grown hg5 (fun i hi => .inr (by simp [Value.ownBlock] at hi)))
            have KW5 : Keep Nothing w2 w5 := Keep.then kn K5
            have N5 := Lib.hid (H5.out.newRow S5.out hr5 KW5 (fun k hk => by
              rcases hl5 with h | h
              · rw [h] at hk; simp [Value.ownBlock] at hk
              · rw [h] at hk; injection hk with hk; rw [← hk]; simp))
            have xo5 : (fun w' => w'.cell? ⟨w.heap.size, 1, none⟩ = some (.int .i64 x.obj)) w5 := KW5.cell xo1 (fun h => h)
            clear hr5 hg5 hl5 K5 KW5
            refine hK.out _ _ xo5 (fun hHeld => ?_)
            clear hK K xo5
            (try simp only [pn])
            refine rd 8 (fun K hK => ?_)
            go_simp
            refine hK.out _ _ (((Keep.same Nothing _).alloc _).cell hHeld (fun h => h)) (fun hHeld => ?_)
            clear hK K
            (try simp only [pn])
            refine rd 9 (fun K hK => ?_)
            have M5 := Lib.hid (N5.out.alloc ((rowP_stable _ _ _ _ _).star S5.out) (.cells #[.int .i64 x.obj] 3))
            have SR5 := Lib.hid (U.Src.one w5 (.int .i64 x.obj) 3)
            refine step_app _ (by rfl) E26 (.tmp 88) (.tmp 91) (by rfl) (M5.out.kept ((rowP_stable _ _ _ _ _).star S5.out) kn).row (src_keep SR5.out kn) 1 (by simp [Act.eval, Act.put]) (by simp [Act.eval, Act.put]) (by simp [Value.oneCell']) (by have := HSM.out.runs; unfold maxLen; omega) (by have := HSM.out.runs; omega) ?_
            intro A9 c9 w9 hr9 hg9 hl9
            have N7 := Holds.grew (M5.out.kept ((rowP_stable _ _ _ _ _).star S5.out) kn) S5.out hr9 hg9 hl9
            have en : 0 + rz.T.runs.length + 1 = (rz.T.push x.obj).runs.length := by simp [Tk.push]
            have ei : [] ++ ints rz.T.runs ++ [.int .i64 x.obj] = ints (rz.T.push x.obj).runs := by simp [Tk.push, ints]
            rw [en, ei] at N7
            obtain ⟨r3, hr3⟩ : ∃ r3 : RTk, r3 = ⟨rz.T.push x.obj, rz.vo, .slice A9 (rz.T.push x.obj).runs.length c9⟩ := ⟨_, rfl⟩
            have k1 : Holds B w0 w9 (star (refP b (some ad) c R (O1.set j { o with st := .o s4 ov s5 })) (star (rowP 3 1 (.slice A9 (rz.T.push x.obj).runs.length c9) (rz.T.push x.obj).runs.length (ints (rz.T.push x.obj).runs)) (star (blkP w.heap.size 97 x.cs) Q))) := N7.perm (by ac_rfl)
            obtain ⟨Z9, hZ9, k2, back9⟩ := ref_task k1 HR.out
            have hil := (List.getElem?_eq_some_iff.1 HR.out).1
            have hlt9 : i * 4 + 3 < R.length * 4 := by omega
            have cz := (ref_at3 k1 HRL0.out HR.out)
            have fz := (Row.put1 k2.row hlt9 (.slice A9 (rz.T.push x.obj).runs.length c9)).2.1
            rw [addLater ad (i * 4) 3 (by omega)] at fz
            have k3 := Holds.rowPut k2 ((rtI_stable rz).star (hZ9.star ((rowP_stable _ _ _ _ _).star SQ.out))) hlt9 (.slice A9 (rz.T.push x.obj).runs.length c9)
            rw [rtV_set HR.out (r' := r3) (by omega) (by rw [hr3]; rfl), addLater ad (i * 4) 3 (by omega)] at k3
            have k4 : Holds B w0 _ (star (rowP 3 1 rz.vr rz.T.runs.length (ints rz.T.runs)) (star (rowP 157 4 (.slice (some ad) R.length c) R.length (rtV (R.set i r3))) (star (rtI r3) (star Z9 (star (blkP w.heap.size 97 x.cs) Q))))) := k3.perm (by
              rw [hr3]
              show star _ (star (star (rowP 97 3 rz.vo rz.T.ops.length (opsV rz.T.ops)) (rowP 3 1 rz.vr rz.T.runs.length (ints rz.T.runs))) (star Z9 (star (rowP 3 1 (.slice A9 (rz.T.push x.obj).runs.length c9) (rz.T.push x.obj).runs.length (ints (rz.T.push x.obj).runs)) (star (blkP w.heap.size 97 x.cs) Q)))) = star _ (star _ (star (star (rowP 97 3 rz.vo rz.T.ops.length (opsV rz.T.ops)) (rowP 3 1 (.slice A9 (rz.T.push x.obj).runs.length c9) (rz.T.push x.obj).runs.length (ints (rz.T.push x.obj).runs))) _))
              ac_rfl)
            have k5 := back9 _ r3 (star (blkP w.heap.size 97 x.cs) Q) k4.drop
            have K5 := Lib.hid k5
            have X9 := blk_at' (show Holds B w0 w9 (star (blkP w.heap.size 97 x.cs) (star (refP b (some ad) c R (O1.set j { o with st := .o s4 ov s5 })) (star (rowP 3 1 (.slice A9 (rz.T.push x.obj).runs.length c9) (rz.T.push x.obj).runs.length (ints (rz.T.push x.obj).runs)) Q))) from N7.perm (by ac_rfl))
            have xo9 : (fun w' => w'.cell? ⟨w.heap.size, 1, none⟩ = some (.int .i64 x.obj)) w9 := X9.cell 1
            have X10 := blk_at' (show Holds B w0 (w9.setCell ⟨(ad.add (i * 4)).block, (ad.add (i * 4)).off + 3, none⟩ (.slice A9 (rz.T.push x.obj).runs.length c9)) (star (blkP w.heap.size 97 x.cs) (star (refP b (some ad) c (R.set i r3) (O1.set j { o with st := .o s4 ov s5 })) Q)) from k5.perm (by ac_rfl))
            have xo10 : (fun w' => w'.cell? ⟨w.heap.size, 1, none⟩ = some (.int .i64 x.obj)) (w9.setCell ⟨(ad.add (i * 4)).block, (ad.add (i * 4)).off + 3, none⟩ (.slice A9 (rz.T.push x.obj).runs.length c9)) := X10.cell 1
            have HR3 := Lib.hid (show r3.T = rz.T.push x.obj by rw [hr3])
            have en2 : 0 + rz.T.runs.length + 1 = (rz.T.push x.obj).runs.length := en
            rw [en2]
            clear N7 k1 k2 k3 k4 k5 hil hlt9 X9 X10 hr3 hZ9 back9 hr9 hg9 hl9 en ei en2
            refine hK.out _ _ xo9 (fun hHeld => ?_)
            clear hK K xo9
            (try simp only [pn])
            refine tk 10 ?_
            (try simp only [pn])
            refine tk 11 ?_
            (try simp only [pn])
            refine rd 12 (fun K hK => ?_)
            go_simp
            refine hK.out _ _ (xo10) (fun hHeld => ?_)
            clear hK K
            (try simp only [pn])
            refine wpAnyH_done (by kernel_rfl) ?_ _
            refine NoPanic.normal ?_
            clear xo10 cz fz
            go_wp2_with fail
            go_ret2
            refine ⟨O1, j, o, r3, HOO.out, HKEY.out, HFS.out, HRL.out, by rw [HST.out, ED.out]; exact HR3.out.trans (by rw [if_neg (fun h => h Q3.out)]; simp), by rw [HST.out, ED.out, Q3.out]; rfl, ?_⟩
            rw [HST.out, ED.out]
            have h8 : Holds B w0 _ (star (blkP w.heap.size 97 x.cs) (star (refP b (some ad) c (R.set i r3) (O1.set j { o with st := .o s4 ov s5 })) Q)) := K5.out.perm (by ac_rfl)
            exact h8.drop
          · go_simp
            refine hK.out _ _ (((Keep.same Nothing _).alloc _).cell hHeld (fun h => h)) (fun hHeld => ?_)
            clear hK K
            (try simp only [pn])
            refine rd 5 (fun K hK => ?_)
            refine step_app _ (by rfl) E26 (.const (.slice none 0 0)) (.tmp 87) (by rfl) (Row.nil _ 3 1) (src_keep IN2.out.src kn) c2z (by simp [Act.eval, Act.put]) (by simp [Act.eval, Act.put]) (ints_one _) (by have := HSM.out.runs; unfold maxLen; omega) (by have := HSM.out.runs; omega) ?_
            intro A5 c5 w5 hr5 hg5 hl5
            have K5 := ((Keep.same Nothing _).grown hg5 (fun i hi => .inr (by simp [Value.ownBlock] at hi)))
            have KW5 : Keep Nothing w2 w5 := Keep.then kn K5
            have N5 := Lib.hid (H5.out.newRow S5.out hr5 KW5 (fun k hk => by
              rcases hl5 with h | h
              · rw [h] at hk; simp [Value.ownBlock] at hk
              · rw [h] at hk; injection hk with hk; rw [← hk]; simp))
            have SR5 := Lib.hid (src_keep (U.Src.one w2 (.int .i64 x.obj) 3) (show Keep Nothing (w2.alloc (.cells #[.int .i64 x.obj] 3)) w5 from Keep.then kn K5))
            have xo5 : (fun w' => w'.cell? ⟨w.heap.size, 1, none⟩ = some (.int .i64 x.obj)) w5 := KW5.cell xo1 (fun h => h)
            clear hr5 hg5 hl5 K5 KW5
            refine hK.out _ _ xo5 (fun hHeld => ?_)
            clear hK K xo5
            (try simp only [pn])
            refine rd 9 (fun K hK => ?_)
            have M5 := N5
            refine step_app _ (by rfl) E26 (.tmp 88) (.tmp 91) (by rfl) (M5.out.kept ((rowP_stable _ _ _ _ _).star S5.out) kn).row (src_keep SR5.out kn) 1 (by simp [Act.eval, Act.put]) (by simp [Act.eval, Act.put]) (by simp [Value.oneCell']) (by have := HSM.out.runs; unfold maxLen; omega) (by have := HSM.out.runs; omega) ?_
            intro A9 c9 w9 hr9 hg9 hl9
            have N7 := Holds.grew (M5.out.kept ((rowP_stable _ _ _ _ _).star S5.out) kn) S5.out hr9 hg9 hl9
            have en : 0 + rz.T.runs.length + 1 = (rz.T.push x.obj).runs.length := by simp [Tk.push]
            have ei : [] ++ ints rz.T.runs ++ [.int .i64 x.obj] = ints (rz.T.push x.obj).runs := by simp [Tk.push, ints]
            rw [en, ei] at N7
            obtain ⟨r3, hr3⟩ : ∃ r3 : RTk, r3 = ⟨rz.T.push x.obj, rz.vo, .slice A9 (rz.T.push x.obj).runs.length c9⟩ := ⟨_, rfl⟩
            have k1 : Holds B w0 w9 (star (refP b (some ad) c R (O1.set j { o with st := .o s4 ov s5 })) (star (rowP 3 1 (.slice A9 (rz.T.push x.obj).runs.length c9) (rz.T.push x.obj).runs.length (ints (rz.T.push x.obj).runs)) (star (blkP w.heap.size 97 x.cs) Q))) := N7.perm (by ac_rfl)
            obtain ⟨Z9, hZ9, k2, back9⟩ := ref_task k1 HR.out
            have hil := (List.getElem?_eq_some_iff.1 HR.out).1
            have hlt9 : i * 4 + 3 < R.length * 4 := by omega
            have cz := (ref_at3 k1 HRL0.out HR.out)
            have fz := (Row.put1 k2.row hlt9 (.slice A9 (rz.T.push x.obj).runs.length c9)).2.1
            rw [addLater ad (i * 4) 3 (by omega)] at fz
            have k3 := Holds.rowPut k2 ((rtI_stable rz).star (hZ9.star ((rowP_stable _ _ _ _ _).star SQ.out))) hlt9 (.slice A9 (rz.T.push x.obj).runs.length c9)
            rw [rtV_set HR.out (r' := r3) (by omega) (by rw [hr3]; rfl), addLater ad (i * 4) 3 (by omega)] at k3
            have k4 : Holds B w0 _ (star (rowP 3 1 rz.vr rz.T.runs.length (ints rz.T.runs)) (star (rowP 157 4 (.slice (some ad) R.length c) R.length (rtV (R.set i r3))) (star (rtI r3) (star Z9 (star (blkP w.heap.size 97 x.cs) Q))))) := k3.perm (by
              rw [hr3]
              show star _ (star (star (rowP 97 3 rz.vo rz.T.ops.length (opsV rz.T.ops)) (rowP 3 1 rz.vr rz.T.runs.length (ints rz.T.runs))) (star Z9 (star (rowP 3 1 (.slice A9 (rz.T.push x.obj).runs.length c9) (rz.T.push x.obj).runs.length (ints (rz.T.push x.obj).runs)) (star (blkP w.heap.size 97 x.cs) Q)))) = star _ (star _ (star (star (rowP 97 3 rz.vo rz.T.ops.length (opsV rz.T.ops)) (rowP 3 1 (.slice A9 (rz.T.push x.obj).runs.length c9) (rz.T.push x.obj).runs.length (ints (rz.T.push x.obj).runs))) _))
              ac_rfl)
            have k5 := back9 _ r3 (star (blkP w.heap.size 97 x.cs) Q) k4.drop
            have K5 := Lib.hid k5
            have X9 := blk_at' (show Holds B w0 w9 (star (blkP w.heap.size 97 x.cs) (star (refP b (some ad) c R (O1.set j { o with st := .o s4 ov s5 })) (star (rowP 3 1 (.slice A9 (rz.T.push x.obj).runs.length c9) (rz.T.push x.obj).runs.length (ints (rz.T.push x.obj).runs)) Q))) from N7.perm (by ac_rfl))
            have xo9 : (fun w' => w'.cell? ⟨w.heap.size, 1, none⟩ = some (.int .i64 x.obj)) w9 := X9.cell 1
            have X10 := blk_at' (show Holds B w0 (w9.setCell ⟨(ad.add (i * 4)).block, (ad.add (i * 4)).off + 3, none⟩ (.slice A9 (rz.T.push x.obj).runs.length c9)) (star (blkP w.heap.size 97 x.cs) (star (refP b (some ad) c (R.set i r3) (O1.set j { o with st := .o s4 ov s5 })) Q)) from k5.perm (by ac_rfl))
            have xo10 : (fun w' => w'.cell? ⟨w.heap.size, 1, none⟩ = some (.int .i64 x.obj)) (w9.setCell ⟨(ad.add (i * 4)).block, (ad.add (i * 4)).off + 3, none⟩ (.slice A9 (rz.T.push x.obj).runs.length c9)) := X10.cell 1
            have HR3 := Lib.hid (show r3.T = rz.T.push x.obj by rw [hr3])
            have en2 : 0 + rz.T.runs.length + 1 = (rz.T.push x.obj).runs.length := en
            rw [en2]
            clear N7 k1 k2 k3 k4 k5 hil hlt9 X9 X10 hr3 hZ9 back9 hr9 hg9 hl9 en ei en2
            refine hK.out _ _ xo9 (fun hHeld => ?_)
            clear hK K xo9
            (try simp only [pn])
            refine tk 10 ?_
            (try simp only [pn])
            refine tk 11 ?_
            (try simp only [pn])
            refine rd 12 (fun K hK => ?_)
            go_simp
            refine hK.out _ _ (xo10) (fun hHeld => ?_)
            clear hK K
            (try simp only [pn])
            refine wpAnyH_done (by kernel_rfl) ?_ _
            refine NoPanic.normal ?_
            clear xo10 cz fz
            go_wp2_with fail
            go_ret2
            refine ⟨O1, j, o, r3, HOO.out, HKEY.out, HFS.out, HRL.out, by rw [HST.out, ED.out]; exact HR3.out.trans (by rw [if_neg (fun h => h Q3.out)]; simp), by rw [HST.out, ED.out, Q3.out]; rfl, ?_⟩
            rw [HST.out, ED.out]
            have h8 : Holds B w0 _ (star (blkP w.heap.size 97 x.cs) (star (refP b (some ad) c (R.set i r3) (O1.set j { o with st := .o s4 ov s5 })) Q)) := K5.out.perm (by ac_rfl)
            exact h8.drop
        · go_simp
          refine hK.out _ _ (((Keep.same Nothing _).alloc _).cell hHeld (fun h => h)) (fun hHeld => ?_)
          clear hK K
          (try simp only [pn])
          refine rd 4 (fun K hK => ?_)
          go_simp
          refine hK.out _ _ (hHeld) (fun hHeld => ?_)
          clear hK K
          (try simp only [pn])
          refine rd 5 (fun K hK => ?_)
          refine step_app _ (by rfl) E26 (.const (.slice none 0 0)) (.tmp 87) (by rfl) (Row.nil _ 3 1) (src_keep IN2.out.src kn) c2z (by simp [Act.eval, Act.put]) (by simp [Act.eval, Act.put]) (ints_one _) (by have := HSM.out.runs; unfold maxLen; omega) (by have := HSM.out.runs; omega) ?_
          intro A5 c5 w5 hr5 hg5 hl5
          have K5 := ((Keep.same Nothing _).grown hg5 (fun i hi => .inr (by simp [Value.ownBlock] at hi)))
          have KW5 : Keep Nothing w2 w5 := Keep.then kn K5
          have N5 := Lib.hid (H5.out.newRow S5.out hr5 KW5 (fun k hk => by
            rcases hl5 with h | h
            · rw [h] at hk; simp [Value.ownBlock] at hk
            · rw [h] at hk; injection hk with hk; rw [← hk]; simp))
          have SR5 := Lib.hid (src_keep (U.Src.one w2 (.int .i64 x.obj) 3) (show Keep Nothing (w2.alloc (.cells #[.int .i64 x.obj] 3)) w5 from Keep.then kn K5))
          have xo5 : (fun w' => w'.cell? ⟨w.heap.size, 1, none⟩ = some (.int .i64 x.obj)) w5 := KW5.cell xo1 (fun h => h)
          clear hr5 hg5 hl5 K5 KW5
          refine hK.out _ _ xo5 (fun hHeld => ?_)
          clear hK K xo5
          (try simp only [pn])
          refine rd 9 (fun K hK => ?_)
          have M5 := N5
          refine step_app _ (by rfl) E26 (.tmp 88) (.tmp 91) (by rfl) (M5.out.kept ((rowP_stable _ _ _ _ _).star S5.out) kn).row (src_keep SR5.out kn) 1 (by simp [Act.eval, Act.put]) (by simp [Act.eval, Act.put]) (by simp [Value.oneCell']) (by have := HSM.out.runs; unfold maxLen; omega) (by have := HSM.out.runs; omega) ?_
          intro A9 c9 w9 hr9 hg9 hl9
          have N7 := Holds.grew (M5.out.kept ((rowP_stable _ _ _ _ _).star S5.out) kn) S5.out hr9 hg9 hl9
          have en : 0 + rz.T.runs.length + 1 = (rz.T.push x.obj).runs.length := by simp [Tk.push]
          have ei : [] ++ ints rz.T.runs ++ [.int .i64 x.obj] = ints (rz.T.push x.obj).runs := by simp [Tk.push, ints]
          rw [en, ei] at N7
          obtain ⟨r3, hr3⟩ : ∃ r3 : RTk, r3 = ⟨rz.T.push x.obj, rz.vo, .slice A9 (rz.T.push x.obj).runs.length c9⟩ := ⟨_, rfl⟩
          have k1 : Holds B w0 w9 (star (refP b (some ad) c R (O1.set j { o with st := .o s4 ov s5 })) (star (rowP 3 1 (.slice A9 (rz.T.push x.obj).runs.length c9) (rz.T.push x.obj).runs.length (ints (rz.T.push x.obj).runs)) (star (blkP w.heap.size 97 x.cs) Q))) := N7.perm (by ac_rfl)
          obtain ⟨Z9, hZ9, k2, back9⟩ := ref_task k1 HR.out
          have hil := (List.getElem?_eq_some_iff.1 HR.out).1
          have hlt9 : i * 4 + 3 < R.length * 4 := by omega
          have cz := (ref_at3 k1 HRL0.out HR.out)
          have fz := (Row.put1 k2.row hlt9 (.slice A9 (rz.T.push x.obj).runs.length c9)).2.1
          rw [addLater ad (i * 4) 3 (by omega)] at fz
          have k3 := Holds.rowPut k2 ((rtI_stable rz).star (hZ9.star ((rowP_stable _ _ _ _ _).star SQ.out))) hlt9 (.slice A9 (rz.T.push x.obj).runs.length c9)
          rw [rtV_set HR.out (r' := r3) (by omega) (by rw [hr3]; rfl), addLater ad (i * 4) 3 (by omega)] at k3
          have k4 : Holds B w0 _ (star (rowP 3 1 rz.vr rz.T.runs.length (ints rz.T.runs)) (star (rowP 157 4 (.slice (some ad) R.length c) R.length (rtV (R.set i r3))) (star (rtI r3) (star Z9 (star (blkP w.heap.size 97 x.cs) Q))))) := k3.perm (by
            rw [hr3]
            show star _ (star (star (rowP 97 3 rz.vo rz.T.ops.length (opsV rz.T.ops)) (rowP 3 1 rz.vr rz.T.runs.length (ints rz.T.runs))) (star Z9 (star (rowP 3 1 (.slice A9 (rz.T.push x.obj).runs.length c9) (rz.T.push x.obj).runs.length (ints (rz.T.push x.obj).runs)) (star (blkP w.heap.size 97 x.cs) Q)))) = star _ (star _ (star (star (rowP 97 3 rz.vo rz.T.ops.length (opsV rz.T.ops)) (rowP 3 1 (.slice A9 (rz.T.push x.obj).runs.length c9) (rz.T.push x.obj).runs.length (ints (rz.T.push x.obj).runs))) _))
            ac_rfl)
          have k5 := back9 _ r3 (star (blkP w.heap.size 97 x.cs) Q) k4.drop
          have K5 := Lib.hid k5
          have X9 := blk_at' (show Holds B w0 w9 (star (blkP w.heap.size 97 x.cs) (star (refP b (some ad) c R (O1.set j { o with st := .o s4 ov s5 })) (star (rowP 3 1 (.slice A9 (rz.T.push x.obj).runs.length c9) (rz.T.push x.obj).runs.length (ints (rz.T.push x.obj).runs)) Q))) from N7.perm (by ac_rfl))
          have xo9 : (fun w' => w'.cell? ⟨w.heap.size, 1, none⟩ = some (.int .i64 x.obj)) w9 := X9.cell 1
          have X10 := blk_at' (show Holds B w0 (w9.setCell ⟨(ad.add (i * 4)).block, (ad.add (i * 4)).off + 3, none⟩ (.slice A9 (rz.T.push x.obj).runs.length c9)) (star (blkP w.heap.size 97 x.cs) (star (refP b (some ad) c (R.set i r3) (O1.set j { o with st := .o s4 ov s5 })) Q)) from k5.perm (by ac_rfl))
          have xo10 : (fun w' => w'.cell? ⟨w.heap.size, 1, none⟩ = some (.int .i64 x.obj)) (w9.setCell ⟨(ad.add (i * 4)).block, (ad.add (i * 4)).off + 3, none⟩ (.slice A9 (rz.T.push x.obj).runs.length c9)) := X10.cell 1
          have HR3 := Lib.hid (show r3.T = rz.T.push x.obj by rw [hr3])
          have en2 : 0 + rz.T.runs.length + 1 = (rz.T.push x.obj).runs.length := en
          rw [en2]
          clear N7 k1 k2 k3 k4 k5 hil hlt9 X9 X10 hr3 hZ9 back9 hr9 hg9 hl9 en ei en2
          refine hK.out _ _ xo9 (fun hHeld => ?_)
          clear hK K xo9
          (try simp only [pn])
          refine tk 10 ?_
          (try simp only [pn])
          refine tk 11 ?_
          (try simp only [pn])
          refine rd 12 (fun K hK => ?_)
          go_simp
          refine hK.out _ _ (xo10) (fun hHeld => ?_)
          clear hK K
          (try simp only [pn])
          refine wpAnyH_done (by kernel_rfl) ?_ _
          refine NoPanic.normal ?_
          clear xo10 cz fz
          go_wp2_with fail
          go_ret2
          refine ⟨O1, j, o, r3, HOO.out, HKEY.out, HFS.out, HRL.out, by rw [HST.out, ED.out]; exact HR3.out.trans (by rw [if_neg (fun h => h Q3.out)]; simp), by rw [HST.out, ED.out, Q3.out]; rfl, ?_⟩
          rw [HST.out, ED.out]
          have h8 : Holds B w0 _ (star (blkP w.heap.size 97 x.cs) (star (refP b (some ad) c (R.set i r3) (O1.set j { o with st := .o s4 ov s5 })) Q)) := K5.out.perm (by ac_rfl)
          exact h8.drop
      | false =>
        have PA := Lib.hid (fun (X' : World) (hX : Keep Nothing w2 X') => past109 X' A1z rz.T.ops.length c1z rz.T.at_ rz.T.ops (src_keep IN1.out.src hX) HSM.out.ops HSM.out.at_)
        go_wp2_with fail
        refine wp_region_noPanic ?_
        refine wp_region_held_drew (S := (fun w' => w'.cell? (ad.add (i * 4)) = some (.slice A1z rz.T.ops.length c1z))) (by kernel_rfl) c0z (fun hHeld => ?_)
        refine tk 0 ?_
        (try simp only [pn])
        refine tk 1 ?_
        (try simp only [pn])
        refine tk 2 ?_
        (try simp only [pn])
        refine tk 3 ?_
        (try simp only [pn])
        refine tk 4 ?_
        (try simp only [pn])
        refine tk 5 ?_
        (try simp only [pn])
        refine tk 6 ?_
        (try simp only [pn])
        refine tk 7 ?_
        (try simp only [pn])
        refine rd 8 (fun K hK => ?_)
        go_simp
        refine hK.out _ _ (hHeld) (fun hHeld => ?_)
        clear hK K
        (try simp only [pn])
        refine rd 9 (fun K hK => ?_)
        go_simp
        refine (PA.out _ kn).mono ?_
        rintro e w6 ⟨rfl, hk6⟩
        have KW6 : Keep Nothing w2 w6 := Keep.then kn hk6
        have h6 := H5.out.kept S5.out KW6
        have c6 : (fun w' => w'.cell? (ad.add (i * 4)) = some (.slice A1z rz.T.ops.length c1z)) w6 := KW6.cell c0z (fun h => h)
        obtain ⟨r3, hr3⟩ : ∃ r3 : RTk, r3 = { rz with T := rz.T.past } := ⟨_, rfl⟩
        obtain ⟨fz, h7⟩ := ref_set h6 SQ.out HR.out (r' := r3) (j := 1) (by omega) (by omega) (u := .int .i64 (rz.T.at_ + pastL 1 (rz.T.ops.drop rz.T.at_) : Nat)) (by rw [hr3]; rfl) (by rw [hr3]; rfl)
        have ca := KW6.cell c1a (fun h => h)
        have H7 := Lib.hid h7
        have hT7 := ref_tasks h7 (by rw [List.length_set]; exact HRL0.out)
        have hil := (List.getElem?_eq_some_iff.1 HR.out).1
        have c7 : (fun w' => w'.cell? (ad.add (i * 4)) = some (.slice A1z rz.T.ops.length c1z)) (w6.setCell ⟨(ad.add (i * 4)).block, (ad.add (i * 4)).off + 1, none⟩ (.int .i64 (rz.T.at_ + pastL 1 (rz.T.ops.drop rz.T.at_) : Nat))) := by
          obtain ⟨ady, ry, hAy, hry, haty⟩ := rt_at hT7.src (show i < (R.set i r3).length by rw [List.length_set]; exact hil)
          injection hAy with hAy
          subst hAy
          rw [List.getElem?_set, if_pos rfl, if_pos hil] at hry
          injection hry with hry
          have := haty.o
          rw [← hry, hr3] at this
          rw [this]
          show some rz.vo = _
          rw [FV1.out]
        have HR3 := Lib.hid (show r3.T = rz.T.past by rw [hr3])
        clear hk6 KW6 h6 h7 hT7 hil hr3
        (try go_wp2_with fail)
        refine hK.out _ _ c6 (fun hHeld => ?_)
        clear hK K c6
        (try simp only [pn])
        refine tk 10 ?_
        (try simp only [pn])
        refine tk 11 ?_
        (try simp only [pn])
        refine rd 12 (fun K hK => ?_)
        go_simp
        refine hK.out _ _ (c7) (fun hHeld => ?_)
        clear hK K
        (try simp only [pn])
        refine wpAnyH_done (by kernel_rfl) ?_ _
        refine NoPanic.normal ?_
        clear c7 ca fz
        go_wp2_with fail
        go_ret2
        refine ⟨O1, j, o, r3, HOO.out, HKEY.out, HFS.out, HRL.out, by rw [HST.out, ED.out]; exact HR3.out.trans (by rw [if_neg (fun h => h Q3.out), if_neg (by simp)]), by rw [HST.out, ED.out, Q3.out]; rfl, ?_⟩
        rw [HST.out, ED.out]
        have h8 : Holds B w0 _ (star (blkP w.heap.size 97 x.cs) (star (refP b (some ad) c (R.set i r3) (O1.set j { o with st := .o s4 ov s5 })) Q)) := H7.out.perm (by ac_rfl)
        exact h8.drop
    · have d3 : (s3 != 0) = true := by simp [q3]
      have E2 := Lib.hid (HDW.out q3)
      have Q3 := Lib.hid q3
      clear q3 h5
      go_wp2_with fail
      go_ret2
      refine ⟨O1, j, o, r2, HOO.out, HKEY.out, HFS.out, HRL.out, by rw [HST.out, ED.out]; exact (if_pos Q3.out).symm, by rw [HST.out, ED.out, E2.out]; rfl, ?_⟩
      rw [HST.out, ED.out]
      show Holds B w0 _ (star (refP b (some ad) c (R.set i r2) (O1.set j { o with st := .o s4 ov s5 })) Q)
      rw [show R.set i r2 = R from set_same HR.out]
      have h8 : Holds B w0 w2 (star (blkP w.heap.size 97 x.cs) (star (refP b (some ad) c R (O1.set j { o with st := .o s4 ov s5 })) Q)) := H5.out.perm (by ac_rfl)
      exact h8.drop
end
end Go.Proofs.Ytmohpjkbhpgidaa.A
