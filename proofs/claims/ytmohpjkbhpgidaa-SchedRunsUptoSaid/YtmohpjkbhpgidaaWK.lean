/-
  The reference's scheduler: Step at a group. Printed by gen_wa.py.
-/
import Derived.Test.YtmohpjkbhpgidaaWI
import Derived.Test.YtmohpjkbhpgidaaWB
namespace Go.Proofs.Ytmohpjkbhpgidaa.A
open Go.RowKit Go.Proofs.Ytmohpjkbhpgidaa.U
set_option linter.unusedVariables false
set_option linter.unusedSimpArgs false
set_option maxRecDepth 100000
set_option maxHeartbeats 1600000

theorem ready_lt' {t : Tk} (h : t.ready = true) : t.blk = false ∧ t.at_ < t.ops.length := by
  unfold Tk.ready at h
  simpa using h
section
variable {B : Nat} {w0 w : World} {Q : SP} {b : Nat} {A : Option Addr} {ad : Addr} {c : Nat} {R : List RTk} {O : List RO}
/-- What a call answers that may block task i: P tells of the answer, and of what is left. -/
def RA (B : Nat) (w0 : World) (b : Nat) (A : Option Addr) (c : Nat) (n : Nat) (P : Bool → Int → List RTk → List RO → Prop) (Q : SP) (e : Ending) (w' : World) : Prop :=
  ∃ (wait : Bool) (er : Int) (R' : List RTk) (O' : List RO), P wait er R' O' ∧ R'.length = n ∧ e = .returned (.tuple #[.bool wait, .int .i64 er]) ∧ Holds B w0 w' (star (refP b A c R' O') Q)
def RTk.next (r : RTk) : RTk := { r with T := r.T.next }
def RTk.block (r : RTk) (v : Bool) : RTk := { r with T := { r.T with blk := v } }
/-- What a step makes. -/
def RSt (B : Nat) (w0 : World) (b : Nat) (A : Option Addr) (c : Nat) (n i a : Nat) (P : Bool → Int → List RTk → List RO → Prop) (Q : SP) (e : Ending) (w' : World) : Prop :=
  ∃ (wait : Bool) (er : Int) (R' : List RTk) (O' : List RO) (r' : RTk), P wait er R' O' ∧ R'.length = n ∧ R'[i]? = some r' ∧ e = .returned (.tuple #[.agg #[.int .i64 i, .int .i64 a, .int .i64 er], .int .i64 0]) ∧ Holds B w0 w' (star (refP b A c (R'.set i (r'.block (wait && er == 0))) O') Q)
theorem rstep_no (h : Holds B w0 w (star (refP b A c R O) Q)) (hQ : Stable Q) (hR : R.length ≤ 1000000) (i : Int) (hr : rdy R i = false) :
    Calls Try.prog 65 #[.pointer (some ⟨b, 0, none⟩), .int .i64 i] w (fun e w' => e = .returned (.tuple #[.agg #[.int .i64 0, .int .i64 0, .int .i64 0], .int .i64 1]) ∧ Holds B w0 w' (star (refP b A c R O) Q)) := by
  have hu3 := Try.underlying103
  have S0 := Lib.hid (show Stable (star (refP b A c R O) Q) from (refP_stable _ _ _ _ _).star hQ)
  have h1 := h.newBlk S0.out 103 #[.int .i64 0, .int .i64 0, .int .i64 0]
  have h2 : Holds B w0 (w.alloc (.cells #[.int .i64 0, .int .i64 0, .int .i64 0] 103)) (star (refP b A c R O) (star (blkP w.heap.size 103 #[.int .i64 0, .int .i64 0, .int .i64 0]) Q)) := h1.perm (by ac_rfl)
  have H1 := Lib.hid h1
  have RD := ready93 _ b R A c (ref_tasks h2 hR) i
  rw [hr] at RD
  have RD := Lib.hid RD
  clear h hQ h1 h2 hr
  go_enter Try.func65, Try.ntmps65
  go_wp2_with fail
  refine RD.out.mono ?_
  rintro e w1 ⟨rfl, hk1⟩
  have h3 := H1.out.kept ((blkP_stable _ _ _).star S0.out) hk1
  obtain ⟨a0, n0, a1, n1, a2, n2, q0, q1, q2, p0, p1⟩ := store3 (blk_at' h3) (.int .i64 0) (.int .i64 0) (.int .i64 0)
  have H4 := Lib.hid (held3 h3 S0.out (.int .i64 0) (.int .i64 0) (.int .i64 0))
  clear h3 hk1
  go_wp2_with fail
  refine bodyPost_ret (v := .tuple #[.agg #[.int .i64 0, .int .i64 0, .int .i64 0], .int .i64 1]) (by simp [results, Try.results65, go_sem, hu3, q0, q1, q2]) rfl ?_
  exact ⟨rfl, H4.out.drop⟩
theorem rstep_y {x : Op3} (h : Holds B w0 w (star (refP b A c R O) Q)) (hQ : Stable Q) (hR : R.length ≤ 1000000) (i : Nat) (r : RTk) (hr : R[i]? = some r) (hrd : r.T.ready = true) (hx : r.T.ops[r.T.at_]? = some x) (hops : r.T.ops.length ≤ 1000000) (P : Bool → Int → List RTk → List RO → Prop) (hk : x.k = 9) (hP : P false 0 (R.set i r.next) O) :
    Calls Try.prog 65 #[.pointer (some ⟨b, 0, none⟩), .int .i64 i] w (RSt B w0 b A c R.length i r.T.at_ P Q) := by
  have hu := Try.underlying155
  have hu2 := Try.underlying97
  have hu3 := Try.underlying103
  have hu4 := Try.underlying157
  have hu5 := Try.underlying160
  have hf4 := fun a b c d e f w => fld4 a b c d e f w
  have HQ := Lib.hid hQ
  have HRL0 := Lib.hid hR
  have HR := Lib.hid hr
  have HX := Lib.hid hx
  have HOP := Lib.hid hops
  have HRD := Lib.hid hrd
  have HPP := Lib.hid hP
  have S0 := Lib.hid (show Stable (star (refP b A c R O) Q) from (refP_stable _ _ _ _ _).star hQ)
  have h1 := h.newBlk S0.out 103 #[.int .i64 0, .int .i64 0, .int .i64 0]
  have h2 : Holds B w0 (w.alloc (.cells #[.int .i64 0, .int .i64 0, .int .i64 0] 103)) (star (refP b A c R O) (star (blkP w.heap.size 103 #[.int .i64 0, .int .i64 0, .int .i64 0]) Q)) := h1.perm (by ac_rfl)
  have SR := Lib.hid (show Stable (star (blkP w.heap.size 103 #[.int .i64 0, .int .i64 0, .int .i64 0]) Q) from (blkP_stable _ _ _).star hQ)
  have H2 := Lib.hid h2
  have RD := ready93 _ b R A c (ref_tasks h2 hR) (i : Int)
  rw [rdy_at hr, hrd] at RD
  have RD := Lib.hid RD
  have hil := (List.getElem?_eq_some_iff.1 hr).1
  clear h hQ h1 h2 hr hx hops hrd
  go_enter Try.func65, Try.ntmps65
  go_wp2_with fail
  refine RD.out.mono ?_
  rintro e w1 ⟨rfl, hk1⟩
  have h3 := H2.out.kept ((refP_stable _ _ _ _ _).star SR.out) hk1
  have hT := ref_tasks h3 hR
  obtain ⟨ad, r2, hA, hr2, hat⟩ := rt_at hT.src hil
  subst hA
  obtain rfl : r2 = r := by rw [HR.out] at hr2; injection hr2 with e; exact e.symm
  have c0 := hT.c0
  obtain ⟨A1z, c1z, A2z, c2z, hf1, hf2⟩ := hT.form r2 (List.mem_of_getElem? HR.out)
  have hin := ref_inner h3 (List.mem_of_getElem? HR.out)
  rw [hf1] at hin
  obtain ⟨hb0, hlt0⟩ := ready_lt' HRD.out
  obtain ⟨op, x', hOA, hx', o0, o1, o2⟩ := op_at hin.1.src hlt0
  subst hOA
  obtain rfl : x' = x := by rw [HX.out] at hx'; injection hx' with e; exact e.symm
  have hao := hat.o
  have haa := hat.a
  rw [hf1] at hao
  have hbA := HOP.out
  have hw1 : IntKind.i64.wrap ((r2.T.at_ : Int) + 1) = (r2.T.at_ : Int) + 1 := by rw [IntKind.wrap_i64]; omega
  have hw2 : wrap64 ((r2.T.at_ : Int) + 1) = (r2.T.at_ : Int) + 1 := by unfold wrap64; omega
  have k1 := h3.newBlk ((refP_stable _ _ _ _ _).star SR.out) 103 #[.int .i64 i, .int .i64 r2.T.at_, .int .i64 0]
  have k2 := k1.newBlk ((blkP_stable _ _ _).star ((refP_stable _ _ _ _ _).star SR.out)) 97 x'.cs
  rw [size_alloc] at k2
  have KA := Lib.hid ((Keep.same Nothing w1).alloc (.cells #[.int .i64 i, .int .i64 r2.T.at_, .int .i64 0] 103))
  have hH : (fun w' => w'.cell? (ad.add (i * 4)) = some (.slice (some op) r2.T.ops.length c1z) ∧ w'.cell? ⟨(ad.add (i * 4)).block, (ad.add (i * 4)).off + 1, none⟩ = some (.int .i64 r2.T.at_) ∧ w'.cell? (op.add (r2.T.at_ * 3)) = some (.int .i64 x'.k) ∧ w'.cell? ⟨(op.add (r2.T.at_ * 3)).block, (op.add (r2.T.at_ * 3)).off + 1, none⟩ = some (.int .i64 x'.obj) ∧ w'.cell? ⟨(op.add (r2.T.at_ * 3)).block, (op.add (r2.T.at_ * 3)).off + 2, none⟩ = some (.int .i64 x'.n)) (w1.alloc (.cells #[.int .i64 i, .int .i64 r2.T.at_, .int .i64 0] 103)) := ⟨KA.out.cell hao (fun h => h), KA.out.cell haa (fun h => h), KA.out.cell o0 (fun h => h), KA.out.cell o1 (fun h => h), KA.out.cell o2 (fun h => h)⟩
  have SBF := Lib.hid (fun (X' : World) (hX : Keep Nothing (w1.alloc (.cells #[.int .i64 i, .int .i64 r2.T.at_, .int .i64 0] 103)) X') => show (fun w' => w'.cell? (ad.add (i * 4)) = some (.slice (some op) r2.T.ops.length c1z) ∧ w'.cell? ⟨(ad.add (i * 4)).block, (ad.add (i * 4)).off + 1, none⟩ = some (.int .i64 r2.T.at_) ∧ w'.cell? (op.add (r2.T.at_ * 3)) = some (.int .i64 x'.k) ∧ w'.cell? ⟨(op.add (r2.T.at_ * 3)).block, (op.add (r2.T.at_ * 3)).off + 1, none⟩ = some (.int .i64 x'.obj) ∧ w'.cell? ⟨(op.add (r2.T.at_ * 3)).block, (op.add (r2.T.at_ * 3)).off + 2, none⟩ = some (.int .i64 x'.n)) X' from ⟨hX.cell hH.1 (fun h => h), hX.cell hH.2.1 (fun h => h), hX.cell hH.2.2.1 (fun h => h), hX.cell hH.2.2.2.1 (fun h => h), hX.cell hH.2.2.2.2 (fun h => h)⟩)
  dsimp only at hH
  have k3 : Holds B w0 ((w1.alloc (.cells #[.int .i64 i, .int .i64 r2.T.at_, .int .i64 0] 103)).alloc (.cells x'.cs 97)) (star (refP b (some ad) c R O) (star (blkP w1.heap.size 103 #[.int .i64 i, .int .i64 r2.T.at_, .int .i64 0]) (star (blkP (w1.heap.size + 1) 97 x'.cs) (star (blkP w.heap.size 103 #[.int .i64 0, .int .i64 0, .int .i64 0]) Q)))) := k2.perm (by ac_rfl)
  have SE := Lib.hid (show Stable (star (blkP w1.heap.size 103 #[.int .i64 i, .int .i64 r2.T.at_, .int .i64 0]) (star (blkP (w1.heap.size + 1) 97 x'.cs) (star (blkP w.heap.size 103 #[.int .i64 0, .int .i64 0, .int .i64 0]) Q))) from (blkP_stable _ _ _).star ((blkP_stable _ _ _).star SR.out))
  have ca := ((Keep.same Nothing _).alloc (.cells x'.cs 97)).cell (KA.out.cell haa (fun h => h)) (fun h => h)
  obtain ⟨fz, k4⟩ := ref_set k3 SE.out HR.out (r' := r2.next) (j := 1) (by omega) (by omega) (u := .int .i64 ((r2.T.at_ : Int) + 1)) (by unfold RTk.next Tk.next; simp) rfl
  have H6 := Lib.hid k4
  have S6 := Lib.hid (show Stable (star (refP b (some ad) c (R.set i r2.next) O) (star (blkP w1.heap.size 103 #[.int .i64 i, .int .i64 r2.T.at_, .int .i64 0]) (star (blkP (w1.heap.size + 1) 97 x'.cs) (star (blkP w.heap.size 103 #[.int .i64 0, .int .i64 0, .int .i64 0]) Q)))) from (refP_stable _ _ _ _ _).star SE.out)
  have X8 := blk_at' (show Holds B w0 (((w1.alloc (.cells #[.int .i64 i, .int .i64 r2.T.at_, .int .i64 0] 103)).alloc (.cells x'.cs 97)).setCell ⟨(ad.add (i * 4)).block, (ad.add (i * 4)).off + 1, none⟩ (.int .i64 ((r2.T.at_ : Int) + 1))) (star (blkP (w1.heap.size + 1) 97 x'.cs) (star (refP b (some ad) c (R.set i r2.next) O) (star (blkP w1.heap.size 103 #[.int .i64 i, .int .i64 r2.T.at_, .int .i64 0]) (star (blkP w.heap.size 103 #[.int .i64 0, .int .i64 0, .int .i64 0]) Q)))) from k4.perm (by ac_rfl))
  have z0 := X8.cell 0
  have z1 := X8.cell 1
  have z2 := X8.cell 2
  have hlen1 : (R.set i r2.next).length = R.length := List.length_set
  have HLEN := Lib.hid hlen1
  have D9 : (x'.k == 9) = true := by simp [hk]
  have D5 : (x'.k == 5) = false := by simp [hk]
  have D6 : (x'.k == 6) = false := by simp [hk]
  have D7 : (x'.k == 7) = false := by simp [hk]
  have D8 : (x'.k == 8) = false := by simp [hk]
  clear hk hP
  clear h3 hT hr2 hat hf2 hin hx' hao k1 k2 k3 k4 X8 hk1 o0 o1 o2 hlen1 hb0
  go_wp2_with fail
  refine wp_region_noPanic ?_
  refine wp_region_held_drew (S := (fun w' => w'.cell? (ad.add (i * 4)) = some (.slice (some op) r2.T.ops.length c1z) ∧ w'.cell? ⟨(ad.add (i * 4)).block, (ad.add (i * 4)).off + 1, none⟩ = some (.int .i64 r2.T.at_) ∧ w'.cell? (op.add (r2.T.at_ * 3)) = some (.int .i64 x'.k) ∧ w'.cell? ⟨(op.add (r2.T.at_ * 3)).block, (op.add (r2.T.at_ * 3)).off + 1, none⟩ = some (.int .i64 x'.obj) ∧ w'.cell? ⟨(op.add (r2.T.at_ * 3)).block, (op.add (r2.T.at_ * 3)).off + 2, none⟩ = some (.int .i64 x'.n))) (by kernel_rfl) hH (fun hHeld => ?_)
  refine tk 0 ?_
  (try simp only [pn])
  refine tk 1 ?_
  (try simp only [pn])
  refine tk 2 ?_
  (try simp only [pn])
  refine tk 3 ?_
  (try simp only [pn])
  refine tk 4 ?_
  (try simp only [pn])
  refine tk 5 ?_
  (try simp only [pn])
  refine tk 6 ?_
  (try simp only [pn])
  refine tk 7 ?_
  (try simp only [pn])
  refine tk 8 ?_
  (try simp only [pn])
  refine tk 9 ?_
  (try simp only [pn])
  refine rd 10 (fun K hK => ?_)
  go_simp
  refine hK.out _ _ (SBF.out _ kn) (fun hHeld => ?_)
  clear hK K
  (try simp only [pn])
  refine rd 11 (fun K hK => ?_)
  go_simp
  refine hK.out _ _ (SBF.out _ kn) (fun hHeld => ?_)
  clear hK K
  (try simp only [pn])
  refine wpAnyH_done (by kernel_rfl) ?_ _
  refine NoPanic.normal ?_
  clear hH
  have RLEN := HLEN
  have HH := H6
  have hT9 := ref_tasks HH.out (by rw [RLEN.out]; exact HRL0.out)
  obtain ⟨adq, rq, hAq, hrq, hatq⟩ := rt_at hT9.src (show i < (R.set i r2.next).length by rw [RLEN.out]; exact hil)
  injection hAq with hAq
  subst hAq
  have HRQ := Lib.hid hrq
  have cb9 := hatq.b
  obtain ⟨fb9, h9⟩ := ref_set HH.out SE.out hrq (r' := rq.block false) (j := 2) (by omega) (by omega) (u := .bool false) rfl rfl
  have g9 : Holds B w0 _ (star (blkP w1.heap.size 103 #[.int .i64 i, .int .i64 r2.T.at_, .int .i64 0]) (star (refP b (some ad) c ((R.set i r2.next).set i (rq.block false)) (O)) (star (blkP (w1.heap.size + 1) 97 x'.cs) (star (blkP w.heap.size 103 #[.int .i64 0, .int .i64 0, .int .i64 0]) Q)))) := h9.perm (by ac_rfl)
  have SG := Lib.hid (show Stable (star (refP b (some ad) c ((R.set i r2.next).set i (rq.block false)) (O)) (star (blkP (w1.heap.size + 1) 97 x'.cs) (star (blkP w.heap.size 103 #[.int .i64 0, .int .i64 0, .int .i64 0]) Q))) from (refP_stable _ _ _ _ _).star ((blkP_stable _ _ _).star SR.out))
  have b9 := blk_at' g9
  have v2 := b9.cell 2
  have f2 := b9.free 2
  have g10 := g9.setBlk SG.out 2 (.int .i64 0)
  have b10 := blk_at' g10
  have v0 := b10.cell 0
  have v1 := b10.cell 1
  have v3 := b10.cell 2
  have g11 : Holds B w0 _ (star (blkP w.heap.size 103 #[.int .i64 0, .int .i64 0, .int .i64 0]) (star (blkP w1.heap.size 103 #[.int .i64 i, .int .i64 r2.T.at_, .int .i64 0]) (star (refP b (some ad) c ((R.set i r2.next).set i (rq.block false)) (O)) (star (blkP (w1.heap.size + 1) 97 x'.cs) Q)))) := g10.perm (by
    show star (blkP w1.heap.size 103 #[.int .i64 i, .int .i64 r2.T.at_, .int .i64 0]) _ = _
    ac_rfl)
  have S11 : Stable (star (blkP w1.heap.size 103 #[.int .i64 i, .int .i64 r2.T.at_, .int .i64 0]) (star (refP b (some ad) c ((R.set i r2.next).set i (rq.block false)) (O)) (star (blkP (w1.heap.size + 1) 97 x'.cs) Q))) := (blkP_stable _ _ _).star ((refP_stable _ _ _ _ _).star ((blkP_stable _ _ _).star HQ.out))
  obtain ⟨a0, n0, a1, n1, a2, n2, q0, q1, q2, p0, p1⟩ := store3 (blk_at' g11) (.int .i64 (i : Int)) (.int .i64 (r2.T.at_ : Int)) (.int .i64 0)
  have H12 := Lib.hid (held3 g11 S11 (.int .i64 (i : Int)) (.int .i64 (r2.T.at_ : Int)) (.int .i64 0))
  clear hT9 hrq hatq h9 g9 b9 g10 b10 g11 S11
  go_wp2_with fail
  refine bodyPost_ret (v := .tuple #[.agg #[.int .i64 i, .int .i64 r2.T.at_, .int .i64 0], .int .i64 0]) (by simp [results, Try.results65, go_sem, hu3, q0, q1, q2]) rfl ?_
  refine ⟨false, 0, R.set i r2.next, O, rq, HPP.out, RLEN.out, HRQ.out, rfl, ?_⟩
  have y1 := H12.out.drop.drop
  have y2 : Holds B w0 _ (star (blkP (w1.heap.size + 1) 97 x'.cs) (star (refP b (some ad) c ((R.set i r2.next).set i (rq.block false)) (O)) Q)) := y1.perm (by ac_rfl)
  have y3 := y2.drop
  rw [show (false && (0 : Int) == 0) = false by rfl]
  exact y3.kept ((refP_stable _ _ _ _ _).star HQ.out) kn
theorem rstep_l {x : Op3} (h : Holds B w0 w (star (refP b A c R O) Q)) (hQ : Stable Q) (hR : R.length ≤ 1000000) (i : Nat) (r : RTk) (hr : R[i]? = some r) (hrd : r.T.ready = true) (hx : r.T.ops[r.T.at_]? = some x) (hops : r.T.ops.length ≤ 1000000) (P : Bool → Int → List RTk → List RO → Prop) (hk : x.k ≠ 9 ∧ x.k ≠ 5 ∧ x.k ≠ 6 ∧ x.k ≠ 7 ∧ x.k ≠ 8) (hC : ∀ (ad : Addr) (W' : World) (Q' : SP), Stable Q' → A = some ad → Holds B w0 W' (star (refP b (some ad) c (R.set i r.next) O) Q') → Calls Try.prog 97 #[.pointer (some ⟨b, 0, none⟩), .int .i64 i, x.val] W' (RA B w0 b (some ad) c R.length P Q')) :
    Calls Try.prog 65 #[.pointer (some ⟨b, 0, none⟩), .int .i64 i] w (RSt B w0 b A c R.length i r.T.at_ P Q) := by
  have hu := Try.underlying155
  have hu2 := Try.underlying97
  have hu3 := Try.underlying103
  have hu4 := Try.underlying157
  have hu5 := Try.underlying160
  have hf4 := fun a b c d e f w => fld4 a b c d e f w
  have HQ := Lib.hid hQ
  have HRL0 := Lib.hid hR
  have HR := Lib.hid hr
  have HX := Lib.hid hx
  have HOP := Lib.hid hops
  have HRD := Lib.hid hrd
  have HCC := Lib.hid hC
  have S0 := Lib.hid (show Stable (star (refP b A c R O) Q) from (refP_stable _ _ _ _ _).star hQ)
  have h1 := h.newBlk S0.out 103 #[.int .i64 0, .int .i64 0, .int .i64 0]
  have h2 : Holds B w0 (w.alloc (.cells #[.int .i64 0, .int .i64 0, .int .i64 0] 103)) (star (refP b A c R O) (star (blkP w.heap.size 103 #[.int .i64 0, .int .i64 0, .int .i64 0]) Q)) := h1.perm (by ac_rfl)
  have SR := Lib.hid (show Stable (star (blkP w.heap.size 103 #[.int .i64 0, .int .i64 0, .int .i64 0]) Q) from (blkP_stable _ _ _).star hQ)
  have H2 := Lib.hid h2
  have RD := ready93 _ b R A c (ref_tasks h2 hR) (i : Int)
  rw [rdy_at hr, hrd] at RD
  have RD := Lib.hid RD
  have hil := (List.getElem?_eq_some_iff.1 hr).1
  clear h hQ h1 h2 hr hx hops hrd
  go_enter Try.func65, Try.ntmps65
  go_wp2_with fail
  refine RD.out.mono ?_
  rintro e w1 ⟨rfl, hk1⟩
  have h3 := H2.out.kept ((refP_stable _ _ _ _ _).star SR.out) hk1
  have hT := ref_tasks h3 hR
  obtain ⟨ad, r2, hA, hr2, hat⟩ := rt_at hT.src hil
  subst hA
  obtain rfl : r2 = r := by rw [HR.out] at hr2; injection hr2 with e; exact e.symm
  have c0 := hT.c0
  obtain ⟨A1z, c1z, A2z, c2z, hf1, hf2⟩ := hT.form r2 (List.mem_of_getElem? HR.out)
  have hin := ref_inner h3 (List.mem_of_getElem? HR.out)
  rw [hf1] at hin
  obtain ⟨hb0, hlt0⟩ := ready_lt' HRD.out
  obtain ⟨op, x', hOA, hx', o0, o1, o2⟩ := op_at hin.1.src hlt0
  subst hOA
  obtain rfl : x' = x := by rw [HX.out] at hx'; injection hx' with e; exact e.symm
  have hao := hat.o
  have haa := hat.a
  rw [hf1] at hao
  have hbA := HOP.out
  have hw1 : IntKind.i64.wrap ((r2.T.at_ : Int) + 1) = (r2.T.at_ : Int) + 1 := by rw [IntKind.wrap_i64]; omega
  have hw2 : wrap64 ((r2.T.at_ : Int) + 1) = (r2.T.at_ : Int) + 1 := by unfold wrap64; omega
  have k1 := h3.newBlk ((refP_stable _ _ _ _ _).star SR.out) 103 #[.int .i64 i, .int .i64 r2.T.at_, .int .i64 0]
  have k2 := k1.newBlk ((blkP_stable _ _ _).star ((refP_stable _ _ _ _ _).star SR.out)) 97 x'.cs
  rw [size_alloc] at k2
  have KA := Lib.hid ((Keep.same Nothing w1).alloc (.cells #[.int .i64 i, .int .i64 r2.T.at_, .int .i64 0] 103))
  have hH : (fun w' => w'.cell? (ad.add (i * 4)) = some (.slice (some op) r2.T.ops.length c1z) ∧ w'.cell? ⟨(ad.add (i * 4)).block, (ad.add (i * 4)).off + 1, none⟩ = some (.int .i64 r2.T.at_) ∧ w'.cell? (op.add (r2.T.at_ * 3)) = some (.int .i64 x'.k) ∧ w'.cell? ⟨(op.add (r2.T.at_ * 3)).block, (op.add (r2.T.at_ * 3)).off + 1, none⟩ = some (.int .i64 x'.obj) ∧ w'.cell? ⟨(op.add (r2.T.at_ * 3)).block, (op.add (r2.T.at_ * 3)).off + 2, none⟩ = some (.int .i64 x'.n)) (w1.alloc (.cells #[.int .i64 i, .int .i64 r2.T.at_, .int .i64 0] 103)) := ⟨KA.out.cell hao (fun h => h), KA.out.cell haa (fun h => h), KA.out.cell o0 (fun h => h), KA.out.cell o1 (fun h => h), KA.out.cell o2 (fun h => h)⟩
  have SBF := Lib.hid (fun (X' : World) (hX : Keep Nothing (w1.alloc (.cells #[.int .i64 i, .int .i64 r2.T.at_, .int .i64 0] 103)) X') => show (fun w' => w'.cell? (ad.add (i * 4)) = some (.slice (some op) r2.T.ops.length c1z) ∧ w'.cell? ⟨(ad.add (i * 4)).block, (ad.add (i * 4)).off + 1, none⟩ = some (.int .i64 r2.T.at_) ∧ w'.cell? (op.add (r2.T.at_ * 3)) = some (.int .i64 x'.k) ∧ w'.cell? ⟨(op.add (r2.T.at_ * 3)).block, (op.add (r2.T.at_ * 3)).off + 1, none⟩ = some (.int .i64 x'.obj) ∧ w'.cell? ⟨(op.add (r2.T.at_ * 3)).block, (op.add (r2.T.at_ * 3)).off + 2, none⟩ = some (.int .i64 x'.n)) X' from ⟨hX.cell hH.1 (fun h => h), hX.cell hH.2.1 (fun h => h), hX.cell hH.2.2.1 (fun h => h), hX.cell hH.2.2.2.1 (fun h => h), hX.cell hH.2.2.2.2 (fun h => h)⟩)
  dsimp only at hH
  have k3 : Holds B w0 ((w1.alloc (.cells #[.int .i64 i, .int .i64 r2.T.at_, .int .i64 0] 103)).alloc (.cells x'.cs 97)) (star (refP b (some ad) c R O) (star (blkP w1.heap.size 103 #[.int .i64 i, .int .i64 r2.T.at_, .int .i64 0]) (star (blkP (w1.heap.size + 1) 97 x'.cs) (star (blkP w.heap.size 103 #[.int .i64 0, .int .i64 0, .int .i64 0]) Q)))) := k2.perm (by ac_rfl)
  have SE := Lib.hid (show Stable (star (blkP w1.heap.size 103 #[.int .i64 i, .int .i64 r2.T.at_, .int .i64 0]) (star (blkP (w1.heap.size + 1) 97 x'.cs) (star (blkP w.heap.size 103 #[.int .i64 0, .int .i64 0, .int .i64 0]) Q))) from (blkP_stable _ _ _).star ((blkP_stable _ _ _).star SR.out))
  have ca := ((Keep.same Nothing _).alloc (.cells x'.cs 97)).cell (KA.out.cell haa (fun h => h)) (fun h => h)
  obtain ⟨fz, k4⟩ := ref_set k3 SE.out HR.out (r' := r2.next) (j := 1) (by omega) (by omega) (u := .int .i64 ((r2.T.at_ : Int) + 1)) (by unfold RTk.next Tk.next; simp) rfl
  have H6 := Lib.hid k4
  have S6 := Lib.hid (show Stable (star (refP b (some ad) c (R.set i r2.next) O) (star (blkP w1.heap.size 103 #[.int .i64 i, .int .i64 r2.T.at_, .int .i64 0]) (star (blkP (w1.heap.size + 1) 97 x'.cs) (star (blkP w.heap.size 103 #[.int .i64 0, .int .i64 0, .int .i64 0]) Q)))) from (refP_stable _ _ _ _ _).star SE.out)
  have X8 := blk_at' (show Holds B w0 (((w1.alloc (.cells #[.int .i64 i, .int .i64 r2.T.at_, .int .i64 0] 103)).alloc (.cells x'.cs 97)).setCell ⟨(ad.add (i * 4)).block, (ad.add (i * 4)).off + 1, none⟩ (.int .i64 ((r2.T.at_ : Int) + 1))) (star (blkP (w1.heap.size + 1) 97 x'.cs) (star (refP b (some ad) c (R.set i r2.next) O) (star (blkP w1.heap.size 103 #[.int .i64 i, .int .i64 r2.T.at_, .int .i64 0]) (star (blkP w.heap.size 103 #[.int .i64 0, .int .i64 0, .int .i64 0]) Q)))) from k4.perm (by ac_rfl))
  have z0 := X8.cell 0
  have z1 := X8.cell 1
  have z2 := X8.cell 2
  have hlen1 : (R.set i r2.next).length = R.length := List.length_set
  have HLEN := Lib.hid hlen1
  have D9 : (x'.k == 9) = false := by simp [hk]
  have D5 : (x'.k == 5) = false := by simp [hk]
  have D6 : (x'.k == 6) = false := by simp [hk]
  have D7 : (x'.k == 7) = false := by simp [hk]
  have D8 : (x'.k == 8) = false := by simp [hk]
  clear hk hC
  clear h3 hT hr2 hat hf2 hin hx' hao k1 k2 k3 k4 X8 hk1 o0 o1 o2 hlen1 hb0
  go_wp2_with fail
  refine wp_region_noPanic ?_
  refine wp_region_held_drew (S := (fun w' => w'.cell? (ad.add (i * 4)) = some (.slice (some op) r2.T.ops.length c1z) ∧ w'.cell? ⟨(ad.add (i * 4)).block, (ad.add (i * 4)).off + 1, none⟩ = some (.int .i64 r2.T.at_) ∧ w'.cell? (op.add (r2.T.at_ * 3)) = some (.int .i64 x'.k) ∧ w'.cell? ⟨(op.add (r2.T.at_ * 3)).block, (op.add (r2.T.at_ * 3)).off + 1, none⟩ = some (.int .i64 x'.obj) ∧ w'.cell? ⟨(op.add (r2.T.at_ * 3)).block, (op.add (r2.T.at_ * 3)).off + 2, none⟩ = some (.int .i64 x'.n))) (by kernel_rfl) hH (fun hHeld => ?_)
  refine tk 0 ?_
  (try simp only [pn])
  refine tk 1 ?_
  (try simp only [pn])
  refine tk 2 ?_
  (try simp only [pn])
  refine tk 3 ?_
  (try simp only [pn])
  refine tk 4 ?_
  (try simp only [pn])
  refine tk 5 ?_
  (try simp only [pn])
  refine tk 6 ?_
  (try simp only [pn])
  refine tk 7 ?_
  (try simp only [pn])
  refine tk 8 ?_
  (try simp only [pn])
  refine tk 9 ?_
  (try simp only [pn])
  refine rd 10 (fun K hK => ?_)
  go_simp
  refine hK.out _ _ (SBF.out _ kn) (fun hHeld => ?_)
  clear hK K
  (try simp only [pn])
  refine rd 11 (fun K hK => ?_)
  go_simp
  refine hK.out _ _ (SBF.out _ kn) (fun hHeld => ?_)
  clear hK K
  (try simp only [pn])
  refine wpAnyH_done (by kernel_rfl) ?_ _
  refine NoPanic.normal ?_
  clear hH
  have CC := Lib.hid (fun (X' : World) (hX : Keep Nothing (((w1.alloc (.cells #[.int .i64 i, .int .i64 r2.T.at_, .int .i64 0] 103)).alloc (.cells x'.cs 97)).setCell ⟨(ad.add (i * 4)).block, (ad.add (i * 4)).off + 1, none⟩ (.int .i64 ((r2.T.at_ : Int) + 1))) X') => HCC.out ad X' _ SE.out rfl (H6.out.kept S6.out hX))
  go_wp2_with fail
  refine (CC.out _ kn).mono ?_
  rintro e w8 ⟨wait, er, R8, O8, hP8, hl8, rfl, h8⟩
  have HPP := Lib.hid hP8
  have RLEN := Lib.hid hl8
  have HH := Lib.hid h8
  clear hP8 hl8 h8
  rcases (show wait = false ∨ (wait = true ∧ er = 0) ∨ (wait = true ∧ er ≠ 0) by cases wait <;> simp <;> omega) with qw | ⟨qw, qe⟩ | ⟨qw, qe⟩
  · subst qw
    have hT9 := ref_tasks HH.out (by rw [RLEN.out]; exact HRL0.out)
    obtain ⟨adq, rq, hAq, hrq, hatq⟩ := rt_at hT9.src (show i < (R8).length by rw [RLEN.out]; exact hil)
    injection hAq with hAq
    subst hAq
    have HRQ := Lib.hid hrq
    have cb9 := hatq.b
    obtain ⟨fb9, h9⟩ := ref_set HH.out SE.out hrq (r' := rq.block false) (j := 2) (by omega) (by omega) (u := .bool false) rfl rfl
    have g9 : Holds B w0 _ (star (blkP w1.heap.size 103 #[.int .i64 i, .int .i64 r2.T.at_, .int .i64 0]) (star (refP b (some ad) c ((R8).set i (rq.block false)) (O8)) (star (blkP (w1.heap.size + 1) 97 x'.cs) (star (blkP w.heap.size 103 #[.int .i64 0, .int .i64 0, .int .i64 0]) Q)))) := h9.perm (by ac_rfl)
    have SG := Lib.hid (show Stable (star (refP b (some ad) c ((R8).set i (rq.block false)) (O8)) (star (blkP (w1.heap.size + 1) 97 x'.cs) (star (blkP w.heap.size 103 #[.int .i64 0, .int .i64 0, .int .i64 0]) Q))) from (refP_stable _ _ _ _ _).star ((blkP_stable _ _ _).star SR.out))
    have b9 := blk_at' g9
    have v2 := b9.cell 2
    have f2 := b9.free 2
    have g10 := g9.setBlk SG.out 2 (.int .i64 er)
    have b10 := blk_at' g10
    have v0 := b10.cell 0
    have v1 := b10.cell 1
    have v3 := b10.cell 2
    have g11 : Holds B w0 _ (star (blkP w.heap.size 103 #[.int .i64 0, .int .i64 0, .int .i64 0]) (star (blkP w1.heap.size 103 #[.int .i64 i, .int .i64 r2.T.at_, .int .i64 er]) (star (refP b (some ad) c ((R8).set i (rq.block false)) (O8)) (star (blkP (w1.heap.size + 1) 97 x'.cs) Q)))) := g10.perm (by
      show star (blkP w1.heap.size 103 #[.int .i64 i, .int .i64 r2.T.at_, .int .i64 er]) _ = _
      ac_rfl)
    have S11 : Stable (star (blkP w1.heap.size 103 #[.int .i64 i, .int .i64 r2.T.at_, .int .i64 er]) (star (refP b (some ad) c ((R8).set i (rq.block false)) (O8)) (star (blkP (w1.heap.size + 1) 97 x'.cs) Q))) := (blkP_stable _ _ _).star ((refP_stable _ _ _ _ _).star ((blkP_stable _ _ _).star HQ.out))
    obtain ⟨a0, n0, a1, n1, a2, n2, q0, q1, q2, p0, p1⟩ := store3 (blk_at' g11) (.int .i64 (i : Int)) (.int .i64 (r2.T.at_ : Int)) (.int .i64 er)
    have H12 := Lib.hid (held3 g11 S11 (.int .i64 (i : Int)) (.int .i64 (r2.T.at_ : Int)) (.int .i64 er))
    clear hT9 hrq hatq h9 g9 b9 g10 b10 g11 S11
    go_wp2_with fail
    refine bodyPost_ret (v := .tuple #[.agg #[.int .i64 i, .int .i64 r2.T.at_, .int .i64 er], .int .i64 0]) (by simp [results, Try.results65, go_sem, hu3, q0, q1, q2]) rfl ?_
    refine ⟨false, er, R8, O8, rq, HPP.out, RLEN.out, HRQ.out, rfl, ?_⟩
    have y1 := H12.out.drop.drop
    have y2 : Holds B w0 _ (star (blkP (w1.heap.size + 1) 97 x'.cs) (star (refP b (some ad) c ((R8).set i (rq.block false)) (O8)) Q)) := y1.perm (by ac_rfl)
    have y3 := y2.drop
    rw [show (false && (er : Int) == 0) = false by rfl]
    exact y3.kept ((refP_stable _ _ _ _ _).star HQ.out) kn
  · subst qw
    have de : ((er : Int) == 0) = true := by simp [qe]
    have QE := Lib.hid qe
    clear qe
    have hT9 := ref_tasks HH.out (by rw [RLEN.out]; exact HRL0.out)
    obtain ⟨adq, rq, hAq, hrq, hatq⟩ := rt_at hT9.src (show i < (R8).length by rw [RLEN.out]; exact hil)
    injection hAq with hAq
    subst hAq
    have HRQ := Lib.hid hrq
    have cb9 := hatq.b
    obtain ⟨fb9, h9⟩ := ref_set HH.out SE.out hrq (r' := rq.block true) (j := 2) (by omega) (by omega) (u := .bool true) rfl rfl
    have g9 : Holds B w0 _ (star (blkP w1.heap.size 103 #[.int .i64 i, .int .i64 r2.T.at_, .int .i64 0]) (star (refP b (some ad) c ((R8).set i (rq.block true)) (O8)) (star (blkP (w1.heap.size + 1) 97 x'.cs) (star (blkP w.heap.size 103 #[.int .i64 0, .int .i64 0, .int .i64 0]) Q)))) := h9.perm (by ac_rfl)
    have SG := Lib.hid (show Stable (star (refP b (some ad) c ((R8).set i (rq.block true)) (O8)) (star (blkP (w1.heap.size + 1) 97 x'.cs) (star (blkP w.heap.size 103 #[.int .i64 0, .int .i64 0, .int .i64 0]) Q))) from (refP_stable _ _ _ _ _).star ((blkP_stable _ _ _).star SR.out))
    have b9 := blk_at' g9
    have v2 := b9.cell 2
    have f2 := b9.free 2
    have g10 := g9.setBlk SG.out 2 (.int .i64 er)
    have b10 := blk_at' g10
    have v0 := b10.cell 0
    have v1 := b10.cell 1
    have v3 := b10.cell 2
    have g11 : Holds B w0 _ (star (blkP w.heap.size 103 #[.int .i64 0, .int .i64 0, .int .i64 0]) (star (blkP w1.heap.size 103 #[.int .i64 i, .int .i64 r2.T.at_, .int .i64 er]) (star (refP b (some ad) c ((R8).set i (rq.block true)) (O8)) (star (blkP (w1.heap.size + 1) 97 x'.cs) Q)))) := g10.perm (by
      show star (blkP w1.heap.size 103 #[.int .i64 i, .int .i64 r2.T.at_, .int .i64 er]) _ = _
      ac_rfl)
    have S11 : Stable (star (blkP w1.heap.size 103 #[.int .i64 i, .int .i64 r2.T.at_, .int .i64 er]) (star (refP b (some ad) c ((R8).set i (rq.block true)) (O8)) (star (blkP (w1.heap.size + 1) 97 x'.cs) Q))) := (blkP_stable _ _ _).star ((refP_stable _ _ _ _ _).star ((blkP_stable _ _ _).star HQ.out))
    obtain ⟨a0, n0, a1, n1, a2, n2, q0, q1, q2, p0, p1⟩ := store3 (blk_at' g11) (.int .i64 (i : Int)) (.int .i64 (r2.T.at_ : Int)) (.int .i64 er)
    have H12 := Lib.hid (held3 g11 S11 (.int .i64 (i : Int)) (.int .i64 (r2.T.at_ : Int)) (.int .i64 er))
    clear hT9 hrq hatq h9 g9 b9 g10 b10 g11 S11
    go_wp2_with fail
    refine bodyPost_ret (v := .tuple #[.agg #[.int .i64 i, .int .i64 r2.T.at_, .int .i64 er], .int .i64 0]) (by simp [results, Try.results65, go_sem, hu3, q0, q1, q2]) rfl ?_
    refine ⟨true, er, R8, O8, rq, HPP.out, RLEN.out, HRQ.out, rfl, ?_⟩
    have y1 := H12.out.drop.drop
    have y2 : Holds B w0 _ (star (blkP (w1.heap.size + 1) 97 x'.cs) (star (refP b (some ad) c ((R8).set i (rq.block true)) (O8)) Q)) := y1.perm (by ac_rfl)
    have y3 := y2.drop
    rw [show (true && (er : Int) == 0) = true by simp [QE.out]]
    exact y3.kept ((refP_stable _ _ _ _ _).star HQ.out) kn
  · subst qw
    have de : ((er : Int) == 0) = false := by simp [qe]
    have QE := Lib.hid qe
    clear qe
    have hT9 := ref_tasks HH.out (by rw [RLEN.out]; exact HRL0.out)
    obtain ⟨adq, rq, hAq, hrq, hatq⟩ := rt_at hT9.src (show i < (R8).length by rw [RLEN.out]; exact hil)
    injection hAq with hAq
    subst hAq
    have HRQ := Lib.hid hrq
    have cb9 := hatq.b
    obtain ⟨fb9, h9⟩ := ref_set HH.out SE.out hrq (r' := rq.block false) (j := 2) (by omega) (by omega) (u := .bool false) rfl rfl
    have g9 : Holds B w0 _ (star (blkP w1.heap.size 103 #[.int .i64 i, .int .i64 r2.T.at_, .int .i64 0]) (star (refP b (some ad) c ((R8).set i (rq.block false)) (O8)) (star (blkP (w1.heap.size + 1) 97 x'.cs) (star (blkP w.heap.size 103 #[.int .i64 0, .int .i64 0, .int .i64 0]) Q)))) := h9.perm (by ac_rfl)
    have SG := Lib.hid (show Stable (star (refP b (some ad) c ((R8).set i (rq.block false)) (O8)) (star (blkP (w1.heap.size + 1) 97 x'.cs) (star (blkP w.heap.size 103 #[.int .i64 0, .int .i64 0, .int .i64 0]) Q))) from (refP_stable _ _ _ _ _).star ((blkP_stable _ _ _).star SR.out))
    have b9 := blk_at' g9
    have v2 := b9.cell 2
    have f2 := b9.free 2
    have g10 := g9.setBlk SG.out 2 (.int .i64 er)
    have b10 := blk_at' g10
    have v0 := b10.cell 0
    have v1 := b10.cell 1
    have v3 := b10.cell 2
    have g11 : Holds B w0 _ (star (blkP w.heap.size 103 #[.int .i64 0, .int .i64 0, .int .i64 0]) (star (blkP w1.heap.size 103 #[.int .i64 i, .int .i64 r2.T.at_, .int .i64 er]) (star (refP b (some ad) c ((R8).set i (rq.block false)) (O8)) (star (blkP (w1.heap.size + 1) 97 x'.cs) Q)))) := g10.perm (by
      show star (blkP w1.heap.size 103 #[.int .i64 i, .int .i64 r2.T.at_, .int .i64 er]) _ = _
      ac_rfl)
    have S11 : Stable (star (blkP w1.heap.size 103 #[.int .i64 i, .int .i64 r2.T.at_, .int .i64 er]) (star (refP b (some ad) c ((R8).set i (rq.block false)) (O8)) (star (blkP (w1.heap.size + 1) 97 x'.cs) Q))) := (blkP_stable _ _ _).star ((refP_stable _ _ _ _ _).star ((blkP_stable _ _ _).star HQ.out))
    obtain ⟨a0, n0, a1, n1, a2, n2, q0, q1, q2, p0, p1⟩ := store3 (blk_at' g11) (.int .i64 (i : Int)) (.int .i64 (r2.T.at_ : Int)) (.int .i64 er)
    have H12 := Lib.hid (held3 g11 S11 (.int .i64 (i : Int)) (.int .i64 (r2.T.at_ : Int)) (.int .i64 er))
    clear hT9 hrq hatq h9 g9 b9 g10 b10 g11 S11
    go_wp2_with fail
    refine bodyPost_ret (v := .tuple #[.agg #[.int .i64 i, .int .i64 r2.T.at_, .int .i64 er], .int .i64 0]) (by simp [results, Try.results65, go_sem, hu3, q0, q1, q2]) rfl ?_
    refine ⟨true, er, R8, O8, rq, HPP.out, RLEN.out, HRQ.out, rfl, ?_⟩
    have y1 := H12.out.drop.drop
    have y2 : Holds B w0 _ (star (blkP (w1.heap.size + 1) 97 x'.cs) (star (refP b (some ad) c ((R8).set i (rq.block false)) (O8)) Q)) := y1.perm (by ac_rfl)
    have y3 := y2.drop
    rw [show (true && (er : Int) == 0) = false by simp [QE.out]]
    exact y3.kept ((refP_stable _ _ _ _ _).star HQ.out) kn
theorem rstep_o7 {x : Op3} (h : Holds B w0 w (star (refP b A c R O) Q)) (hQ : Stable Q) (hR : R.length ≤ 1000000) (i : Nat) (r : RTk) (hr : R[i]? = some r) (hrd : r.T.ready = true) (hx : r.T.ops[r.T.at_]? = some x) (hops : r.T.ops.length ≤ 1000000) (P : Bool → Int → List RTk → List RO → Prop) (hk : x.k = 7) (hC : ∀ (ad : Addr) (W' : World) (Q' : SP), Stable Q' → A = some ad → Holds B w0 W' (star (refP b (some ad) c (R.set i r.next) O) Q') → Calls Try.prog 96 #[.pointer (some ⟨b, 0, none⟩), .int .i64 i, x.val] W' (RA B w0 b (some ad) c R.length P Q')) :
    Calls Try.prog 65 #[.pointer (some ⟨b, 0, none⟩), .int .i64 i] w (RSt B w0 b A c R.length i r.T.at_ P Q) := by
  have hu := Try.underlying155
  have hu2 := Try.underlying97
  have hu3 := Try.underlying103
  have hu4 := Try.underlying157
  have hu5 := Try.underlying160
  have hf4 := fun a b c d e f w => fld4 a b c d e f w
  have HQ := Lib.hid hQ
  have HRL0 := Lib.hid hR
  have HR := Lib.hid hr
  have HX := Lib.hid hx
  have HOP := Lib.hid hops
  have HRD := Lib.hid hrd
  have HCC := Lib.hid hC
  have S0 := Lib.hid (show Stable (star (refP b A c R O) Q) from (refP_stable _ _ _ _ _).star hQ)
  have h1 := h.newBlk S0.out 103 #[.int .i64 0, .int .i64 0, .int .i64 0]
  have h2 : Holds B w0 (w.alloc (.cells #[.int .i64 0, .int .i64 0, .int .i64 0] 103)) (star (refP b A c R O) (star (blkP w.heap.size 103 #[.int .i64 0, .int .i64 0, .int .i64 0]) Q)) := h1.perm (by ac_rfl)
  have SR := Lib.hid (show Stable (star (blkP w.heap.size 103 #[.int .i64 0, .int .i64 0, .int .i64 0]) Q) from (blkP_stable _ _ _).star hQ)
  have H2 := Lib.hid h2
  have RD := ready93 _ b R A c (ref_tasks h2 hR) (i : Int)
  rw [rdy_at hr, hrd] at RD
  have RD := Lib.hid RD
  have hil := (List.getElem?_eq_some_iff.1 hr).1
  clear h hQ h1 h2 hr hx hops hrd
  go_enter Try.func65, Try.ntmps65
  go_wp2_with fail
  refine RD.out.mono ?_
  rintro e w1 ⟨rfl, hk1⟩
  have h3 := H2.out.kept ((refP_stable _ _ _ _ _).star SR.out) hk1
  have hT := ref_tasks h3 hR
  obtain ⟨ad, r2, hA, hr2, hat⟩ := rt_at hT.src hil
  subst hA
  obtain rfl : r2 = r := by rw [HR.out] at hr2; injection hr2 with e; exact e.symm
  have c0 := hT.c0
  obtain ⟨A1z, c1z, A2z, c2z, hf1, hf2⟩ := hT.form r2 (List.mem_of_getElem? HR.out)
  have hin := ref_inner h3 (List.mem_of_getElem? HR.out)
  rw [hf1] at hin
  obtain ⟨hb0, hlt0⟩ := ready_lt' HRD.out
  obtain ⟨op, x', hOA, hx', o0, o1, o2⟩ := op_at hin.1.src hlt0
  subst hOA
  obtain rfl : x' = x := by rw [HX.out] at hx'; injection hx' with e; exact e.symm
  have hao := hat.o
  have haa := hat.a
  rw [hf1] at hao
  have hbA := HOP.out
  have hw1 : IntKind.i64.wrap ((r2.T.at_ : Int) + 1) = (r2.T.at_ : Int) + 1 := by rw [IntKind.wrap_i64]; omega
  have hw2 : wrap64 ((r2.T.at_ : Int) + 1) = (r2.T.at_ : Int) + 1 := by unfold wrap64; omega
  have k1 := h3.newBlk ((refP_stable _ _ _ _ _).star SR.out) 103 #[.int .i64 i, .int .i64 r2.T.at_, .int .i64 0]
  have k2 := k1.newBlk ((blkP_stable _ _ _).star ((refP_stable _ _ _ _ _).star SR.out)) 97 x'.cs
  rw [size_alloc] at k2
  have KA := Lib.hid ((Keep.same Nothing w1).alloc (.cells #[.int .i64 i, .int .i64 r2.T.at_, .int .i64 0] 103))
  have hH : (fun w' => w'.cell? (ad.add (i * 4)) = some (.slice (some op) r2.T.ops.length c1z) ∧ w'.cell? ⟨(ad.add (i * 4)).block, (ad.add (i * 4)).off + 1, none⟩ = some (.int .i64 r2.T.at_) ∧ w'.cell? (op.add (r2.T.at_ * 3)) = some (.int .i64 x'.k) ∧ w'.cell? ⟨(op.add (r2.T.at_ * 3)).block, (op.add (r2.T.at_ * 3)).off + 1, none⟩ = some (.int .i64 x'.obj) ∧ w'.cell? ⟨(op.add (r2.T.at_ * 3)).block, (op.add (r2.T.at_ * 3)).off + 2, none⟩ = some (.int .i64 x'.n)) (w1.alloc (.cells #[.int .i64 i, .int .i64 r2.T.at_, .int .i64 0] 103)) := ⟨KA.out.cell hao (fun h => h), KA.out.cell haa (fun h => h), KA.out.cell o0 (fun h => h), KA.out.cell o1 (fun h => h), KA.out.cell o2 (fun h => h)⟩
  have SBF := Lib.hid (fun (X' : World) (hX : Keep Nothing (w1.alloc (.cells #[.int .i64 i, .int .i64 r2.T.at_, .int .i64 0] 103)) X') => show (fun w' => w'.cell? (ad.add (i * 4)) = some (.slice (some op) r2.T.ops.length c1z) ∧ w'.cell? ⟨(ad.add (i * 4)).block, (ad.add (i * 4)).off + 1, none⟩ = some (.int .i64 r2.T.at_) ∧ w'.cell? (op.add (r2.T.at_ * 3)) = some (.int .i64 x'.k) ∧ w'.cell? ⟨(op.add (r2.T.at_ * 3)).block, (op.add (r2.T.at_ * 3)).off + 1, none⟩ = some (.int .i64 x'.obj) ∧ w'.cell? ⟨(op.add (r2.T.at_ * 3)).block, (op.add (r2.T.at_ * 3)).off + 2, none⟩ = some (.int .i64 x'.n)) X' from ⟨hX.cell hH.1 (fun h => h), hX.cell hH.2.1 (fun h => h), hX.cell hH.2.2.1 (fun h => h), hX.cell hH.2.2.2.1 (fun h => h), hX.cell hH.2.2.2.2 (fun h => h)⟩)
  dsimp only at hH
  have k3 : Holds B w0 ((w1.alloc (.cells #[.int .i64 i, .int .i64 r2.T.at_, .int .i64 0] 103)).alloc (.cells x'.cs 97)) (star (refP b (some ad) c R O) (star (blkP w1.heap.size 103 #[.int .i64 i, .int .i64 r2.T.at_, .int .i64 0]) (star (blkP (w1.heap.size + 1) 97 x'.cs) (star (blkP w.heap.size 103 #[.int .i64 0, .int .i64 0, .int .i64 0]) Q)))) := k2.perm (by ac_rfl)
  have SE := Lib.hid (show Stable (star (blkP w1.heap.size 103 #[.int .i64 i, .int .i64 r2.T.at_, .int .i64 0]) (star (blkP (w1.heap.size + 1) 97 x'.cs) (star (blkP w.heap.size 103 #[.int .i64 0, .int .i64 0, .int .i64 0]) Q))) from (blkP_stable _ _ _).star ((blkP_stable _ _ _).star SR.out))
  have ca := ((Keep.same Nothing _).alloc (.cells x'.cs 97)).cell (KA.out.cell haa (fun h => h)) (fun h => h)
  obtain ⟨fz, k4⟩ := ref_set k3 SE.out HR.out (r' := r2.next) (j := 1) (by omega) (by omega) (u := .int .i64 ((r2.T.at_ : Int) + 1)) (by unfold RTk.next Tk.next; simp) rfl
  have H6 := Lib.hid k4
  have S6 := Lib.hid (show Stable (star (refP b (some ad) c (R.set i r2.next) O) (star (blkP w1.heap.size 103 #[.int .i64 i, .int .i64 r2.T.at_, .int .i64 0]) (star (blkP (w1.heap.size + 1) 97 x'.cs) (star (blkP w.heap.size 103 #[.int .i64 0, .int .i64 0, .int .i64 0]) Q)))) from (refP_stable _ _ _ _ _).star SE.out)
  have X8 := blk_at' (show Holds B w0 (((w1.alloc (.cells #[.int .i64 i, .int .i64 r2.T.at_, .int .i64 0] 103)).alloc (.cells x'.cs 97)).setCell ⟨(ad.add (i * 4)).block, (ad.add (i * 4)).off + 1, none⟩ (.int .i64 ((r2.T.at_ : Int) + 1))) (star (blkP (w1.heap.size + 1) 97 x'.cs) (star (refP b (some ad) c (R.set i r2.next) O) (star (blkP w1.heap.size 103 #[.int .i64 i, .int .i64 r2.T.at_, .int .i64 0]) (star (blkP w.heap.size 103 #[.int .i64 0, .int .i64 0, .int .i64 0]) Q)))) from k4.perm (by ac_rfl))
  have z0 := X8.cell 0
  have z1 := X8.cell 1
  have z2 := X8.cell 2
  have hlen1 : (R.set i r2.next).length = R.length := List.length_set
  have HLEN := Lib.hid hlen1
  have D9 : (x'.k == 9) = false := by simp [hk]
  have D5 : (x'.k == 5) = false := by simp [hk]
  have D6 : (x'.k == 6) = false := by simp [hk]
  have D7 : (x'.k == 7) = true := by simp [hk]
  have D8 : (x'.k == 8) = false := by simp [hk]
  clear hk hC
  clear h3 hT hr2 hat hf2 hin hx' hao k1 k2 k3 k4 X8 hk1 o0 o1 o2 hlen1 hb0
  go_wp2_with fail
  refine wp_region_noPanic ?_
  refine wp_region_held_drew (S := (fun w' => w'.cell? (ad.add (i * 4)) = some (.slice (some op) r2.T.ops.length c1z) ∧ w'.cell? ⟨(ad.add (i * 4)).block, (ad.add (i * 4)).off + 1, none⟩ = some (.int .i64 r2.T.at_) ∧ w'.cell? (op.add (r2.T.at_ * 3)) = some (.int .i64 x'.k) ∧ w'.cell? ⟨(op.add (r2.T.at_ * 3)).block, (op.add (r2.T.at_ * 3)).off + 1, none⟩ = some (.int .i64 x'.obj) ∧ w'.cell? ⟨(op.add (r2.T.at_ * 3)).block, (op.add (r2.T.at_ * 3)).off + 2, none⟩ = some (.int .i64 x'.n))) (by kernel_rfl) hH (fun hHeld => ?_)
  refine tk 0 ?_
  (try simp only [pn])
  refine tk 1 ?_
  (try simp only [pn])
  refine tk 2 ?_
  (try simp only [pn])
  refine tk 3 ?_
  (try simp only [pn])
  refine tk 4 ?_
  (try simp only [pn])
  refine tk 5 ?_
  (try simp only [pn])
  refine tk 6 ?_
  (try simp only [pn])
  refine tk 7 ?_
  (try simp only [pn])
  refine tk 8 ?_
  (try simp only [pn])
  refine tk 9 ?_
  (try simp only [pn])
  refine rd 10 (fun K hK => ?_)
  go_simp
  refine hK.out _ _ (SBF.out _ kn) (fun hHeld => ?_)
  clear hK K
  (try simp only [pn])
  refine rd 11 (fun K hK => ?_)
  go_simp
  refine hK.out _ _ (SBF.out _ kn) (fun hHeld => ?_)
  clear hK K
  (try simp only [pn])
  refine wpAnyH_done (by kernel_rfl) ?_ _
  refine NoPanic.normal ?_
  clear hH
  have CC := Lib.hid (fun (X' : World) (hX : Keep Nothing (((w1.alloc (.cells #[.int .i64 i, .int .i64 r2.T.at_, .int .i64 0] 103)).alloc (.cells x'.cs 97)).setCell ⟨(ad.add (i * 4)).block, (ad.add (i * 4)).off + 1, none⟩ (.int .i64 ((r2.T.at_ : Int) + 1))) X') => HCC.out ad X' _ SE.out rfl (H6.out.kept S6.out hX))
  go_wp2_with fail
  refine (CC.out _ kn).mono ?_
  rintro e w8 ⟨wait, er, R8, O8, hP8, hl8, rfl, h8⟩
  have HPP := Lib.hid hP8
  have RLEN := Lib.hid hl8
  have HH := Lib.hid h8
  clear hP8 hl8 h8
  rcases (show wait = false ∨ (wait = true ∧ er = 0) ∨ (wait = true ∧ er ≠ 0) by cases wait <;> simp <;> omega) with qw | ⟨qw, qe⟩ | ⟨qw, qe⟩
  · subst qw
    have hT9 := ref_tasks HH.out (by rw [RLEN.out]; exact HRL0.out)
    obtain ⟨adq, rq, hAq, hrq, hatq⟩ := rt_at hT9.src (show i < (R8).length by rw [RLEN.out]; exact hil)
    injection hAq with hAq
    subst hAq
    have HRQ := Lib.hid hrq
    have cb9 := hatq.b
    obtain ⟨fb9, h9⟩ := ref_set HH.out SE.out hrq (r' := rq.block false) (j := 2) (by omega) (by omega) (u := .bool false) rfl rfl
    have g9 : Holds B w0 _ (star (blkP w1.heap.size 103 #[.int .i64 i, .int .i64 r2.T.at_, .int .i64 0]) (star (refP b (some ad) c ((R8).set i (rq.block false)) (O8)) (star (blkP (w1.heap.size + 1) 97 x'.cs) (star (blkP w.heap.size 103 #[.int .i64 0, .int .i64 0, .int .i64 0]) Q)))) := h9.perm (by ac_rfl)
    have SG := Lib.hid (show Stable (star (refP b (some ad) c ((R8).set i (rq.block false)) (O8)) (star (blkP (w1.heap.size + 1) 97 x'.cs) (star (blkP w.heap.size 103 #[.int .i64 0, .int .i64 0, .int .i64 0]) Q))) from (refP_stable _ _ _ _ _).star ((blkP_stable _ _ _).star SR.out))
    have b9 := blk_at' g9
    have v2 := b9.cell 2
    have f2 := b9.free 2
    have g10 := g9.setBlk SG.out 2 (.int .i64 er)
    have b10 := blk_at' g10
    have v0 := b10.cell 0
    have v1 := b10.cell 1
    have v3 := b10.cell 2
    have g11 : Holds B w0 _ (star (blkP w.heap.size 103 #[.int .i64 0, .int .i64 0, .int .i64 0]) (star (blkP w1.heap.size 103 #[.int .i64 i, .int .i64 r2.T.at_, .int .i64 er]) (star (refP b (some ad) c ((R8).set i (rq.block false)) (O8)) (star (blkP (w1.heap.size + 1) 97 x'.cs) Q)))) := g10.perm (by
      show star (blkP w1.heap.size 103 #[.int .i64 i, .int .i64 r2.T.at_, .int .i64 er]) _ = _
      ac_rfl)
    have S11 : Stable (star (blkP w1.heap.size 103 #[.int .i64 i, .int .i64 r2.T.at_, .int .i64 er]) (star (refP b (some ad) c ((R8).set i (rq.block false)) (O8)) (star (blkP (w1.heap.size + 1) 97 x'.cs) Q))) := (blkP_stable _ _ _).star ((refP_stable _ _ _ _ _).star ((blkP_stable _ _ _).star HQ.out))
    obtain ⟨a0, n0, a1, n1, a2, n2, q0, q1, q2, p0, p1⟩ := store3 (blk_at' g11) (.int .i64 (i : Int)) (.int .i64 (r2.T.at_ : Int)) (.int .i64 er)
    have H12 := Lib.hid (held3 g11 S11 (.int .i64 (i : Int)) (.int .i64 (r2.T.at_ : Int)) (.int .i64 er))
    clear hT9 hrq hatq h9 g9 b9 g10 b10 g11 S11
    go_wp2_with fail
    refine bodyPost_ret (v := .tuple #[.agg #[.int .i64 i, .int .i64 r2.T.at_, .int .i64 er], .int .i64 0]) (by simp [results, Try.results65, go_sem, hu3, q0, q1, q2]) rfl ?_
    refine ⟨false, er, R8, O8, rq, HPP.out, RLEN.out, HRQ.out, rfl, ?_⟩
    have y1 := H12.out.drop.drop
    have y2 : Holds B w0 _ (star (blkP (w1.heap.size + 1) 97 x'.cs) (star (refP b (some ad) c ((R8).set i (rq.block false)) (O8)) Q)) := y1.perm (by ac_rfl)
    have y3 := y2.drop
    rw [show (false && (er : Int) == 0) = false by rfl]
    exact y3.kept ((refP_stable _ _ _ _ _).star HQ.out) kn
  · subst qw
    have de : ((er : Int) == 0) = true := by simp [qe]
    have QE := Lib.hid qe
    clear qe
    have hT9 := ref_tasks HH.out (by rw [RLEN.out]; exact HRL0.out)
    obtain ⟨adq, rq, hAq, hrq, hatq⟩ := rt_at hT9.src (show i < (R8).length by rw [RLEN.out]; exact hil)
    injection hAq with hAq
    subst hAq
    have HRQ := Lib.hid hrq
    have cb9 := hatq.b
    obtain ⟨fb9, h9⟩ := ref_set HH.out SE.out hrq (r' := rq.block true) (j := 2) (by omega) (by omega) (u := .bool true) rfl rfl
    have g9 : Holds B w0 _ (star (blkP w1.heap.size 103 #[.int .i64 i, .int .i64 r2.T.at_, .int .i64 0]) (star (refP b (some ad) c ((R8).set i (rq.block true)) (O8)) (star (blkP (w1.heap.size + 1) 97 x'.cs) (star (blkP w.heap.size 103 #[.int .i64 0, .int .i64 0, .int .i64 0]) Q)))) := h9.perm (by ac_rfl)
    have SG := Lib.hid (show Stable (star (refP b (some ad) c ((R8).set i (rq.block true)) (O8)) (star (blkP (w1.heap.size + 1) 97 x'.cs) (star (blkP w.heap.size 103 #[.int .i64 0, .int .i64 0, .int .i64 0]) Q))) from (refP_stable _ _ _ _ _).star ((blkP_stable _ _ _).star SR.out))
    have b9 := blk_at' g9
    have v2 := b9.cell 2
    have f2 := b9.free 2
    have g10 := g9.setBlk SG.out 2 (.int .i64 er)
    have b10 := blk_at' g10
    have v0 := b10.cell 0
    have v1 := b10.cell 1
    have v3 := b10.cell 2
    have g11 : Holds B w0 _ (star (blkP w.heap.size 103 #[.int .i64 0, .int .i64 0, .int .i64 0]) (star (blkP w1.heap.size 103 #[.int .i64 i, .int .i64 r2.T.at_, .int .i64 er]) (star (refP b (some ad) c ((R8).set i (rq.block true)) (O8)) (star (blkP (w1.heap.size + 1) 97 x'.cs) Q)))) := g10.perm (by
      show star (blkP w1.heap.size 103 #[.int .i64 i, .int .i64 r2.T.at_, .int .i64 er]) _ = _
      ac_rfl)
    have S11 : Stable (star (blkP w1.heap.size 103 #[.int .i64 i, .int .i64 r2.T.at_, .int .i64 er]) (star (refP b (some ad) c ((R8).set i (rq.block true)) (O8)) (star (blkP (w1.heap.size + 1) 97 x'.cs) Q))) := (blkP_stable _ _ _).star ((refP_stable _ _ _ _ _).star ((blkP_stable _ _ _).star HQ.out))
    obtain ⟨a0, n0, a1, n1, a2, n2, q0, q1, q2, p0, p1⟩ := store3 (blk_at' g11) (.int .i64 (i : Int)) (.int .i64 (r2.T.at_ : Int)) (.int .i64 er)
    have H12 := Lib.hid (held3 g11 S11 (.int .i64 (i : Int)) (.int .i64 (r2.T.at_ : Int)) (.int .i64 er))
    clear hT9 hrq hatq h9 g9 b9 g10 b10 g11 S11
    go_wp2_with fail
    refine bodyPost_ret (v := .tuple #[.agg #[.int .i64 i, .int .i64 r2.T.at_, .int .i64 er], .int .i64 0]) (by simp [results, Try.results65, go_sem, hu3, q0, q1, q2]) rfl ?_
    refine ⟨true, er, R8, O8, rq, HPP.out, RLEN.out, HRQ.out, rfl, ?_⟩
    have y1 := H12.out.drop.drop
    have y2 : Holds B w0 _ (star (blkP (w1.heap.size + 1) 97 x'.cs) (star (refP b (some ad) c ((R8).set i (rq.block true)) (O8)) Q)) := y1.perm (by ac_rfl)
    have y3 := y2.drop
    rw [show (true && (er : Int) == 0) = true by simp [QE.out]]
    exact y3.kept ((refP_stable _ _ _ _ _).star HQ.out) kn
  · subst qw
    have de : ((er : Int) == 0) = false := by simp [qe]
    have QE := Lib.hid qe
    clear qe
    have hT9 := ref_tasks HH.out (by rw [RLEN.out]; exact HRL0.out)
    obtain ⟨adq, rq, hAq, hrq, hatq⟩ := rt_at hT9.src (show i < (R8).length by rw [RLEN.out]; exact hil)
    injection hAq with hAq
    subst hAq
    have HRQ := Lib.hid hrq
    have cb9 := hatq.b
    obtain ⟨fb9, h9⟩ := ref_set HH.out SE.out hrq (r' := rq.block false) (j := 2) (by omega) (by omega) (u := .bool false) rfl rfl
    have g9 : Holds B w0 _ (star (blkP w1.heap.size 103 #[.int .i64 i, .int .i64 r2.T.at_, .int .i64 0]) (star (refP b (some ad) c ((R8).set i (rq.block false)) (O8)) (star (blkP (w1.heap.size + 1) 97 x'.cs) (star (blkP w.heap.size 103 #[.int .i64 0, .int .i64 0, .int .i64 0]) Q)))) := h9.perm (by ac_rfl)
    have SG := Lib.hid (show Stable (star (refP b (some ad) c ((R8).set i (rq.block false)) (O8)) (star (blkP (w1.heap.size + 1) 97 x'.cs) (star (blkP w.heap.size 103 #[.int .i64 0, .int .i64 0, .int .i64 0]) Q))) from (refP_stable _ _ _ _ _).star ((blkP_stable _ _ _).star SR.out))
    have b9 := blk_at' g9
    have v2 := b9.cell 2
    have f2 := b9.free 2
    have g10 := g9.setBlk SG.out 2 (.int .i64 er)
    have b10 := blk_at' g10
    have v0 := b10.cell 0
    have v1 := b10.cell 1
    have v3 := b10.cell 2
    have g11 : Holds B w0 _ (star (blkP w.heap.size 103 #[.int .i64 0, .int .i64 0, .int .i64 0]) (star (blkP w1.heap.size 103 #[.int .i64 i, .int .i64 r2.T.at_, .int .i64 er]) (star (refP b (some ad) c ((R8).set i (rq.block false)) (O8)) (star (blkP (w1.heap.size + 1) 97 x'.cs) Q)))) := g10.perm (by
      show star (blkP w1.heap.size 103 #[.int .i64 i, .int .i64 r2.T.at_, .int .i64 er]) _ = _
      ac_rfl)
    have S11 : Stable (star (blkP w1.heap.size 103 #[.int .i64 i, .int .i64 r2.T.at_, .int .i64 er]) (star (refP b (some ad) c ((R8).set i (rq.block false)) (O8)) (star (blkP (w1.heap.size + 1) 97 x'.cs) Q))) := (blkP_stable _ _ _).star ((refP_stable _ _ _ _ _).star ((blkP_stable _ _ _).star HQ.out))
    obtain ⟨a0, n0, a1, n1, a2, n2, q0, q1, q2, p0, p1⟩ := store3 (blk_at' g11) (.int .i64 (i : Int)) (.int .i64 (r2.T.at_ : Int)) (.int .i64 er)
    have H12 := Lib.hid (held3 g11 S11 (.int .i64 (i : Int)) (.int .i64 (r2.T.at_ : Int)) (.int .i64 er))
    clear hT9 hrq hatq h9 g9 b9 g10 b10 g11 S11
    go_wp2_with fail
    refine bodyPost_ret (v := .tuple #[.agg #[.int .i64 i, .int .i64 r2.T.at_, .int .i64 er], .int .i64 0]) (by simp [results, Try.results65, go_sem, hu3, q0, q1, q2]) rfl ?_
    refine ⟨true, er, R8, O8, rq, HPP.out, RLEN.out, HRQ.out, rfl, ?_⟩
    have y1 := H12.out.drop.drop
    have y2 : Holds B w0 _ (star (blkP (w1.heap.size + 1) 97 x'.cs) (star (refP b (some ad) c ((R8).set i (rq.block false)) (O8)) Q)) := y1.perm (by ac_rfl)
    have y3 := y2.drop
    rw [show (true && (er : Int) == 0) = false by simp [QE.out]]
    exact y3.kept ((refP_stable _ _ _ _ _).star HQ.out) kn
theorem rstep_o8 {x : Op3} (h : Holds B w0 w (star (refP b A c R O) Q)) (hQ : Stable Q) (hR : R.length ≤ 1000000) (i : Nat) (r : RTk) (hr : R[i]? = some r) (hrd : r.T.ready = true) (hx : r.T.ops[r.T.at_]? = some x) (hops : r.T.ops.length ≤ 1000000) (P : Bool → Int → List RTk → List RO → Prop) (hk : x.k = 8) (hC : ∀ (ad : Addr) (W' : World) (Q' : SP), Stable Q' → A = some ad → Holds B w0 W' (star (refP b (some ad) c (R.set i r.next) O) Q') → Calls Try.prog 96 #[.pointer (some ⟨b, 0, none⟩), .int .i64 i, x.val] W' (RA B w0 b (some ad) c R.length P Q')) :
    Calls Try.prog 65 #[.pointer (some ⟨b, 0, none⟩), .int .i64 i] w (RSt B w0 b A c R.length i r.T.at_ P Q) := by
  have hu := Try.underlying155
  have hu2 := Try.underlying97
  have hu3 := Try.underlying103
  have hu4 := Try.underlying157
  have hu5 := Try.underlying160
  have hf4 := fun a b c d e f w => fld4 a b c d e f w
  have HQ := Lib.hid hQ
  have HRL0 := Lib.hid hR
  have HR := Lib.hid hr
  have HX := Lib.hid hx
  have HOP := Lib.hid hops
  have HRD := Lib.hid hrd
  have HCC := Lib.hid hC
  have S0 := Lib.hid (show Stable (star (refP b A c R O) Q) from (refP_stable _ _ _ _ _).star hQ)
  have h1 := h.newBlk S0.out 103 #[.int .i64 0, .int .i64 0, .int .i64 0]
  have h2 : Holds B w0 (w.alloc (.cells #[.int .i64 0, .int .i64 0, .int .i64 0] 103)) (star (refP b A c R O) (star (blkP w.heap.size 103 #[.int .i64 0, .int .i64 0, .int .i64 0]) Q)) := h1.perm (by ac_rfl)
  have SR := Lib.hid (show Stable (star (blkP w.heap.size 103 #[.int .i64 0, .int .i64 0, .int .i64 0]) Q) from (blkP_stable _ _ _).star hQ)
  have H2 := Lib.hid h2
  have RD := ready93 _ b R A c (ref_tasks h2 hR) (i : Int)
  rw [rdy_at hr, hrd] at RD
  have RD := Lib.hid RD
  have hil := (List.getElem?_eq_some_iff.1 hr).1
  clear h hQ h1 h2 hr hx hops hrd
  go_enter Try.func65, Try.ntmps65
  go_wp2_with fail
  refine RD.out.mono ?_
  rintro e w1 ⟨rfl, hk1⟩
  have h3 := H2.out.kept ((refP_stable _ _ _ _ _).star SR.out) hk1
  have hT := ref_tasks h3 hR
  obtain ⟨ad, r2, hA, hr2, hat⟩ := rt_at hT.src hil
  subst hA
  obtain rfl : r2 = r := by rw [HR.out] at hr2; injection hr2 with e; exact e.symm
  have c0 := hT.c0
  obtain ⟨A1z, c1z, A2z, c2z, hf1, hf2⟩ := hT.form r2 (List.mem_of_getElem? HR.out)
  have hin := ref_inner h3 (List.mem_of_getElem? HR.out)
  rw [hf1] at hin
  obtain ⟨hb0, hlt0⟩ := ready_lt' HRD.out
  obtain ⟨op, x', hOA, hx', o0, o1, o2⟩ := op_at hin.1.src hlt0
  subst hOA
  obtain rfl : x' = x := by rw [HX.out] at hx'; injection hx' with e; exact e.symm
  have hao := hat.o
  have haa := hat.a
  rw [hf1] at hao
  have hbA := HOP.out
  have hw1 : IntKind.i64.wrap ((r2.T.at_ : Int) + 1) = (r2.T.at_ : Int) + 1 := by rw [IntKind.wrap_i64]; omega
  have hw2 : wrap64 ((r2.T.at_ : Int) + 1) = (r2.T.at_ : Int) + 1 := by unfold wrap64; omega
  have k1 := h3.newBlk ((refP_stable _ _ _ _ _).star SR.out) 103 #[.int .i64 i, .int .i64 r2.T.at_, .int .i64 0]
  have k2 := k1.newBlk ((blkP_stable _ _ _).star ((refP_stable _ _ _ _ _).star SR.out)) 97 x'.cs
  rw [size_alloc] at k2
  have KA := Lib.hid ((Keep.same Nothing w1).alloc (.cells #[.int .i64 i, .int .i64 r2.T.at_, .int .i64 0] 103))
  have hH : (fun w' => w'.cell? (ad.add (i * 4)) = some (.slice (some op) r2.T.ops.length c1z) ∧ w'.cell? ⟨(ad.add (i * 4)).block, (ad.add (i * 4)).off + 1, none⟩ = some (.int .i64 r2.T.at_) ∧ w'.cell? (op.add (r2.T.at_ * 3)) = some (.int .i64 x'.k) ∧ w'.cell? ⟨(op.add (r2.T.at_ * 3)).block, (op.add (r2.T.at_ * 3)).off + 1, none⟩ = some (.int .i64 x'.obj) ∧ w'.cell? ⟨(op.add (r2.T.at_ * 3)).block, (op.add (r2.T.at_ * 3)).off + 2, none⟩ = some (.int .i64 x'.n)) (w1.alloc (.cells #[.int .i64 i, .int .i64 r2.T.at_, .int .i64 0] 103)) := ⟨KA.out.cell hao (fun h => h), KA.out.cell haa (fun h => h), KA.out.cell o0 (fun h => h), KA.out.cell o1 (fun h => h), KA.out.cell o2 (fun h => h)⟩
  have SBF := Lib.hid (fun (X' : World) (hX : Keep Nothing (w1.alloc (.cells #[.int .i64 i, .int .i64 r2.T.at_, .int .i64 0] 103)) X') => show (fun w' => w'.cell? (ad.add (i * 4)) = some (.slice (some op) r2.T.ops.length c1z) ∧ w'.cell? ⟨(ad.add (i * 4)).block, (ad.add (i * 4)).off + 1, none⟩ = some (.int .i64 r2.T.at_) ∧ w'.cell? (op.add (r2.T.at_ * 3)) = some (.int .i64 x'.k) ∧ w'.cell? ⟨(op.add (r2.T.at_ * 3)).block, (op.add (r2.T.at_ * 3)).off + 1, none⟩ = some (.int .i64 x'.obj) ∧ w'.cell? ⟨(op.add (r2.T.at_ * 3)).block, (op.add (r2.T.at_ * 3)).off + 2, none⟩ = some (.int .i64 x'.n)) X' from ⟨hX.cell hH.1 (fun h => h), hX.cell hH.2.1 (fun h => h), hX.cell hH.2.2.1 (fun h => h), hX.cell hH.2.2.2.1 (fun h => h), hX.cell hH.2.2.2.2 (fun h => h)⟩)
  dsimp only at hH
  have k3 : Holds B w0 ((w1.alloc (.cells #[.int .i64 i, .int .i64 r2.T.at_, .int .i64 0] 103)).alloc (.cells x'.cs 97)) (star (refP b (some ad) c R O) (star (blkP w1.heap.size 103 #[.int .i64 i, .int .i64 r2.T.at_, .int .i64 0]) (star (blkP (w1.heap.size + 1) 97 x'.cs) (star (blkP w.heap.size 103 #[.int .i64 0, .int .i64 0, .int .i64 0]) Q)))) := k2.perm (by ac_rfl)
  have SE := Lib.hid (show Stable (star (blkP w1.heap.size 103 #[.int .i64 i, .int .i64 r2.T.at_, .int .i64 0]) (star (blkP (w1.heap.size + 1) 97 x'.cs) (star (blkP w.heap.size 103 #[.int .i64 0, .int .i64 0, .int .i64 0]) Q))) from (blkP_stable _ _ _).star ((blkP_stable _ _ _).star SR.out))
  have ca := ((Keep.same Nothing _).alloc (.cells x'.cs 97)).cell (KA.out.cell haa (fun h => h)) (fun h => h)
  obtain ⟨fz, k4⟩ := ref_set k3 SE.out HR.out (r' := r2.next) (j := 1) (by omega) (by omega) (u := .int .i64 ((r2.T.at_ : Int) + 1)) (by unfold RTk.next Tk.next; simp) rfl
  have H6 := Lib.hid k4
  have S6 := Lib.hid (show Stable (star (refP b (some ad) c (R.set i r2.next) O) (star (blkP w1.heap.size 103 #[.int .i64 i, .int .i64 r2.T.at_, .int .i64 0]) (star (blkP (w1.heap.size + 1) 97 x'.cs) (star (blkP w.heap.size 103 #[.int .i64 0, .int .i64 0, .int .i64 0]) Q)))) from (refP_stable _ _ _ _ _).star SE.out)
  have X8 := blk_at' (show Holds B w0 (((w1.alloc (.cells #[.int .i64 i, .int .i64 r2.T.at_, .int .i64 0] 103)).alloc (.cells x'.cs 97)).setCell ⟨(ad.add (i * 4)).block, (ad.add (i * 4)).off + 1, none⟩ (.int .i64 ((r2.T.at_ : Int) + 1))) (star (blkP (w1.heap.size + 1) 97 x'.cs) (star (refP b (some ad) c (R.set i r2.next) O) (star (blkP w1.heap.size 103 #[.int .i64 i, .int .i64 r2.T.at_, .int .i64 0]) (star (blkP w.heap.size 103 #[.int .i64 0, .int .i64 0, .int .i64 0]) Q)))) from k4.perm (by ac_rfl))
  have z0 := X8.cell 0
  have z1 := X8.cell 1
  have z2 := X8.cell 2
  have hlen1 : (R.set i r2.next).length = R.length := List.length_set
  have HLEN := Lib.hid hlen1
  have D9 : (x'.k == 9) = false := by simp [hk]
  have D5 : (x'.k == 5) = false := by simp [hk]
  have D6 : (x'.k == 6) = false := by simp [hk]
  have D7 : (x'.k == 7) = false := by simp [hk]
  have D8 : (x'.k == 8) = true := by simp [hk]
  clear hk hC
  clear h3 hT hr2 hat hf2 hin hx' hao k1 k2 k3 k4 X8 hk1 o0 o1 o2 hlen1 hb0
  go_wp2_with fail
  refine wp_region_noPanic ?_
  refine wp_region_held_drew (S := (fun w' => w'.cell? (ad.add (i * 4)) = some (.slice (some op) r2.T.ops.length c1z) ∧ w'.cell? ⟨(ad.add (i * 4)).block, (ad.add (i * 4)).off + 1, none⟩ = some (.int .i64 r2.T.at_) ∧ w'.cell? (op.add (r2.T.at_ * 3)) = some (.int .i64 x'.k) ∧ w'.cell? ⟨(op.add (r2.T.at_ * 3)).block, (op.add (r2.T.at_ * 3)).off + 1, none⟩ = some (.int .i64 x'.obj) ∧ w'.cell? ⟨(op.add (r2.T.at_ * 3)).block, (op.add (r2.T.at_ * 3)).off + 2, none⟩ = some (.int .i64 x'.n))) (by kernel_rfl) hH (fun hHeld => ?_)
  refine tk 0 ?_
  (try simp only [pn])
  refine tk 1 ?_
  (try simp only [pn])
  refine tk 2 ?_
  (try simp only [pn])
  refine tk 3 ?_
  (try simp only [pn])
  refine tk 4 ?_
  (try simp only [pn])
  refine tk 5 ?_
  (try simp only [pn])
  refine tk 6 ?_
  (try simp only [pn])
  refine tk 7 ?_
  (try simp only [pn])
  refine tk 8 ?_
  (try simp only [pn])
  refine tk 9 ?_
  (try simp only [pn])
  refine rd 10 (fun K hK => ?_)
  go_simp
  refine hK.out _ _ (SBF.out _ kn) (fun hHeld => ?_)
  clear hK K
  (try simp only [pn])
  refine rd 11 (fun K hK => ?_)
  go_simp
  refine hK.out _ _ (SBF.out _ kn) (fun hHeld => ?_)
  clear hK K
  (try simp only [pn])
  refine wpAnyH_done (by kernel_rfl) ?_ _
  refine NoPanic.normal ?_
  clear hH
  have CC := Lib.hid (fun (X' : World) (hX : Keep Nothing (((w1.alloc (.cells #[.int .i64 i, .int .i64 r2.T.at_, .int .i64 0] 103)).alloc (.cells x'.cs 97)).setCell ⟨(ad.add (i * 4)).block, (ad.add (i * 4)).off + 1, none⟩ (.int .i64 ((r2.T.at_ : Int) + 1))) X') => HCC.out ad X' _ SE.out rfl (H6.out.kept S6.out hX))
  go_wp2_with fail
  refine (CC.out _ kn).mono ?_
  rintro e w8 ⟨wait, er, R8, O8, hP8, hl8, rfl, h8⟩
  have HPP := Lib.hid hP8
  have RLEN := Lib.hid hl8
  have HH := Lib.hid h8
  clear hP8 hl8 h8
  rcases (show wait = false ∨ (wait = true ∧ er = 0) ∨ (wait = true ∧ er ≠ 0) by cases wait <;> simp <;> omega) with qw | ⟨qw, qe⟩ | ⟨qw, qe⟩
  · subst qw
    have hT9 := ref_tasks HH.out (by rw [RLEN.out]; exact HRL0.out)
    obtain ⟨adq, rq, hAq, hrq, hatq⟩ := rt_at hT9.src (show i < (R8).length by rw [RLEN.out]; exact hil)
    injection hAq with hAq
    subst hAq
    have HRQ := Lib.hid hrq
    have cb9 := hatq.b
    obtain ⟨fb9, h9⟩ := ref_set HH.out SE.out hrq (r' := rq.block false) (j := 2) (by omega) (by omega) (u := .bool false) rfl rfl
    have g9 : Holds B w0 _ (star (blkP w1.heap.size 103 #[.int .i64 i, .int .i64 r2.T.at_, .int .i64 0]) (star (refP b (some ad) c ((R8).set i (rq.block false)) (O8)) (star (blkP (w1.heap.size + 1) 97 x'.cs) (star (blkP w.heap.size 103 #[.int .i64 0, .int .i64 0, .int .i64 0]) Q)))) := h9.perm (by ac_rfl)
    have SG := Lib.hid (show Stable (star (refP b (some ad) c ((R8).set i (rq.block false)) (O8)) (star (blkP (w1.heap.size + 1) 97 x'.cs) (star (blkP w.heap.size 103 #[.int .i64 0, .int .i64 0, .int .i64 0]) Q))) from (refP_stable _ _ _ _ _).star ((blkP_stable _ _ _).star SR.out))
    have b9 := blk_at' g9
    have v2 := b9.cell 2
    have f2 := b9.free 2
    have g10 := g9.setBlk SG.out 2 (.int .i64 er)
    have b10 := blk_at' g10
    have v0 := b10.cell 0
    have v1 := b10.cell 1
    have v3 := b10.cell 2
    have g11 : Holds B w0 _ (star (blkP w.heap.size 103 #[.int .i64 0, .int .i64 0, .int .i64 0]) (star (blkP w1.heap.size 103 #[.int .i64 i, .int .i64 r2.T.at_, .int .i64 er]) (star (refP b (some ad) c ((R8).set i (rq.block false)) (O8)) (star (blkP (w1.heap.size + 1) 97 x'.cs) Q)))) := g10.perm (by
      show star (blkP w1.heap.size 103 #[.int .i64 i, .int .i64 r2.T.at_, .int .i64 er]) _ = _
      ac_rfl)
    have S11 : Stable (star (blkP w1.heap.size 103 #[.int .i64 i, .int .i64 r2.T.at_, .int .i64 er]) (star (refP b (some ad) c ((R8).set i (rq.block false)) (O8)) (star (blkP (w1.heap.size + 1) 97 x'.cs) Q))) := (blkP_stable _ _ _).star ((refP_stable _ _ _ _ _).star ((blkP_stable _ _ _).star HQ.out))
    obtain ⟨a0, n0, a1, n1, a2, n2, q0, q1, q2, p0, p1⟩ := store3 (blk_at' g11) (.int .i64 (i : Int)) (.int .i64 (r2.T.at_ : Int)) (.int .i64 er)
    have H12 := Lib.hid (held3 g11 S11 (.int .i64 (i : Int)) (.int .i64 (r2.T.at_ : Int)) (.int .i64 er))
    clear hT9 hrq hatq h9 g9 b9 g10 b10 g11 S11
    go_wp2_with fail
    refine bodyPost_ret (v := .tuple #[.agg #[.int .i64 i, .int .i64 r2.T.at_, .int .i64 er], .int .i64 0]) (by simp [results, Try.results65, go_sem, hu3, q0, q1, q2]) rfl ?_
    refine ⟨false, er, R8, O8, rq, HPP.out, RLEN.out, HRQ.out, rfl, ?_⟩
    have y1 := H12.out.drop.drop
    have y2 : Holds B w0 _ (star (blkP (w1.heap.size + 1) 97 x'.cs) (star (refP b (some ad) c ((R8).set i (rq.block false)) (O8)) Q)) := y1.perm (by ac_rfl)
    have y3 := y2.drop
    rw [show (false && (er : Int) == 0) = false by rfl]
    exact y3.kept ((refP_stable _ _ _ _ _).star HQ.out) kn
  · subst qw
    have de : ((er : Int) == 0) = true := by simp [qe]
    have QE := Lib.hid qe
    clear qe
    have hT9 := ref_tasks HH.out (by rw [RLEN.out]; exact HRL0.out)
    obtain ⟨adq, rq, hAq, hrq, hatq⟩ := rt_at hT9.src (show i < (R8).length by rw [RLEN.out]; exact hil)
    injection hAq with hAq
    subst hAq
    have HRQ := Lib.hid hrq
    have cb9 := hatq.b
    obtain ⟨fb9, h9⟩ := ref_set HH.out SE.out hrq (r' := rq.block true) (j := 2) (by omega) (by omega) (u := .bool true) rfl rfl
    have g9 : Holds B w0 _ (star (blkP w1.heap.size 103 #[.int .i64 i, .int .i64 r2.T.at_, .int .i64 0]) (star (refP b (some ad) c ((R8).set i (rq.block true)) (O8)) (star (blkP (w1.heap.size + 1) 97 x'.cs) (star (blkP w.heap.size 103 #[.int .i64 0, .int .i64 0, .int .i64 0]) Q)))) := h9.perm (by ac_rfl)
    have SG := Lib.hid (show Stable (star (refP b (some ad) c ((R8).set i (rq.block true)) (O8)) (star (blkP (w1.heap.size + 1) 97 x'.cs) (star (blkP w.heap.size 103 #[.int .i64 0, .int .i64 0, .int .i64 0]) Q))) from (refP_stable _ _ _ _ _).star ((blkP_stable _ _ _).star SR.out))
    have b9 := blk_at' g9
    have v2 := b9.cell 2
    have f2 := b9.free 2
    have g10 := g9.setBlk SG.out 2 (.int .i64 er)
    have b10 := blk_at' g10
    have v0 := b10.cell 0
    have v1 := b10.cell 1
    have v3 := b10.cell 2
    have g11 : Holds B w0 _ (star (blkP w.heap.size 103 #[.int .i64 0, .int .i64 0, .int .i64 0]) (star (blkP w1.heap.size 103 #[.int .i64 i, .int .i64 r2.T.at_, .int .i64 er]) (star (refP b (some ad) c ((R8).set i (rq.block true)) (O8)) (star (blkP (w1.heap.size + 1) 97 x'.cs) Q)))) := g10.perm (by
      show star (blkP w1.heap.size 103 #[.int .i64 i, .int .i64 r2.T.at_, .int .i64 er]) _ = _
      ac_rfl)
    have S11 : Stable (star (blkP w1.heap.size 103 #[.int .i64 i, .int .i64 r2.T.at_, .int .i64 er]) (star (refP b (some ad) c ((R8).set i (rq.block true)) (O8)) (star (blkP (w1.heap.size + 1) 97 x'.cs) Q))) := (blkP_stable _ _ _).star ((refP_stable _ _ _ _ _).star ((blkP_stable _ _ _).star HQ.out))
    obtain ⟨a0, n0, a1, n1, a2, n2, q0, q1, q2, p0, p1⟩ := store3 (blk_at' g11) (.int .i64 (i : Int)) (.int .i64 (r2.T.at_ : Int)) (.int .i64 er)
    have H12 := Lib.hid (held3 g11 S11 (.int .i64 (i : Int)) (.int .i64 (r2.T.at_ : Int)) (.int .i64 er))
    clear hT9 hrq hatq h9 g9 b9 g10 b10 g11 S11
    go_wp2_with fail
    refine bodyPost_ret (v := .tuple #[.agg #[.int .i64 i, .int .i64 r2.T.at_, .int .i64 er], .int .i64 0]) (by simp [results, Try.results65, go_sem, hu3, q0, q1, q2]) rfl ?_
    refine ⟨true, er, R8, O8, rq, HPP.out, RLEN.out, HRQ.out, rfl, ?_⟩
    have y1 := H12.out.drop.drop
    have y2 : Holds B w0 _ (star (blkP (w1.heap.size + 1) 97 x'.cs) (star (refP b (some ad) c ((R8).set i (rq.block true)) (O8)) Q)) := y1.perm (by ac_rfl)
    have y3 := y2.drop
    rw [show (true && (er : Int) == 0) = true by simp [QE.out]]
    exact y3.kept ((refP_stable _ _ _ _ _).star HQ.out) kn
  · subst qw
    have de : ((er : Int) == 0) = false := by simp [qe]
    have QE := Lib.hid qe
    clear qe
    have hT9 := ref_tasks HH.out (by rw [RLEN.out]; exact HRL0.out)
    obtain ⟨adq, rq, hAq, hrq, hatq⟩ := rt_at hT9.src (show i < (R8).length by rw [RLEN.out]; exact hil)
    injection hAq with hAq
    subst hAq
    have HRQ := Lib.hid hrq
    have cb9 := hatq.b
    obtain ⟨fb9, h9⟩ := ref_set HH.out SE.out hrq (r' := rq.block false) (j := 2) (by omega) (by omega) (u := .bool false) rfl rfl
    have g9 : Holds B w0 _ (star (blkP w1.heap.size 103 #[.int .i64 i, .int .i64 r2.T.at_, .int .i64 0]) (star (refP b (some ad) c ((R8).set i (rq.block false)) (O8)) (star (blkP (w1.heap.size + 1) 97 x'.cs) (star (blkP w.heap.size 103 #[.int .i64 0, .int .i64 0, .int .i64 0]) Q)))) := h9.perm (by ac_rfl)
    have SG := Lib.hid (show Stable (star (refP b (some ad) c ((R8).set i (rq.block false)) (O8)) (star (blkP (w1.heap.size + 1) 97 x'.cs) (star (blkP w.heap.size 103 #[.int .i64 0, .int .i64 0, .int .i64 0]) Q))) from (refP_stable _ _ _ _ _).star ((blkP_stable _ _ _).star SR.out))
    have b9 := blk_at' g9
    have v2 := b9.cell 2
    have f2 := b9.free 2
    have g10 := g9.setBlk SG.out 2 (.int .i64 er)
    have b10 := blk_at' g10
    have v0 := b10.cell 0
    have v1 := b10.cell 1
    have v3 := b10.cell 2
    have g11 : Holds B w0 _ (star (blkP w.heap.size 103 #[.int .i64 0, .int .i64 0, .int .i64 0]) (star (blkP w1.heap.size 103 #[.int .i64 i, .int .i64 r2.T.at_, .int .i64 er]) (star (refP b (some ad) c ((R8).set i (rq.block false)) (O8)) (star (blkP (w1.heap.size + 1) 97 x'.cs) Q)))) := g10.perm (by
      show star (blkP w1.heap.size 103 #[.int .i64 i, .int .i64 r2.T.at_, .int .i64 er]) _ = _
      ac_rfl)
    have S11 : Stable (star (blkP w1.heap.size 103 #[.int .i64 i, .int .i64 r2.T.at_, .int .i64 er]) (star (refP b (some ad) c ((R8).set i (rq.block false)) (O8)) (star (blkP (w1.heap.size + 1) 97 x'.cs) Q))) := (blkP_stable _ _ _).star ((refP_stable _ _ _ _ _).star ((blkP_stable _ _ _).star HQ.out))
    obtain ⟨a0, n0, a1, n1, a2, n2, q0, q1, q2, p0, p1⟩ := store3 (blk_at' g11) (.int .i64 (i : Int)) (.int .i64 (r2.T.at_ : Int)) (.int .i64 er)
    have H12 := Lib.hid (held3 g11 S11 (.int .i64 (i : Int)) (.int .i64 (r2.T.at_ : Int)) (.int .i64 er))
    clear hT9 hrq hatq h9 g9 b9 g10 b10 g11 S11
    go_wp2_with fail
    refine bodyPost_ret (v := .tuple #[.agg #[.int .i64 i, .int .i64 r2.T.at_, .int .i64 er], .int .i64 0]) (by simp [results, Try.results65, go_sem, hu3, q0, q1, q2]) rfl ?_
    refine ⟨true, er, R8, O8, rq, HPP.out, RLEN.out, HRQ.out, rfl, ?_⟩
    have y1 := H12.out.drop.drop
    have y2 : Holds B w0 _ (star (blkP (w1.heap.size + 1) 97 x'.cs) (star (refP b (some ad) c ((R8).set i (rq.block false)) (O8)) Q)) := y1.perm (by ac_rfl)
    have y3 := y2.drop
    rw [show (true && (er : Int) == 0) = false by simp [QE.out]]
    exact y3.kept ((refP_stable _ _ _ _ _).star HQ.out) kn
end
end Go.Proofs.Ytmohpjkbhpgidaa.A
namespace Go.Proofs.Ytmohpjkbhpgidaa.A
open Go.RowKit Go.Proofs.Ytmohpjkbhpgidaa.U
set_option linter.unusedVariables false
set_option linter.unusedSimpArgs false
set_option maxRecDepth 100000
set_option maxHeartbeats 1600000

/-- What a call on an object of kind K makes of the reference's tasks and objects. -/
def RPl (O : List RO) (R : List RTk) (K : Int) (x : Op3) (i : Int) (wait : Bool) (er : Int) (R8 : List RTk) (O8 : List RO) : Prop :=
  ∃ (O1 : List RO) (j : Nat) (o : RO), O1[j]? = some o ∧ o.key = (K, x.obj) ∧ (∀ (j' : Nat) (o' : RO), j' < j → O1[j']? = some o' → o'.key ≠ (K, x.obj)) ∧ (O1 = O ∨ (O1 = O ++ [o] ∧ o.st = freshR K ∧ ∀ o ∈ O, o.key ≠ (K, x.obj))) ∧
    wait = (doS o.st x i zT).wait ∧ er = (doS o.st x i zT).er ∧ R8 = wakeR R (doS o.st x i zT).wk ∧ O8 = O1.set j { o with st := (doS o.st x i zT).st }
section
variable {B : Nat} {w0 w : World} {Q : SP} {b : Nat} {A : Option Addr} {ad : Addr} {c : Nat} {R : List RTk} {O : List RO}
theorem gR_len' (n d : Int) (L : List Int) : (gR n d L).length ≤ L.length := by
  unfold gR
  split
  · exact Nat.le_refl _
  · exact Nat.zero_le _
theorem rstep_5 {x : Op3} (h : Holds B w0 w (star (refP b A c R O) Q)) (hQ : Stable Q) (hR : R.length ≤ 1000000) (i : Nat) (r : RTk) (hr : R[i]? = some r) (hrd : r.T.ready = true) (hx : r.T.ops[r.T.at_]? = some x) (hops : r.T.ops.length ≤ 1000000) (P : Bool → Int → List RTk → List RO → Prop) (hk : x.k = 5) (hO : O.length ≤ 1000000) {k0 n0 : Nat} (hok : ∀ o ∈ O, o.st.ok k0 n0 ∧ mg o.st) (hk0 : k0 ≤ 500000) (hn0 : n0 = R.length) (hxb : -9223372036854775808 ≤ x.n ∧ x.n ≤ 9223372036854775807) (hP : ∀ wait er R8 O8, RPl O (R.set i r.next) 2 x i wait er R8 O8 → P wait er R8 O8) :
    Calls Try.prog 65 #[.pointer (some ⟨b, 0, none⟩), .int .i64 i] w (RSt B w0 b A c R.length i r.T.at_ P Q) := by
  have hu := Try.underlying155
  have hu2 := Try.underlying97
  have hu3 := Try.underlying103
  have hu4 := Try.underlying157
  have hu5 := Try.underlying160
  have hf4 := fun a b c d e f w => fld4 a b c d e f w
  have HQ := Lib.hid hQ
  have HRL0 := Lib.hid hR
  have HR := Lib.hid hr
  have HX := Lib.hid hx
  have HOP := Lib.hid hops
  have HRD := Lib.hid hrd
  have HPA := Lib.hid hP
  have HXB := Lib.hid hxb
  have HOK := Lib.hid hok
  have HK0 := Lib.hid hk0
  have HN0 := Lib.hid hn0
  have HO := Lib.hid hO
  have HXK := Lib.hid hk
  have S0 := Lib.hid (show Stable (star (refP b A c R O) Q) from (refP_stable _ _ _ _ _).star hQ)
  have h1 := h.newBlk S0.out 103 #[.int .i64 0, .int .i64 0, .int .i64 0]
  have h2 : Holds B w0 (w.alloc (.cells #[.int .i64 0, .int .i64 0, .int .i64 0] 103)) (star (refP b A c R O) (star (blkP w.heap.size 103 #[.int .i64 0, .int .i64 0, .int .i64 0]) Q)) := h1.perm (by ac_rfl)
  have SR := Lib.hid (show Stable (star (blkP w.heap.size 103 #[.int .i64 0, .int .i64 0, .int .i64 0]) Q) from (blkP_stable _ _ _).star hQ)
  have H2 := Lib.hid h2
  have RD := ready93 _ b R A c (ref_tasks h2 hR) (i : Int)
  rw [rdy_at hr, hrd] at RD
  have RD := Lib.hid RD
  have hil := (List.getElem?_eq_some_iff.1 hr).1
  clear h hQ h1 h2 hr hx hops hrd
  go_enter Try.func65, Try.ntmps65
  go_wp2_with fail
  refine RD.out.mono ?_
  rintro e w1 ⟨rfl, hk1⟩
  have h3 := H2.out.kept ((refP_stable _ _ _ _ _).star SR.out) hk1
  have hT := ref_tasks h3 hR
  obtain ⟨ad, r2, hA, hr2, hat⟩ := rt_at hT.src hil
  subst hA
  obtain rfl : r2 = r := by rw [HR.out] at hr2; injection hr2 with e; exact e.symm
  have c0 := hT.c0
  obtain ⟨A1z, c1z, A2z, c2z, hf1, hf2⟩ := hT.form r2 (List.mem_of_getElem? HR.out)
  have hin := ref_inner h3 (List.mem_of_getElem? HR.out)
  rw [hf1] at hin
  obtain ⟨hb0, hlt0⟩ := ready_lt' HRD.out
  obtain ⟨op, x', hOA, hx', o0, o1, o2⟩ := op_at hin.1.src hlt0
  subst hOA
  obtain rfl : x' = x := by rw [HX.out] at hx'; injection hx' with e; exact e.symm
  have hao := hat.o
  have haa := hat.a
  rw [hf1] at hao
  have hbA := HOP.out
  have hw1 : IntKind.i64.wrap ((r2.T.at_ : Int) + 1) = (r2.T.at_ : Int) + 1 := by rw [IntKind.wrap_i64]; omega
  have hw2 : wrap64 ((r2.T.at_ : Int) + 1) = (r2.T.at_ : Int) + 1 := by unfold wrap64; omega
  have k1 := h3.newBlk ((refP_stable _ _ _ _ _).star SR.out) 103 #[.int .i64 i, .int .i64 r2.T.at_, .int .i64 0]
  have k2 := k1.newBlk ((blkP_stable _ _ _).star ((refP_stable _ _ _ _ _).star SR.out)) 97 x'.cs
  rw [size_alloc] at k2
  have KA := Lib.hid ((Keep.same Nothing w1).alloc (.cells #[.int .i64 i, .int .i64 r2.T.at_, .int .i64 0] 103))
  have hH : (fun w' => w'.cell? (ad.add (i * 4)) = some (.slice (some op) r2.T.ops.length c1z) ∧ w'.cell? ⟨(ad.add (i * 4)).block, (ad.add (i * 4)).off + 1, none⟩ = some (.int .i64 r2.T.at_) ∧ w'.cell? (op.add (r2.T.at_ * 3)) = some (.int .i64 x'.k) ∧ w'.cell? ⟨(op.add (r2.T.at_ * 3)).block, (op.add (r2.T.at_ * 3)).off + 1, none⟩ = some (.int .i64 x'.obj) ∧ w'.cell? ⟨(op.add (r2.T.at_ * 3)).block, (op.add (r2.T.at_ * 3)).off + 2, none⟩ = some (.int .i64 x'.n)) (w1.alloc (.cells #[.int .i64 i, .int .i64 r2.T.at_, .int .i64 0] 103)) := ⟨KA.out.cell hao (fun h => h), KA.out.cell haa (fun h => h), KA.out.cell o0 (fun h => h), KA.out.cell o1 (fun h => h), KA.out.cell o2 (fun h => h)⟩
  have SBF := Lib.hid (fun (X' : World) (hX : Keep Nothing (w1.alloc (.cells #[.int .i64 i, .int .i64 r2.T.at_, .int .i64 0] 103)) X') => show (fun w' => w'.cell? (ad.add (i * 4)) = some (.slice (some op) r2.T.ops.length c1z) ∧ w'.cell? ⟨(ad.add (i * 4)).block, (ad.add (i * 4)).off + 1, none⟩ = some (.int .i64 r2.T.at_) ∧ w'.cell? (op.add (r2.T.at_ * 3)) = some (.int .i64 x'.k) ∧ w'.cell? ⟨(op.add (r2.T.at_ * 3)).block, (op.add (r2.T.at_ * 3)).off + 1, none⟩ = some (.int .i64 x'.obj) ∧ w'.cell? ⟨(op.add (r2.T.at_ * 3)).block, (op.add (r2.T.at_ * 3)).off + 2, none⟩ = some (.int .i64 x'.n)) X' from ⟨hX.cell hH.1 (fun h => h), hX.cell hH.2.1 (fun h => h), hX.cell hH.2.2.1 (fun h => h), hX.cell hH.2.2.2.1 (fun h => h), hX.cell hH.2.2.2.2 (fun h => h)⟩)
  dsimp only at hH
  have k3 : Holds B w0 ((w1.alloc (.cells #[.int .i64 i, .int .i64 r2.T.at_, .int .i64 0] 103)).alloc (.cells x'.cs 97)) (star (refP b (some ad) c R O) (star (blkP w1.heap.size 103 #[.int .i64 i, .int .i64 r2.T.at_, .int .i64 0]) (star (blkP (w1.heap.size + 1) 97 x'.cs) (star (blkP w.heap.size 103 #[.int .i64 0, .int .i64 0, .int .i64 0]) Q)))) := k2.perm (by ac_rfl)
  have SE := Lib.hid (show Stable (star (blkP w1.heap.size 103 #[.int .i64 i, .int .i64 r2.T.at_, .int .i64 0]) (star (blkP (w1.heap.size + 1) 97 x'.cs) (star (blkP w.heap.size 103 #[.int .i64 0, .int .i64 0, .int .i64 0]) Q))) from (blkP_stable _ _ _).star ((blkP_stable _ _ _).star SR.out))
  have ca := ((Keep.same Nothing _).alloc (.cells x'.cs 97)).cell (KA.out.cell haa (fun h => h)) (fun h => h)
  obtain ⟨fz, k4⟩ := ref_set k3 SE.out HR.out (r' := r2.next) (j := 1) (by omega) (by omega) (u := .int .i64 ((r2.T.at_ : Int) + 1)) (by unfold RTk.next Tk.next; simp) rfl
  have H6 := Lib.hid k4
  have S6 := Lib.hid (show Stable (star (refP b (some ad) c (R.set i r2.next) O) (star (blkP w1.heap.size 103 #[.int .i64 i, .int .i64 r2.T.at_, .int .i64 0]) (star (blkP (w1.heap.size + 1) 97 x'.cs) (star (blkP w.heap.size 103 #[.int .i64 0, .int .i64 0, .int .i64 0]) Q)))) from (refP_stable _ _ _ _ _).star SE.out)
  have X8 := blk_at' (show Holds B w0 (((w1.alloc (.cells #[.int .i64 i, .int .i64 r2.T.at_, .int .i64 0] 103)).alloc (.cells x'.cs 97)).setCell ⟨(ad.add (i * 4)).block, (ad.add (i * 4)).off + 1, none⟩ (.int .i64 ((r2.T.at_ : Int) + 1))) (star (blkP (w1.heap.size + 1) 97 x'.cs) (star (refP b (some ad) c (R.set i r2.next) O) (star (blkP w1.heap.size 103 #[.int .i64 i, .int .i64 r2.T.at_, .int .i64 0]) (star (blkP w.heap.size 103 #[.int .i64 0, .int .i64 0, .int .i64 0]) Q)))) from k4.perm (by ac_rfl))
  have z0 := X8.cell 0
  have z1 := X8.cell 1
  have z2 := X8.cell 2
  have hlen1 : (R.set i r2.next).length = R.length := List.length_set
  have HLEN := Lib.hid hlen1
  have D9 : (x'.k == 9) = false := by simp [hk]
  have D5 : (x'.k == 5) = true := by simp [hk]
  have D6 : (x'.k == 6) = false := by simp [hk]
  have D7 : (x'.k == 7) = false := by simp [hk]
  have D8 : (x'.k == 8) = false := by simp [hk]
  clear hk hP hxb hok hk0 hn0 hO
  clear h3 hT hr2 hat hf2 hin hx' hao k1 k2 k3 k4 X8 hk1 o0 o1 o2 hlen1 hb0
  go_wp2_with fail
  refine wp_region_noPanic ?_
  refine wp_region_held_drew (S := (fun w' => w'.cell? (ad.add (i * 4)) = some (.slice (some op) r2.T.ops.length c1z) ∧ w'.cell? ⟨(ad.add (i * 4)).block, (ad.add (i * 4)).off + 1, none⟩ = some (.int .i64 r2.T.at_) ∧ w'.cell? (op.add (r2.T.at_ * 3)) = some (.int .i64 x'.k) ∧ w'.cell? ⟨(op.add (r2.T.at_ * 3)).block, (op.add (r2.T.at_ * 3)).off + 1, none⟩ = some (.int .i64 x'.obj) ∧ w'.cell? ⟨(op.add (r2.T.at_ * 3)).block, (op.add (r2.T.at_ * 3)).off + 2, none⟩ = some (.int .i64 x'.n))) (by kernel_rfl) hH (fun hHeld => ?_)
  refine tk 0 ?_
  (try simp only [pn])
  refine tk 1 ?_
  (try simp only [pn])
  refine tk 2 ?_
  (try simp only [pn])
  refine tk 3 ?_
  (try simp only [pn])
  refine tk 4 ?_
  (try simp only [pn])
  refine tk 5 ?_
  (try simp only [pn])
  refine tk 6 ?_
  (try simp only [pn])
  refine tk 7 ?_
  (try simp only [pn])
  refine tk 8 ?_
  (try simp only [pn])
  refine tk 9 ?_
  (try simp only [pn])
  refine rd 10 (fun K hK => ?_)
  go_simp
  refine hK.out _ _ (SBF.out _ kn) (fun hHeld => ?_)
  clear hK K
  (try simp only [pn])
  refine rd 11 (fun K hK => ?_)
  go_simp
  refine hK.out _ _ (SBF.out _ kn) (fun hHeld => ?_)
  clear hK K
  (try simp only [pn])
  refine wpAnyH_done (by kernel_rfl) ?_ _
  refine NoPanic.normal ?_
  clear hH
  have hH : (fun w' => w'.cell? ⟨w1.heap.size + 1, 1, none⟩ = some (.int .i64 x'.obj) ∧ w'.cell? ⟨w1.heap.size + 1, 2, none⟩ = some (.int .i64 x'.n)) (((w1.alloc (.cells #[.int .i64 i, .int .i64 r2.T.at_, .int .i64 0] 103)).alloc (.cells x'.cs 97)).setCell ⟨(ad.add (i * 4)).block, (ad.add (i * 4)).off + 1, none⟩ (.int .i64 ((r2.T.at_ : Int) + 1))) := ⟨z1, z2⟩
  dsimp only at hH
  have OBJ := Lib.hid (fun (X' : World) (hX : Keep Nothing (((w1.alloc (.cells #[.int .i64 i, .int .i64 r2.T.at_, .int .i64 0] 103)).alloc (.cells x'.cs 97)).setCell ⟨(ad.add (i * 4)).block, (ad.add (i * 4)).off + 1, none⟩ (.int .i64 ((r2.T.at_ : Int) + 1))) X') => object94_2 (H6.out.kept S6.out hX) SE.out HO.out x'.obj)
  go_wp2_with fail
  refine wp_region_noPanic ?_
  refine wp_region_held_drew (S := (fun w' => w'.cell? ⟨w1.heap.size + 1, 1, none⟩ = some (.int .i64 x'.obj) ∧ w'.cell? ⟨w1.heap.size + 1, 2, none⟩ = some (.int .i64 x'.n))) (by kernel_rfl) hH (fun hHeld => ?_)
  refine tk 0 ?_
  (try simp only [pn])
  refine tk 1 ?_
  (try simp only [pn])
  refine tk 2 ?_
  (try simp only [pn])
  refine tk 5 ?_
  (try simp only [pn])
  refine tk 6 ?_
  (try simp only [pn])
  refine rd 3 (fun K hK => ?_)
  go_simp
  refine (OBJ.out _ kn).mono ?_
  rintro e w2 ⟨O1, j, o, rfl, ho, hkey, hfst, hrel, h2⟩
  have hok2 : o.st.ok k0 n0 ∧ mg o.st := by
    rcases hrel with rfl | ⟨_, h3, _⟩
    · exact HOK.out o (List.mem_of_getElem? ho)
    · rw [h3]; exact ⟨freshR_ok _ _ _, mg_fresh _⟩
  have hkr : kindR o.st = 2 := (Prod.mk.inj hkey).1
  have hcl : o.cl.toArray = #[.int .i64 2, .int .i64 o.num, .pointer none, .pointer none, .pointer (some ⟨o.g, 0, none⟩), .pointer none] := by unfold RO.cl pAt; rw [hkr]; rfl
  have OPX := blk_at' (show Holds B w0 w2 (star (blkP (w1.heap.size + 1) 97 x'.cs) (star (refP b (some ad) c (R.set i r2.next) O1) (star (blkP w1.heap.size 103 #[.int .i64 i, .int .i64 r2.T.at_, .int .i64 0]) (star (blkP w.heap.size 103 #[.int .i64 0, .int .i64 0, .int .i64 0]) Q)))) from h2.perm (by ac_rfl))
  obtain ⟨Z, hZ, h3, back⟩ := ref_ob h2 ho
  have HOO := Lib.hid ho
  have HKEY := Lib.hid hkey
  have HFS := Lib.hid hfst
  have HRL := Lib.hid hrel
  have BK := Lib.hid back
  rw [hcl]
  obtain ⟨st, hst⟩ : ∃ st, o.st = st := ⟨_, rfl⟩
  have HST := Lib.hid hst
  rw [hst] at hok2 h3 hkr
  clear ho hkey hfst hrel back h2 hcl hst
  cases st with
  | m h0 who L => exact absurd hkr (by simp [kindR])
  | r W wr L => exact absurd hkr (by simp [kindR])
  | o W ov L => exact absurd hkr (by simp [kindR])
  | g cn L =>
    have h3' : Holds B w0 w2 (star (gP 87 o.g cn L) (star Z (star (blkP w1.heap.size 103 #[.int .i64 i, .int .i64 r2.T.at_, .int .i64 0]) (star (blkP (w1.heap.size + 1) 97 x'.cs) (star (blkP w.heap.size 103 #[.int .i64 0, .int .i64 0, .int .i64 0]) Q))))) := h3
    have HC := Lib.hid (y_add (d := x'.n) h3' (hZ.star SE.out) hok2.1.1 hok2.1.2.1 HXB.out.1 HXB.out.2)
    have ED := Lib.hid (show doS (.g cn L) x' i zT = ⟨false, gR cn x'.n L, gE cn x'.n, .g (gN cn x'.n) (gL cn x'.n L), zT⟩ by unfold doS; dsimp only; rw [if_pos HXK.out])
    have WK := Lib.hid (show ∀ u ∈ gR cn x'.n L, 0 ≤ u ∧ u < R.length from fun u hu => by
      have := hok2.1.2.2.2 u (by unfold gR at hu; split at hu; exact hu; cases hu)
      rw [HN0.out] at this; exact this)
    have WL := Lib.hid (show (gR cn x'.n L).length ≤ 1000000 by have := gR_len' cn x'.n L; have := hok2.1.2.2.1; have := HK0.out; omega)
    generalize gR cn x'.n L = r1 at *
    generalize gE cn x'.n = er at *
    generalize gN cn x'.n = r3 at *
    generalize gL cn x'.n L = r4 at *
    have HS1 := Lib.hid (show (fun w' => w'.cell? ⟨w1.heap.size + 1, 1, none⟩ = some (.int .i64 x'.obj) ∧ w'.cell? ⟨w1.heap.size + 1, 2, none⟩ = some (.int .i64 x'.n)) w2 from ⟨OPX.cell 1, OPX.cell 2⟩)
    clear h3 h3' hok2 hkr OPX
    refine hK.out _ _ HS1.out (fun hHeld => ?_)
    clear hK K
    (try simp only [pn])
    refine tk 4 ?_
    (try simp only [pn])
    refine rd 7 (fun K hK => ?_)
    go_simp
    refine HC.out.mono ?_
    rintro e w3 ⟨a2, rfl, h4r⟩
    have h4 : Holds B w0 w3 (star (OS.RP o.g (.g r3 r4)) (star Z (star (rowP 3 1 (.slice a2.1 r1.length a2.2) r1.length (ints r1)) (star (blkP w1.heap.size 103 #[.int .i64 i, .int .i64 r2.T.at_, .int .i64 0]) (star (blkP (w1.heap.size + 1) 97 x'.cs) (star (blkP w.heap.size 103 #[.int .i64 0, .int .i64 0, .int .i64 0]) Q)))))) := h4r.perm (by
      show star (star (rowP 3 1 (.slice a2.1 r1.length a2.2) r1.length (ints r1)) (OS.RP o.g (.g r3 r4))) (star Z (star (blkP w1.heap.size 103 #[.int .i64 i, .int .i64 r2.T.at_, .int .i64 0]) (star (blkP (w1.heap.size + 1) 97 x'.cs) (star (blkP w.heap.size 103 #[.int .i64 0, .int .i64 0, .int .i64 0]) Q)))) = _
      ac_rfl)
    have h5 := BK.out w3 (.g r3 r4) (star (rowP 3 1 (.slice a2.1 r1.length a2.2) r1.length (ints r1)) (star (blkP w1.heap.size 103 #[.int .i64 i, .int .i64 r2.T.at_, .int .i64 0]) (star (blkP (w1.heap.size + 1) 97 x'.cs) (star (blkP w.heap.size 103 #[.int .i64 0, .int .i64 0, .int .i64 0]) Q)))) (by rw [HST.out]; rfl) h4
    have X5 := blk_at' (show Holds B w0 w3 (star (blkP (w1.heap.size + 1) 97 x'.cs) (star (refP b (some ad) c (R.set i r2.next) (O1.set j { o with st := .g r3 r4 })) (star (rowP 3 1 (.slice a2.1 r1.length a2.2) r1.length (ints r1)) (star (blkP w1.heap.size 103 #[.int .i64 i, .int .i64 r2.T.at_, .int .i64 0]) (star (blkP w.heap.size 103 #[.int .i64 0, .int .i64 0, .int .i64 0]) Q))))) from h5.perm (by ac_rfl))
    have HS2 := Lib.hid (show (fun w' => w'.cell? ⟨w1.heap.size + 1, 1, none⟩ = some (.int .i64 x'.obj) ∧ w'.cell? ⟨w1.heap.size + 1, 2, none⟩ = some (.int .i64 x'.n)) w3 from ⟨X5.cell 1, X5.cell 2⟩)
    have H5 := Lib.hid h5
    clear h4 h4r h5 X5 hZ
    refine hK.out _ _ HS2.out (fun hHeld => ?_)
    clear hK K
    (try simp only [pn])
    refine tk 8 ?_
    (try simp only [pn])
    refine tk 9 ?_
    (try simp only [pn])
    refine tk 10 ?_
    (try simp only [pn])
    refine tk 11 ?_
    (try simp only [pn])
    refine tk 12 ?_
    (try simp only [pn])
    refine wpAnyH_done (by kernel_rfl) ?_ _
    refine NoPanic.normal ?_
    clear hH
    have WAK := Lib.hid (fun (X' : World) (hX : Keep Nothing w3 X') => wake95 (l := r1) (show Holds B w0 X' (star (rowP 3 1 (.slice a2.1 r1.length a2.2) r1.length (ints r1)) (star (refP b (some ad) c (R.set i r2.next) (O1.set j { o with st := .g r3 r4 })) (star (blkP w1.heap.size 103 #[.int .i64 i, .int .i64 r2.T.at_, .int .i64 0]) (star (blkP (w1.heap.size + 1) 97 x'.cs) (star (blkP w.heap.size 103 #[.int .i64 0, .int .i64 0, .int .i64 0]) Q))))) from (H5.out.perm (by ac_rfl)).kept ((rowP_stable _ _ _ _ _).star ((refP_stable _ _ _ _ _).star SE.out)) hX) SE.out WL.out (by rw [HLEN.out]; exact HRL0.out) (fun u hu => by rw [HLEN.out]; exact WK.out u hu))
    go_wp2_with fail
    refine (WAK.out _ kn).mono ?_
    rintro e w4 ⟨rfl, h6⟩
    have HH := Lib.hid h6.drop
    have RLEN := Lib.hid ((wakeR_len r1 (R.set i r2.next)).trans HLEN.out)
    have HPP := Lib.hid (HPA.out false er (wakeR (R.set i r2.next) r1) (O1.set j { o with st := .g r3 r4 }) ⟨O1, j, o, HOO.out, HKEY.out, HFS.out, HRL.out, by rw [HST.out, ED.out], by rw [HST.out, ED.out], by rw [HST.out, ED.out], by rw [HST.out, ED.out]⟩)
    clear h6
    have hT9 := ref_tasks HH.out (by rw [RLEN.out]; exact HRL0.out)
    obtain ⟨adq, rq, hAq, hrq, hatq⟩ := rt_at hT9.src (show i < (wakeR (R.set i r2.next) r1).length by rw [RLEN.out]; exact hil)
    injection hAq with hAq
    subst hAq
    have HRQ := Lib.hid hrq
    have cb9 := hatq.b
    obtain ⟨fb9, h9⟩ := ref_set HH.out SE.out hrq (r' := rq.block false) (j := 2) (by omega) (by omega) (u := .bool false) rfl rfl
    have g9 : Holds B w0 _ (star (blkP w1.heap.size 103 #[.int .i64 i, .int .i64 r2.T.at_, .int .i64 0]) (star (refP b (some ad) c ((wakeR (R.set i r2.next) r1).set i (rq.block false)) (O1.set j { o with st := .g r3 r4 })) (star (blkP (w1.heap.size + 1) 97 x'.cs) (star (blkP w.heap.size 103 #[.int .i64 0, .int .i64 0, .int .i64 0]) Q)))) := h9.perm (by ac_rfl)
    have SG := Lib.hid (show Stable (star (refP b (some ad) c ((wakeR (R.set i r2.next) r1).set i (rq.block false)) (O1.set j { o with st := .g r3 r4 })) (star (blkP (w1.heap.size + 1) 97 x'.cs) (star (blkP w.heap.size 103 #[.int .i64 0, .int .i64 0, .int .i64 0]) Q))) from (refP_stable _ _ _ _ _).star ((blkP_stable _ _ _).star SR.out))
    have b9 := blk_at' g9
    have v2 := b9.cell 2
    have f2 := b9.free 2
    have g10 := g9.setBlk SG.out 2 (.int .i64 er)
    have b10 := blk_at' g10
    have v0 := b10.cell 0
    have v1 := b10.cell 1
    have v3 := b10.cell 2
    have g11 : Holds B w0 _ (star (blkP w.heap.size 103 #[.int .i64 0, .int .i64 0, .int .i64 0]) (star (blkP w1.heap.size 103 #[.int .i64 i, .int .i64 r2.T.at_, .int .i64 er]) (star (refP b (some ad) c ((wakeR (R.set i r2.next) r1).set i (rq.block false)) (O1.set j { o with st := .g r3 r4 })) (star (blkP (w1.heap.size + 1) 97 x'.cs) Q)))) := g10.perm (by
      show star (blkP w1.heap.size 103 #[.int .i64 i, .int .i64 r2.T.at_, .int .i64 er]) _ = _
      ac_rfl)
    have S11 : Stable (star (blkP w1.heap.size 103 #[.int .i64 i, .int .i64 r2.T.at_, .int .i64 er]) (star (refP b (some ad) c ((wakeR (R.set i r2.next) r1).set i (rq.block false)) (O1.set j { o with st := .g r3 r4 })) (star (blkP (w1.heap.size + 1) 97 x'.cs) Q))) := (blkP_stable _ _ _).star ((refP_stable _ _ _ _ _).star ((blkP_stable _ _ _).star HQ.out))
    obtain ⟨a0, n0, a1, n1, a2, n2, q0, q1, q2, p0, p1⟩ := store3 (blk_at' g11) (.int .i64 (i : Int)) (.int .i64 (r2.T.at_ : Int)) (.int .i64 er)
    have H12 := Lib.hid (held3 g11 S11 (.int .i64 (i : Int)) (.int .i64 (r2.T.at_ : Int)) (.int .i64 er))
    clear hT9 hrq hatq h9 g9 b9 g10 b10 g11 S11
    go_wp2_with fail
    refine bodyPost_ret (v := .tuple #[.agg #[.int .i64 i, .int .i64 r2.T.at_, .int .i64 er], .int .i64 0]) (by simp [results, Try.results65, go_sem, hu3, q0, q1, q2]) rfl ?_
    refine ⟨false, er, wakeR (R.set i r2.next) r1, O1.set j { o with st := .g r3 r4 }, rq, HPP.out, RLEN.out, HRQ.out, rfl, ?_⟩
    have y1 := H12.out.drop.drop
    have y2 : Holds B w0 _ (star (blkP (w1.heap.size + 1) 97 x'.cs) (star (refP b (some ad) c ((wakeR (R.set i r2.next) r1).set i (rq.block false)) (O1.set j { o with st := .g r3 r4 })) Q)) := y1.perm (by ac_rfl)
    have y3 := y2.drop
    rw [show (false && (er : Int) == 0) = false by rfl]
    exact y3.kept ((refP_stable _ _ _ _ _).star HQ.out) kn
theorem rstep_6 {x : Op3} (h : Holds B w0 w (star (refP b A c R O) Q)) (hQ : Stable Q) (hR : R.length ≤ 1000000) (i : Nat) (r : RTk) (hr : R[i]? = some r) (hrd : r.T.ready = true) (hx : r.T.ops[r.T.at_]? = some x) (hops : r.T.ops.length ≤ 1000000) (P : Bool → Int → List RTk → List RO → Prop) (hk : x.k = 6) (hO : O.length ≤ 1000000) {k0 n0 : Nat} (hok : ∀ o ∈ O, o.st.ok k0 n0 ∧ mg o.st) (hk0 : k0 ≤ 500000) (hn0 : n0 = R.length) (hxb : -9223372036854775808 ≤ x.n ∧ x.n ≤ 9223372036854775807) (hP : ∀ wait er R8 O8, RPl O (R.set i r.next) 2 x i wait er R8 O8 → P wait er R8 O8) :
    Calls Try.prog 65 #[.pointer (some ⟨b, 0, none⟩), .int .i64 i] w (RSt B w0 b A c R.length i r.T.at_ P Q) := by
  have hu := Try.underlying155
  have hu2 := Try.underlying97
  have hu3 := Try.underlying103
  have hu4 := Try.underlying157
  have hu5 := Try.underlying160
  have hf4 := fun a b c d e f w => fld4 a b c d e f w
  have HQ := Lib.hid hQ
  have HRL0 := Lib.hid hR
  have HR := Lib.hid hr
  have HX := Lib.hid hx
  have HOP := Lib.hid hops
  have HRD := Lib.hid hrd
  have HPA := Lib.hid hP
  have HXB := Lib.hid hxb
  have HOK := Lib.hid hok
  have HK0 := Lib.hid hk0
  have HN0 := Lib.hid hn0
  have HO := Lib.hid hO
  have HXK := Lib.hid hk
  have S0 := Lib.hid (show Stable (star (refP b A c R O) Q) from (refP_stable _ _ _ _ _).star hQ)
  have h1 := h.newBlk S0.out 103 #[.int .i64 0, .int .i64 0, .int .i64 0]
  have h2 : Holds B w0 (w.alloc (.cells #[.int .i64 0, .int .i64 0, .int .i64 0] 103)) (star (refP b A c R O) (star (blkP w.heap.size 103 #[.int .i64 0, .int .i64 0, .int .i64 0]) Q)) := h1.perm (by ac_rfl)
  have SR := Lib.hid (show Stable (star (blkP w.heap.size 103 #[.int .i64 0, .int .i64 0, .int .i64 0]) Q) from (blkP_stable _ _ _).star hQ)
  have H2 := Lib.hid h2
  have RD := ready93 _ b R A c (ref_tasks h2 hR) (i : Int)
  rw [rdy_at hr, hrd] at RD
  have RD := Lib.hid RD
  have hil := (List.getElem?_eq_some_iff.1 hr).1
  clear h hQ h1 h2 hr hx hops hrd
  go_enter Try.func65, Try.ntmps65
  go_wp2_with fail
  refine RD.out.mono ?_
  rintro e w1 ⟨rfl, hk1⟩
  have h3 := H2.out.kept ((refP_stable _ _ _ _ _).star SR.out) hk1
  have hT := ref_tasks h3 hR
  obtain ⟨ad, r2, hA, hr2, hat⟩ := rt_at hT.src hil
  subst hA
  obtain rfl : r2 = r := by rw [HR.out] at hr2; injection hr2 with e; exact e.symm
  have c0 := hT.c0
  obtain ⟨A1z, c1z, A2z, c2z, hf1, hf2⟩ := hT.form r2 (List.mem_of_getElem? HR.out)
  have hin := ref_inner h3 (List.mem_of_getElem? HR.out)
  rw [hf1] at hin
  obtain ⟨hb0, hlt0⟩ := ready_lt' HRD.out
  obtain ⟨op, x', hOA, hx', o0, o1, o2⟩ := op_at hin.1.src hlt0
  subst hOA
  obtain rfl : x' = x := by rw [HX.out] at hx'; injection hx' with e; exact e.symm
  have hao := hat.o
  have haa := hat.a
  rw [hf1] at hao
  have hbA := HOP.out
  have hw1 : IntKind.i64.wrap ((r2.T.at_ : Int) + 1) = (r2.T.at_ : Int) + 1 := by rw [IntKind.wrap_i64]; omega
  have hw2 : wrap64 ((r2.T.at_ : Int) + 1) = (r2.T.at_ : Int) + 1 := by unfold wrap64; omega
  have k1 := h3.newBlk ((refP_stable _ _ _ _ _).star SR.out) 103 #[.int .i64 i, .int .i64 r2.T.at_, .int .i64 0]
  have k2 := k1.newBlk ((blkP_stable _ _ _).star ((refP_stable _ _ _ _ _).star SR.out)) 97 x'.cs
  rw [size_alloc] at k2
  have KA := Lib.hid ((Keep.same Nothing w1).alloc (.cells #[.int .i64 i, .int .i64 r2.T.at_, .int .i64 0] 103))
  have hH : (fun w' => w'.cell? (ad.add (i * 4)) = some (.slice (some op) r2.T.ops.length c1z) ∧ w'.cell? ⟨(ad.add (i * 4)).block, (ad.add (i * 4)).off + 1, none⟩ = some (.int .i64 r2.T.at_) ∧ w'.cell? (op.add (r2.T.at_ * 3)) = some (.int .i64 x'.k) ∧ w'.cell? ⟨(op.add (r2.T.at_ * 3)).block, (op.add (r2.T.at_ * 3)).off + 1, none⟩ = some (.int .i64 x'.obj) ∧ w'.cell? ⟨(op.add (r2.T.at_ * 3)).block, (op.add (r2.T.at_ * 3)).off + 2, none⟩ = some (.int .i64 x'.n)) (w1.alloc (.cells #[.int .i64 i, .int .i64 r2.T.at_, .int .i64 0] 103)) := ⟨KA.out.cell hao (fun h => h), KA.out.cell haa (fun h => h), KA.out.cell o0 (fun h => h), KA.out.cell o1 (fun h => h), KA.out.cell o2 (fun h => h)⟩
  have SBF := Lib.hid (fun (X' : World) (hX : Keep Nothing (w1.alloc (.cells #[.int .i64 i, .int .i64 r2.T.at_, .int .i64 0] 103)) X') => show (fun w' => w'.cell? (ad.add (i * 4)) = some (.slice (some op) r2.T.ops.length c1z) ∧ w'.cell? ⟨(ad.add (i * 4)).block, (ad.add (i * 4)).off + 1, none⟩ = some (.int .i64 r2.T.at_) ∧ w'.cell? (op.add (r2.T.at_ * 3)) = some (.int .i64 x'.k) ∧ w'.cell? ⟨(op.add (r2.T.at_ * 3)).block, (op.add (r2.T.at_ * 3)).off + 1, none⟩ = some (.int .i64 x'.obj) ∧ w'.cell? ⟨(op.add (r2.T.at_ * 3)).block, (op.add (r2.T.at_ * 3)).off + 2, none⟩ = some (.int .i64 x'.n)) X' from ⟨hX.cell hH.1 (fun h => h), hX.cell hH.2.1 (fun h => h), hX.cell hH.2.2.1 (fun h => h), hX.cell hH.2.2.2.1 (fun h => h), hX.cell hH.2.2.2.2 (fun h => h)⟩)
  dsimp only at hH
  have k3 : Holds B w0 ((w1.alloc (.cells #[.int .i64 i, .int .i64 r2.T.at_, .int .i64 0] 103)).alloc (.cells x'.cs 97)) (star (refP b (some ad) c R O) (star (blkP w1.heap.size 103 #[.int .i64 i, .int .i64 r2.T.at_, .int .i64 0]) (star (blkP (w1.heap.size + 1) 97 x'.cs) (star (blkP w.heap.size 103 #[.int .i64 0, .int .i64 0, .int .i64 0]) Q)))) := k2.perm (by ac_rfl)
  have SE := Lib.hid (show Stable (star (blkP w1.heap.size 103 #[.int .i64 i, .int .i64 r2.T.at_, .int .i64 0]) (star (blkP (w1.heap.size + 1) 97 x'.cs) (star (blkP w.heap.size 103 #[.int .i64 0, .int .i64 0, .int .i64 0]) Q))) from (blkP_stable _ _ _).star ((blkP_stable _ _ _).star SR.out))
  have ca := ((Keep.same Nothing _).alloc (.cells x'.cs 97)).cell (KA.out.cell haa (fun h => h)) (fun h => h)
  obtain ⟨fz, k4⟩ := ref_set k3 SE.out HR.out (r' := r2.next) (j := 1) (by omega) (by omega) (u := .int .i64 ((r2.T.at_ : Int) + 1)) (by unfold RTk.next Tk.next; simp) rfl
  have H6 := Lib.hid k4
  have S6 := Lib.hid (show Stable (star (refP b (some ad) c (R.set i r2.next) O) (star (blkP w1.heap.size 103 #[.int .i64 i, .int .i64 r2.T.at_, .int .i64 0]) (star (blkP (w1.heap.size + 1) 97 x'.cs) (star (blkP w.heap.size 103 #[.int .i64 0, .int .i64 0, .int .i64 0]) Q)))) from (refP_stable _ _ _ _ _).star SE.out)
  have X8 := blk_at' (show Holds B w0 (((w1.alloc (.cells #[.int .i64 i, .int .i64 r2.T.at_, .int .i64 0] 103)).alloc (.cells x'.cs 97)).setCell ⟨(ad.add (i * 4)).block, (ad.add (i * 4)).off + 1, none⟩ (.int .i64 ((r2.T.at_ : Int) + 1))) (star (blkP (w1.heap.size + 1) 97 x'.cs) (star (refP b (some ad) c (R.set i r2.next) O) (star (blkP w1.heap.size 103 #[.int .i64 i, .int .i64 r2.T.at_, .int .i64 0]) (star (blkP w.heap.size 103 #[.int .i64 0, .int .i64 0, .int .i64 0]) Q)))) from k4.perm (by ac_rfl))
  have z0 := X8.cell 0
  have z1 := X8.cell 1
  have z2 := X8.cell 2
  have hlen1 : (R.set i r2.next).length = R.length := List.length_set
  have HLEN := Lib.hid hlen1
  have D9 : (x'.k == 9) = false := by simp [hk]
  have D5 : (x'.k == 5) = false := by simp [hk]
  have D6 : (x'.k == 6) = true := by simp [hk]
  have D7 : (x'.k == 7) = false := by simp [hk]
  have D8 : (x'.k == 8) = false := by simp [hk]
  clear hk hP hxb hok hk0 hn0 hO
  clear h3 hT hr2 hat hf2 hin hx' hao k1 k2 k3 k4 X8 hk1 o0 o1 o2 hlen1 hb0
  go_wp2_with fail
  refine wp_region_noPanic ?_
  refine wp_region_held_drew (S := (fun w' => w'.cell? (ad.add (i * 4)) = some (.slice (some op) r2.T.ops.length c1z) ∧ w'.cell? ⟨(ad.add (i * 4)).block, (ad.add (i * 4)).off + 1, none⟩ = some (.int .i64 r2.T.at_) ∧ w'.cell? (op.add (r2.T.at_ * 3)) = some (.int .i64 x'.k) ∧ w'.cell? ⟨(op.add (r2.T.at_ * 3)).block, (op.add (r2.T.at_ * 3)).off + 1, none⟩ = some (.int .i64 x'.obj) ∧ w'.cell? ⟨(op.add (r2.T.at_ * 3)).block, (op.add (r2.T.at_ * 3)).off + 2, none⟩ = some (.int .i64 x'.n))) (by kernel_rfl) hH (fun hHeld => ?_)
  refine tk 0 ?_
  (try simp only [pn])
  refine tk 1 ?_
  (try simp only [pn])
  refine tk 2 ?_
  (try simp only [pn])
  refine tk 3 ?_
  (try simp only [pn])
  refine tk 4 ?_
  (try simp only [pn])
  refine tk 5 ?_
  (try simp only [pn])
  refine tk 6 ?_
  (try simp only [pn])
  refine tk 7 ?_
  (try simp only [pn])
  refine tk 8 ?_
  (try simp only [pn])
  refine tk 9 ?_
  (try simp only [pn])
  refine rd 10 (fun K hK => ?_)
  go_simp
  refine hK.out _ _ (SBF.out _ kn) (fun hHeld => ?_)
  clear hK K
  (try simp only [pn])
  refine rd 11 (fun K hK => ?_)
  go_simp
  refine hK.out _ _ (SBF.out _ kn) (fun hHeld => ?_)
  clear hK K
  (try simp only [pn])
  refine wpAnyH_done (by kernel_rfl) ?_ _
  refine NoPanic.normal ?_
  clear hH
  have OBJ := Lib.hid (fun (X' : World) (hX : Keep Nothing (((w1.alloc (.cells #[.int .i64 i, .int .i64 r2.T.at_, .int .i64 0] 103)).alloc (.cells x'.cs 97)).setCell ⟨(ad.add (i * 4)).block, (ad.add (i * 4)).off + 1, none⟩ (.int .i64 ((r2.T.at_ : Int) + 1))) X') => object94_2 (H6.out.kept S6.out hX) SE.out HO.out x'.obj)
  go_wp2_with fail
  refine (OBJ.out _ kn).mono ?_
  rintro e w2 ⟨O1, j, o, rfl, ho, hkey, hfst, hrel, h2⟩
  have hok2 : o.st.ok k0 n0 ∧ mg o.st := by
    rcases hrel with rfl | ⟨_, h3, _⟩
    · exact HOK.out o (List.mem_of_getElem? ho)
    · rw [h3]; exact ⟨freshR_ok _ _ _, mg_fresh _⟩
  have hkr : kindR o.st = 2 := (Prod.mk.inj hkey).1
  have hcl : o.cl.toArray = #[.int .i64 2, .int .i64 o.num, .pointer none, .pointer none, .pointer (some ⟨o.g, 0, none⟩), .pointer none] := by unfold RO.cl pAt; rw [hkr]; rfl
  have OPX := blk_at' (show Holds B w0 w2 (star (blkP (w1.heap.size + 1) 97 x'.cs) (star (refP b (some ad) c (R.set i r2.next) O1) (star (blkP w1.heap.size 103 #[.int .i64 i, .int .i64 r2.T.at_, .int .i64 0]) (star (blkP w.heap.size 103 #[.int .i64 0, .int .i64 0, .int .i64 0]) Q)))) from h2.perm (by ac_rfl))
  obtain ⟨Z, hZ, h3, back⟩ := ref_ob h2 ho
  have HOO := Lib.hid ho
  have HKEY := Lib.hid hkey
  have HFS := Lib.hid hfst
  have HRL := Lib.hid hrel
  have BK := Lib.hid back
  rw [hcl]
  obtain ⟨st, hst⟩ : ∃ st, o.st = st := ⟨_, rfl⟩
  have HST := Lib.hid hst
  rw [hst] at hok2 h3 hkr
  clear ho hkey hfst hrel back h2 hcl hst
  cases st with
  | m h0 who L => exact absurd hkr (by simp [kindR])
  | r W wr L => exact absurd hkr (by simp [kindR])
  | o W ov L => exact absurd hkr (by simp [kindR])
  | g cn L =>
    have h3' : Holds B w0 w2 (star (gP 87 o.g cn L) (star Z (star (blkP w1.heap.size 103 #[.int .i64 i, .int .i64 r2.T.at_, .int .i64 0]) (star (blkP (w1.heap.size + 1) 97 x'.cs) (star (blkP w.heap.size 103 #[.int .i64 0, .int .i64 0, .int .i64 0]) Q))))) := h3
    have HC := Lib.hid (y_wait (x := (i : Int)) h3' (hZ.star SE.out) (by have := hok2.1.2.2.1; have := HK0.out; omega))
    have ED := Lib.hid (show doS (.g cn L) x' i zT = ⟨!(wB cn L i), [], wE L i, .g cn (wL cn L i), zT⟩ by unfold doS; dsimp only; rw [if_neg (by have := HXK.out; omega)])
    obtain ⟨wait, hwn⟩ : ∃ wait, wB cn L i = !wait := ⟨!(wB cn L i), by simp⟩
    rw [hwn] at HC ED
    rw [Bool.not_not] at ED
    generalize wE L i = er at *
    generalize wL cn L i = r4 at *
    clear h3 h3' hok2 hkr OPX hwn
    go_wp2_with fail
    refine HC.out.mono ?_
    rintro e w3 ⟨rfl, h4r⟩
    have h5 := BK.out w3 (.g cn r4) (star (blkP w1.heap.size 103 #[.int .i64 i, .int .i64 r2.T.at_, .int .i64 0]) (star (blkP (w1.heap.size + 1) 97 x'.cs) (star (blkP w.heap.size 103 #[.int .i64 0, .int .i64 0, .int .i64 0]) Q))) (by rw [HST.out]; rfl) (show Holds B w0 w3 (star (OS.RP o.g (.g cn r4)) (star Z (star (blkP w1.heap.size 103 #[.int .i64 i, .int .i64 r2.T.at_, .int .i64 0]) (star (blkP (w1.heap.size + 1) 97 x'.cs) (star (blkP w.heap.size 103 #[.int .i64 0, .int .i64 0, .int .i64 0]) Q))))) from h4r)
    have HH := Lib.hid h5
    have RLEN := HLEN
    have HPP := Lib.hid (HPA.out wait er (R.set i r2.next) (O1.set j { o with st := .g cn r4 }) ⟨O1, j, o, HOO.out, HKEY.out, HFS.out, HRL.out, by rw [HST.out, ED.out], by rw [HST.out, ED.out], by rw [HST.out, ED.out]; rfl, by rw [HST.out, ED.out]⟩)
    clear h4r h5 hZ
    rcases (show wait = false ∨ (wait = true ∧ er = 0) ∨ (wait = true ∧ er ≠ 0) by cases wait <;> simp <;> omega) with qw | ⟨qw, qe⟩ | ⟨qw, qe⟩
    · subst qw
      have hT9 := ref_tasks HH.out (by rw [RLEN.out]; exact HRL0.out)
      obtain ⟨adq, rq, hAq, hrq, hatq⟩ := rt_at hT9.src (show i < (R.set i r2.next).length by rw [RLEN.out]; exact hil)
      injection hAq with hAq
      subst hAq
      have HRQ := Lib.hid hrq
      have cb9 := hatq.b
      obtain ⟨fb9, h9⟩ := ref_set HH.out SE.out hrq (r' := rq.block false) (j := 2) (by omega) (by omega) (u := .bool false) rfl rfl
      have g9 : Holds B w0 _ (star (blkP w1.heap.size 103 #[.int .i64 i, .int .i64 r2.T.at_, .int .i64 0]) (star (refP b (some ad) c ((R.set i r2.next).set i (rq.block false)) (O1.set j { o with st := .g cn r4 })) (star (blkP (w1.heap.size + 1) 97 x'.cs) (star (blkP w.heap.size 103 #[.int .i64 0, .int .i64 0, .int .i64 0]) Q)))) := h9.perm (by ac_rfl)
      have SG := Lib.hid (show Stable (star (refP b (some ad) c ((R.set i r2.next).set i (rq.block false)) (O1.set j { o with st := .g cn r4 })) (star (blkP (w1.heap.size + 1) 97 x'.cs) (star (blkP w.heap.size 103 #[.int .i64 0, .int .i64 0, .int .i64 0]) Q))) from (refP_stable _ _ _ _ _).star ((blkP_stable _ _ _).star SR.out))
      have b9 := blk_at' g9
      have v2 := b9.cell 2
      have f2 := b9.free 2
      have g10 := g9.setBlk SG.out 2 (.int .i64 er)
      have b10 := blk_at' g10
      have v0 := b10.cell 0
      have v1 := b10.cell 1
      have v3 := b10.cell 2
      have g11 : Holds B w0 _ (star (blkP w.heap.size 103 #[.int .i64 0, .int .i64 0, .int .i64 0]) (star (blkP w1.heap.size 103 #[.int .i64 i, .int .i64 r2.T.at_, .int .i64 er]) (star (refP b (some ad) c ((R.set i r2.next).set i (rq.block false)) (O1.set j { o with st := .g cn r4 })) (star (blkP (w1.heap.size + 1) 97 x'.cs) Q)))) := g10.perm (by
        show star (blkP w1.heap.size 103 #[.int .i64 i, .int .i64 r2.T.at_, .int .i64 er]) _ = _
        ac_rfl)
      have S11 : Stable (star (blkP w1.heap.size 103 #[.int .i64 i, .int .i64 r2.T.at_, .int .i64 er]) (star (refP b (some ad) c ((R.set i r2.next).set i (rq.block false)) (O1.set j { o with st := .g cn r4 })) (star (blkP (w1.heap.size + 1) 97 x'.cs) Q))) := (blkP_stable _ _ _).star ((refP_stable _ _ _ _ _).star ((blkP_stable _ _ _).star HQ.out))
      obtain ⟨a0, n0, a1, n1, a2, n2, q0, q1, q2, p0, p1⟩ := store3 (blk_at' g11) (.int .i64 (i : Int)) (.int .i64 (r2.T.at_ : Int)) (.int .i64 er)
      have H12 := Lib.hid (held3 g11 S11 (.int .i64 (i : Int)) (.int .i64 (r2.T.at_ : Int)) (.int .i64 er))
      clear hT9 hrq hatq h9 g9 b9 g10 b10 g11 S11
      go_wp2_with fail
      refine bodyPost_ret (v := .tuple #[.agg #[.int .i64 i, .int .i64 r2.T.at_, .int .i64 er], .int .i64 0]) (by simp [results, Try.results65, go_sem, hu3, q0, q1, q2]) rfl ?_
      refine ⟨false, er, R.set i r2.next, O1.set j { o with st := .g cn r4 }, rq, HPP.out, RLEN.out, HRQ.out, rfl, ?_⟩
      have y1 := H12.out.drop.drop
      have y2 : Holds B w0 _ (star (blkP (w1.heap.size + 1) 97 x'.cs) (star (refP b (some ad) c ((R.set i r2.next).set i (rq.block false)) (O1.set j { o with st := .g cn r4 })) Q)) := y1.perm (by ac_rfl)
      have y3 := y2.drop
      rw [show (false && (er : Int) == 0) = false by rfl]
      exact y3.kept ((refP_stable _ _ _ _ _).star HQ.out) kn
    · subst qw
      have de : ((er : Int) == 0) = true := by simp [qe]
      have QE := Lib.hid qe
      clear qe
      have hT9 := ref_tasks HH.out (by rw [RLEN.out]; exact HRL0.out)
      obtain ⟨adq, rq, hAq, hrq, hatq⟩ := rt_at hT9.src (show i < (R.set i r2.next).length by rw [RLEN.out]; exact hil)
      injection hAq with hAq
      subst hAq
      have HRQ := Lib.hid hrq
      have cb9 := hatq.b
      obtain ⟨fb9, h9⟩ := ref_set HH.out SE.out hrq (r' := rq.block true) (j := 2) (by omega) (by omega) (u := .bool true) rfl rfl
      have g9 : Holds B w0 _ (star (blkP w1.heap.size 103 #[.int .i64 i, .int .i64 r2.T.at_, .int .i64 0]) (star (refP b (some ad) c ((R.set i r2.next).set i (rq.block true)) (O1.set j { o with st := .g cn r4 })) (star (blkP (w1.heap.size + 1) 97 x'.cs) (star (blkP w.heap.size 103 #[.int .i64 0, .int .i64 0, .int .i64 0]) Q)))) := h9.perm (by ac_rfl)
      have SG := Lib.hid (show Stable (star (refP b (some ad) c ((R.set i r2.next).set i (rq.block true)) (O1.set j { o with st := .g cn r4 })) (star (blkP (w1.heap.size + 1) 97 x'.cs) (star (blkP w.heap.size 103 #[.int .i64 0, .int .i64 0, .int .i64 0]) Q))) from (refP_stable _ _ _ _ _).star ((blkP_stable _ _ _).star SR.out))
      have b9 := blk_at' g9
      have v2 := b9.cell 2
      have f2 := b9.free 2
      have g10 := g9.setBlk SG.out 2 (.int .i64 er)
      have b10 := blk_at' g10
      have v0 := b10.cell 0
      have v1 := b10.cell 1
      have v3 := b10.cell 2
      have g11 : Holds B w0 _ (star (blkP w.heap.size 103 #[.int .i64 0, .int .i64 0, .int .i64 0]) (star (blkP w1.heap.size 103 #[.int .i64 i, .int .i64 r2.T.at_, .int .i64 er]) (star (refP b (some ad) c ((R.set i r2.next).set i (rq.block true)) (O1.set j { o with st := .g cn r4 })) (star (blkP (w1.heap.size + 1) 97 x'.cs) Q)))) := g10.perm (by
        show star (blkP w1.heap.size 103 #[.int .i64 i, .int .i64 r2.T.at_, .int .i64 er]) _ = _
        ac_rfl)
      have S11 : Stable (star (blkP w1.heap.size 103 #[.int .i64 i, .int .i64 r2.T.at_, .int .i64 er]) (star (refP b (some ad) c ((R.set i r2.next).set i (rq.block true)) (O1.set j { o with st := .g cn r4 })) (star (blkP (w1.heap.size + 1) 97 x'.cs) Q))) := (blkP_stable _ _ _).star ((refP_stable _ _ _ _ _).star ((blkP_stable _ _ _).star HQ.out))
      obtain ⟨a0, n0, a1, n1, a2, n2, q0, q1, q2, p0, p1⟩ := store3 (blk_at' g11) (.int .i64 (i : Int)) (.int .i64 (r2.T.at_ : Int)) (.int .i64 er)
      have H12 := Lib.hid (held3 g11 S11 (.int .i64 (i : Int)) (.int .i64 (r2.T.at_ : Int)) (.int .i64 er))
      clear hT9 hrq hatq h9 g9 b9 g10 b10 g11 S11
      go_wp2_with fail
      refine bodyPost_ret (v := .tuple #[.agg #[.int .i64 i, .int .i64 r2.T.at_, .int .i64 er], .int .i64 0]) (by simp [results, Try.results65, go_sem, hu3, q0, q1, q2]) rfl ?_
      refine ⟨true, er, R.set i r2.next, O1.set j { o with st := .g cn r4 }, rq, HPP.out, RLEN.out, HRQ.out, rfl, ?_⟩
      have y1 := H12.out.drop.drop
      have y2 : Holds B w0 _ (star (blkP (w1.heap.size + 1) 97 x'.cs) (star (refP b (some ad) c ((R.set i r2.next).set i (rq.block true)) (O1.set j { o with st := .g cn r4 })) Q)) := y1.perm (by ac_rfl)
      have y3 := y2.drop
      rw [show (true && (er : Int) == 0) = true by simp [QE.out]]
      exact y3.kept ((refP_stable _ _ _ _ _).star HQ.out) kn
    · subst qw
      have de : ((er : Int) == 0) = false := by simp [qe]
      have QE := Lib.hid qe
      clear qe
      have hT9 := ref_tasks HH.out (by rw [RLEN.out]; exact HRL0.out)
      obtain ⟨adq, rq, hAq, hrq, hatq⟩ := rt_at hT9.src (show i < (R.set i r2.next).length by rw [RLEN.out]; exact hil)
      injection hAq with hAq
      subst hAq
      have HRQ := Lib.hid hrq
      have cb9 := hatq.b
      obtain ⟨fb9, h9⟩ := ref_set HH.out SE.out hrq (r' := rq.block false) (j := 2) (by omega) (by omega) (u := .bool false) rfl rfl
      have g9 : Holds B w0 _ (star (blkP w1.heap.size 103 #[.int .i64 i, .int .i64 r2.T.at_, .int .i64 0]) (star (refP b (some ad) c ((R.set i r2.next).set i (rq.block false)) (O1.set j { o with st := .g cn r4 })) (star (blkP (w1.heap.size + 1) 97 x'.cs) (star (blkP w.heap.size 103 #[.int .i64 0, .int .i64 0, .int .i64 0]) Q)))) := h9.perm (by ac_rfl)
      have SG := Lib.hid (show Stable (star (refP b (some ad) c ((R.set i r2.next).set i (rq.block false)) (O1.set j { o with st := .g cn r4 })) (star (blkP (w1.heap.size + 1) 97 x'.cs) (star (blkP w.heap.size 103 #[.int .i64 0, .int .i64 0, .int .i64 0]) Q))) from (refP_stable _ _ _ _ _).star ((blkP_stable _ _ _).star SR.out))
      have b9 := blk_at' g9
      have v2 := b9.cell 2
      have f2 := b9.free 2
      have g10 := g9.setBlk SG.out 2 (.int .i64 er)
      have b10 := blk_at' g10
      have v0 := b10.cell 0
      have v1 := b10.cell 1
      have v3 := b10.cell 2
      have g11 : Holds B w0 _ (star (blkP w.heap.size 103 #[.int .i64 0, .int .i64 0, .int .i64 0]) (star (blkP w1.heap.size 103 #[.int .i64 i, .int .i64 r2.T.at_, .int .i64 er]) (star (refP b (some ad) c ((R.set i r2.next).set i (rq.block false)) (O1.set j { o with st := .g cn r4 })) (star (blkP (w1.heap.size + 1) 97 x'.cs) Q)))) := g10.perm (by
        show star (blkP w1.heap.size 103 #[.int .i64 i, .int .i64 r2.T.at_, .int .i64 er]) _ = _
        ac_rfl)
      have S11 : Stable (star (blkP w1.heap.size 103 #[.int .i64 i, .int .i64 r2.T.at_, .int .i64 er]) (star (refP b (some ad) c ((R.set i r2.next).set i (rq.block false)) (O1.set j { o with st := .g cn r4 })) (star (blkP (w1.heap.size + 1) 97 x'.cs) Q))) := (blkP_stable _ _ _).star ((refP_stable _ _ _ _ _).star ((blkP_stable _ _ _).star HQ.out))
      obtain ⟨a0, n0, a1, n1, a2, n2, q0, q1, q2, p0, p1⟩ := store3 (blk_at' g11) (.int .i64 (i : Int)) (.int .i64 (r2.T.at_ : Int)) (.int .i64 er)
      have H12 := Lib.hid (held3 g11 S11 (.int .i64 (i : Int)) (.int .i64 (r2.T.at_ : Int)) (.int .i64 er))
      clear hT9 hrq hatq h9 g9 b9 g10 b10 g11 S11
      go_wp2_with fail
      refine bodyPost_ret (v := .tuple #[.agg #[.int .i64 i, .int .i64 r2.T.at_, .int .i64 er], .int .i64 0]) (by simp [results, Try.results65, go_sem, hu3, q0, q1, q2]) rfl ?_
      refine ⟨true, er, R.set i r2.next, O1.set j { o with st := .g cn r4 }, rq, HPP.out, RLEN.out, HRQ.out, rfl, ?_⟩
      have y1 := H12.out.drop.drop
      have y2 : Holds B w0 _ (star (blkP (w1.heap.size + 1) 97 x'.cs) (star (refP b (some ad) c ((R.set i r2.next).set i (rq.block false)) (O1.set j { o with st := .g cn r4 })) Q)) := y1.perm (by ac_rfl)
      have y3 := y2.drop
      rw [show (true && (er : Int) == 0) = false by simp [QE.out]]
      exact y3.kept ((refP_stable _ _ _ _ _).star HQ.out) kn
end
end Go.Proofs.Ytmohpjkbhpgidaa.A
