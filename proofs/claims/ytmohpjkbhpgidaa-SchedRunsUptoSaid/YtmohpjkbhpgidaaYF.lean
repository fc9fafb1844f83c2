/-
  The scheduler: what a once does. Printed by gen_yf.py.
-/
import Derived.Test.YtmohpjkbhpgidaaTK
import Derived.Test.YtmohpjkbhpgidaaYE
namespace Go.Proofs.Ytmohpjkbhpgidaa.A
open Go.RowKit Go.Proofs.Ytmohpjkbhpgidaa.U
set_option linter.unusedVariables false
set_option linter.unusedSimpArgs false
set_option maxRecDepth 100000
set_option maxHeartbeats 800000

section
variable {B : Nat} {w0 w : World} {Q : SP} {g bt : Nat} {T : Tk} {x : Op3} {id : Int} {W : Int} {ov : Bool} {L : List Int}
/-- A row without its end. -/
theorem row_cut {A : Option Addr} {n c k : Nat} {xs : List Value} (h : Holds B w0 w (star (rowP 3 1 (.slice A n c) n xs) Q)) (hQ : Stable Q) (hk : k ≤ n) : Holds B w0 w (star (rowP 3 1 (.slice A k c) k (xs.take k)) Q) :=
  h.did_left hQ fun F ⟨hr, hF⟩ => by
    obtain ⟨A', c', e, h1, h2⟩ := hr.form
    injection e with e1 e2 e3
    subst e1 e3
    have := hr.take_ hk (show k ≤ c by omega) (Nat.le_refl _)
    rw [Nat.mul_one] at this
    exact ⟨F, ⟨this, fun k' => (hF k').trans (by cases A <;> exact Iff.rfl)⟩, Keep.same _ _, fun k hk => .inl hk⟩
def onceOk (T : Tk) (x : Op3) : Bool := T.runs.getLast? == some x.obj
def Tk.pop (T : Tk) : Tk := { T with runs := T.runs.dropLast }
def Tk.push (T : Tk) (n : Int) : Tk := { T with runs := T.runs ++ [n] }
theorem do_end0 (hh : Holds B w0 w (star (oP g W ov L) (star (taskP bt T) Q))) (hQ : Stable Q) (hk : x.k = 8) (h0 : T.runs.length = 0) :
    Calls Try.prog 137 #[.agg #[.pointer (some ⟨g, 0, none⟩)], .pointer (some ⟨bt, 0, none⟩), .int .i64 id, x.val] w (AnsPost B w0 (false) ([]) (1) (star (star (oP g W ov L) (taskP bt T)) Q)) := by
  have hu := Try.underlying178
  have hu2 := Try.underlying97
  have hu3 := Try.underlying150
  have hu4 := Try.underlying143
  have h1 := do_start_t (g := g) hh (oP_stable _ _ _ _) ((taskP_stable bt T).star hQ) x 178
  have HQ := Lib.hid hQ
  have SQ := Lib.hid (show Stable (star (blkP (w.heap.size + 1 + 1) 150 #[.bool false, .slice none 0 0, .int .i64 0]) (star (blkP (w.heap.size + 1) 97 x.cs) (star (blkP w.heap.size 178 #[.pointer (some ⟨g, 0, none⟩)]) (star (taskP bt T) Q)))) from (blkP_stable _ _ _).star ((blkP_stable _ _ _).star ((blkP_stable _ _ _).star ((taskP_stable _ _).star hQ))))
  have c0 := (blk_at' (show Holds B w0 (d3t w g 178 x) (star (blkP w.heap.size 178 #[.pointer (some ⟨g, 0, none⟩)]) (star (oP g W ov L) (star (blkP (w.heap.size + 1 + 1) 150 #[.bool false, .slice none 0 0, .int .i64 0]) (star (blkP (w.heap.size + 1) 97 x.cs) (star (taskP bt T) Q))))) from h1.perm (by ac_rfl))).cell 0
  have XO := blk_at' (show Holds B w0 (d3t w g 178 x) (star (blkP (w.heap.size + 1) 97 x.cs) (star (oP g W ov L) (star (blkP (w.heap.size + 1 + 1) 150 #[.bool false, .slice none 0 0, .int .i64 0]) (star (blkP w.heap.size 178 #[.pointer (some ⟨g, 0, none⟩)]) (star (taskP bt T) Q))))) from h1.perm (by ac_rfl))
  have o0 := XO.cell 0
  have o1 := XO.cell 1
  have h2 : Holds B w0 (d3t w g 178 x) (star (taskP bt T) (star (oP g W ov L) (star (blkP (w.heap.size + 1 + 1) 150 #[.bool false, .slice none 0 0, .int .i64 0]) (star (blkP (w.heap.size + 1) 97 x.cs) (star (blkP w.heap.size 178 #[.pointer (some ⟨g, 0, none⟩)]) Q))))) := h1.perm (by ac_rfl)
  obtain ⟨A1, A2, c1, c2, h3⟩ := task_open h2
  have BT := blk_at' h3
  have t3 : (d3t w g 178 x).cell? ⟨bt, 3, none⟩ = some (.slice A2 T.runs.length c2) := BT.cell 3
  have HH := Lib.hid (show Holds B w0 w (star (star (oP g W ov L) (taskP bt T)) Q) from hh.perm (by ac_rfl))
  have H1 := Lib.hid (show Holds B w0 (d3t w g 178 x) (star (blkP (w.heap.size + 1 + 1) 150 #[.bool false, .slice none 0 0, .int .i64 0]) (star (oP g W ov L) (star (taskP bt T) (star (blkP (w.heap.size + 1) 97 x.cs) (star (blkP w.heap.size 178 #[.pointer (some ⟨g, 0, none⟩)]) Q))))) from h1.perm (by ac_rfl))
  have S1 := Lib.hid (show Stable (star (oP g W ov L) (star (taskP bt T) (star (blkP (w.heap.size + 1) 97 x.cs) (star (blkP w.heap.size 178 #[.pointer (some ⟨g, 0, none⟩)]) Q)))) from (oP_stable _ _ _ _).star ((taskP_stable _ _).star ((blkP_stable _ _ _).star ((blkP_stable _ _ _).star hQ))))
  rw [h0] at t3
  have D8 : (x.k == 8) = true := by simp [hk]
  have hT : (fun _ => True : World → Prop) (d3t w g 178 x) := trivial
  clear h1 h2 h3 BT hh hQ hk XO h0
  unfold Op3.val Op3.cs
  go_enter Try.func137, Try.ntmps137
  go_wp2_with fail
  refine wp_region_noPanic ?_
  refine wp_region_held_drew (S := (fun _ => True)) (by kernel_rfl) hT (fun hHeld => ?_)
  refine tk 0 ?_
  (try simp only [pn])
  refine tk 1 ?_
  (try simp only [pn])
  refine tk 2 ?_
  (try simp only [pn])
  refine wpAnyH_take (i := 3) (oi := _) (v := undef) (by simp only [List.getElem?_toArray, List.getElem?_cons_succ, List.getElem?_cons_zero]; rfl) (by kernel_rfl) (by kernel_rfl) (by kernel_rfl) (fun _ _ _ h => h) (Or.inr ⟨by rfl, rfl⟩) (by assumption) ?_
  (try simp only [pn])
  refine wpAnyH_take (i := 4) (oi := _) (v := undef) (by simp only [List.getElem?_toArray, List.getElem?_cons_succ, List.getElem?_cons_zero]; rfl) (by kernel_rfl) (by kernel_rfl) (by kernel_rfl) (fun _ _ _ h => h) (Or.inr ⟨by rfl, rfl⟩) (by assumption) ?_
  (try simp only [pn])
  refine wpAnyH_take (i := 5) (oi := _) (v := undef) (by simp only [List.getElem?_toArray, List.getElem?_cons_succ, List.getElem?_cons_zero]; rfl) (by kernel_rfl) (by kernel_rfl) (by kernel_rfl) (fun _ _ _ h => h) (Or.inr ⟨by rfl, rfl⟩) (by assumption) ?_
  (try simp only [pn])
  refine wpAnyH_take (i := 6) (oi := _) (v := undef) (by simp only [List.getElem?_toArray, List.getElem?_cons_succ, List.getElem?_cons_zero]; rfl) (by kernel_rfl) (by kernel_rfl) (by kernel_rfl) (fun _ _ _ h => h) (Or.inr ⟨by rfl, rfl⟩) (by assumption) ?_
  (try simp only [pn])
  refine wpAnyH_take (i := 7) (oi := _) (v := undef) (by simp only [List.getElem?_toArray, List.getElem?_cons_succ, List.getElem?_cons_zero]; rfl) (by kernel_rfl) (by kernel_rfl) (by kernel_rfl) (fun _ _ _ h => h) (Or.inr ⟨by rfl, rfl⟩) (by assumption) ?_
  (try simp only [pn])
  refine wpAnyH_take (i := 8) (oi := _) (v := undef) (by simp only [List.getElem?_toArray, List.getElem?_cons_succ, List.getElem?_cons_zero]; rfl) (by kernel_rfl) (by kernel_rfl) (by kernel_rfl) (fun _ _ _ h => h) (Or.inr ⟨by rfl, rfl⟩) (by assumption) ?_
  (try simp only [pn])
  refine wpAnyH_take (i := 9) (oi := _) (v := undef) (by simp only [List.getElem?_toArray, List.getElem?_cons_succ, List.getElem?_cons_zero]; rfl) (by kernel_rfl) (by kernel_rfl) (by kernel_rfl) (fun _ _ _ h => h) (Or.inr ⟨by rfl, rfl⟩) (by assumption) ?_
  (try simp only [pn])
  refine wpAnyH_take (i := 10) (oi := _) (v := undef) (by simp only [List.getElem?_toArray, List.getElem?_cons_succ, List.getElem?_cons_zero]; rfl) (by kernel_rfl) (by kernel_rfl) (by kernel_rfl) (fun _ _ _ h => h) (Or.inr ⟨by rfl, rfl⟩) (by assumption) ?_
  (try simp only [pn])
  refine wpAnyH_take (i := 11) (oi := _) (v := undef) (by simp only [List.getElem?_toArray, List.getElem?_cons_succ, List.getElem?_cons_zero]; rfl) (by kernel_rfl) (by kernel_rfl) (by kernel_rfl) (fun _ _ _ h => h) (Or.inr ⟨by rfl, rfl⟩) (by assumption) ?_
  (try simp only [pn])
  refine wpAnyH_take (i := 12) (oi := _) (v := undef) (by simp only [List.getElem?_toArray, List.getElem?_cons_succ, List.getElem?_cons_zero]; rfl) (by kernel_rfl) (by kernel_rfl) (by kernel_rfl) (fun _ _ _ h => h) (Or.inr ⟨by rfl, rfl⟩) (by assumption) ?_
  (try simp only [pn])
  refine tk 13 ?_
  (try simp only [pn])
  refine wpAnyH_done (by kernel_rfl) ?_ _
  refine NoPanic.normal ?_
  clear hT
  have h6 := H1.out
  obtain ⟨a0, b0, a1, b1, a2, b2, q0, q1, q2, p0, p1⟩ := store3 (blk_at' h6) (.bool false) (.slice none 0 0) (.int .i64 1)
  have H7 := Lib.hid (held3 h6 S1.out (.bool false) (.slice none 0 0) (.int .i64 1))
  clear h6
  go_wp2_with fail
  refine bodyPost_ret (v := .agg #[.bool false, .slice none 0 0, .int .i64 1]) (by simp [results, Try.results137, go_sem, hu3, q0, q1, q2]) rfl ?_
  refine ⟨none, 0, rfl, ?_⟩
  exact HH.out.newRow (((oP_stable _ _ _ _).star (taskP_stable _ _)).star HQ.out) (Row.nil _ 3 1) kn (fun k hk => by simp [Value.ownBlock] at hk)
theorem do_endn (hh : Holds B w0 w (star (oP g W ov L) (star (taskP bt T) Q))) (hQ : Stable Q) (hk : x.k = 8) (h0 : 0 < T.runs.length) (hr : T.runs.length ≤ 1000000) (hne : onceOk T x = false) :
    Calls Try.prog 137 #[.agg #[.pointer (some ⟨g, 0, none⟩)], .pointer (some ⟨bt, 0, none⟩), .int .i64 id, x.val] w (AnsPost B w0 (false) ([]) (1) (star (star (oP g W ov L) (taskP bt T)) Q)) := by
  have hu := Try.underlying178
  have hu2 := Try.underlying97
  have hu3 := Try.underlying150
  have hu4 := Try.underlying143
  have h1 := do_start_t (g := g) hh (oP_stable _ _ _ _) ((taskP_stable bt T).star hQ) x 178
  have HQ := Lib.hid hQ
  have SQ := Lib.hid (show Stable (star (blkP (w.heap.size + 1 + 1) 150 #[.bool false, .slice none 0 0, .int .i64 0]) (star (blkP (w.heap.size + 1) 97 x.cs) (star (blkP w.heap.size 178 #[.pointer (some ⟨g, 0, none⟩)]) (star (taskP bt T) Q)))) from (blkP_stable _ _ _).star ((blkP_stable _ _ _).star ((blkP_stable _ _ _).star ((taskP_stable _ _).star hQ))))
  have c0 := (blk_at' (show Holds B w0 (d3t w g 178 x) (star (blkP w.heap.size 178 #[.pointer (some ⟨g, 0, none⟩)]) (star (oP g W ov L) (star (blkP (w.heap.size + 1 + 1) 150 #[.bool false, .slice none 0 0, .int .i64 0]) (star (blkP (w.heap.size + 1) 97 x.cs) (star (taskP bt T) Q))))) from h1.perm (by ac_rfl))).cell 0
  have XO := blk_at' (show Holds B w0 (d3t w g 178 x) (star (blkP (w.heap.size + 1) 97 x.cs) (star (oP g W ov L) (star (blkP (w.heap.size + 1 + 1) 150 #[.bool false, .slice none 0 0, .int .i64 0]) (star (blkP w.heap.size 178 #[.pointer (some ⟨g, 0, none⟩)]) (star (taskP bt T) Q))))) from h1.perm (by ac_rfl))
  have o0 := XO.cell 0
  have o1 := XO.cell 1
  have h2 : Holds B w0 (d3t w g 178 x) (star (taskP bt T) (star (oP g W ov L) (star (blkP (w.heap.size + 1 + 1) 150 #[.bool false, .slice none 0 0, .int .i64 0]) (star (blkP (w.heap.size + 1) 97 x.cs) (star (blkP w.heap.size 178 #[.pointer (some ⟨g, 0, none⟩)]) Q))))) := h1.perm (by ac_rfl)
  obtain ⟨A1, A2, c1, c2, h3⟩ := task_open h2
  have BT := blk_at' h3
  have t3 : (d3t w g 178 x).cell? ⟨bt, 3, none⟩ = some (.slice A2 T.runs.length c2) := BT.cell 3
  have HH := Lib.hid (show Holds B w0 w (star (star (oP g W ov L) (taskP bt T)) Q) from hh.perm (by ac_rfl))
  have H1 := Lib.hid (show Holds B w0 (d3t w g 178 x) (star (blkP (w.heap.size + 1 + 1) 150 #[.bool false, .slice none 0 0, .int .i64 0]) (star (oP g W ov L) (star (taskP bt T) (star (blkP (w.heap.size + 1) 97 x.cs) (star (blkP w.heap.size 178 #[.pointer (some ⟨g, 0, none⟩)]) Q))))) from h1.perm (by ac_rfl))
  have S1 := Lib.hid (show Stable (star (oP g W ov L) (star (taskP bt T) (star (blkP (w.heap.size + 1) 97 x.cs) (star (blkP w.heap.size 178 #[.pointer (some ⟨g, 0, none⟩)]) Q)))) from (oP_stable _ _ _ _).star ((taskP_stable _ _).star ((blkP_stable _ _ _).star ((blkP_stable _ _ _).star hQ))))
  have g3 : Holds B w0 (d3t w g 178 x) (star (nrow T A2 c2) (star (blkP bt 143 (T.cs A1 A2 c1 c2)) (star (orow T A1 c1) (star (oP g W ov L) (star (blkP (w.heap.size + 1 + 1) 150 #[.bool false, .slice none 0 0, .int .i64 0]) (star (blkP (w.heap.size + 1) 97 x.cs) (star (blkP w.heap.size 178 #[.pointer (some ⟨g, 0, none⟩)]) Q))))))) := h3.perm (by ac_rfl)
  obtain ⟨l, hl⟩ : ∃ l, T.runs.length = l + 1 := ⟨T.runs.length - 1, by omega⟩
  obtain ⟨ad, v, rfl, hv, hcv⟩ := i_at g3.row.src (show l < T.runs.length by omega)
  have hlast : T.runs.getLast? = some v := by rw [List.getLast?_eq_getElem?, hl]; exact hv
  obtain ⟨A9, c9, e9, hc1, hc2⟩ := g3.row.form
  have hcc : T.runs.length ≤ c2 := by injection e9 with _ _ e3; rw [e3]; exact hc1
  generalize hm : T.runs.length = m at *
  have ML := Lib.hid hl
  have hlm : l < m := by omega
  have hlc : l ≤ c2 := by omega
  have hwA : IntKind.i64.wrap ((m : Int) - 1) = (l : Int) := by rw [IntKind.wrap_i64]; omega
  have hwB : wrap64 ((m : Int) - 1) = (l : Int) := by unfold wrap64; omega
  have D8 : (x.k == 8) = true := by simp [hk]
  have dl : decide ((l : Int) < 0) = false := decide_eq_false (by omega)
  have hv1 : (v != x.obj) = true := by unfold onceOk at hne; rw [hlast] at hne; simpa using hne
  have hH : (fun w' => w'.cell? ⟨bt, 3, none⟩ = some (.slice (some ad) m c2) ∧ w'.cell? (ad.add l) = some (.int .i64 v) ∧ w'.cell? ⟨w.heap.size + 1, 1, none⟩ = some (.int .i64 x.obj)) (d3t w g 178 x) := ⟨t3, hcv, o1⟩
  dsimp only at hH
  clear h1 h2 h3 g3 BT hh hQ hk XO h0 hne hlast hv hcv e9 hc1 hc2 hcc hl hm hr
  unfold Op3.val Op3.cs
  go_enter Try.func137, Try.ntmps137
  go_wp2_with fail
  refine wp_region_noPanic ?_
  refine wp_region_held_drew (S := (fun w' => w'.cell? ⟨bt, 3, none⟩ = some (.slice (some ad) m c2) ∧ w'.cell? (ad.add l) = some (.int .i64 v) ∧ w'.cell? ⟨w.heap.size + 1, 1, none⟩ = some (.int .i64 x.obj))) (by kernel_rfl) hH (fun hHeld => ?_)
  refine tk 0 ?_
  (try simp only [pn])
  refine tk 1 ?_
  (try simp only [pn])
  refine tk 2 ?_
  (try simp only [pn])
  refine tk 3 ?_
  (try simp only [pn])
  refine tk 4 ?_
  (try simp only [pn])
  refine tk 5 ?_
  (try simp only [pn])
  refine tk 6 ?_
  (try simp only [pn])
  refine tk 7 ?_
  (try simp only [pn])
  refine tk 8 ?_
  (try simp only [pn])
  refine tk 9 ?_
  (try simp only [pn])
  refine tk 10 ?_
  (try simp only [pn])
  refine tk 11 ?_
  (try simp only [pn])
  refine tk 12 ?_
  (try simp only [pn])
  refine tk 13 ?_
  (try simp only [pn])
  refine wpAnyH_done (by kernel_rfl) ?_ _
  refine NoPanic.normal ?_
  clear hH
  have h6 := H1.out
  obtain ⟨a0, b0, a1, b1, a2, b2, q0, q1, q2, p0, p1⟩ := store3 (blk_at' h6) (.bool false) (.slice none 0 0) (.int .i64 1)
  have H7 := Lib.hid (held3 h6 S1.out (.bool false) (.slice none 0 0) (.int .i64 1))
  clear h6
  go_wp2_with fail
  refine bodyPost_ret (v := .agg #[.bool false, .slice none 0 0, .int .i64 1]) (by simp [results, Try.results137, go_sem, hu3, q0, q1, q2]) rfl ?_
  refine ⟨none, 0, rfl, ?_⟩
  exact HH.out.newRow (((oP_stable _ _ _ _).star (taskP_stable _ _)).star HQ.out) (Row.nil _ 3 1) kn (fun k hk => by simp [Value.ownBlock] at hk)
theorem do_endy (hh : Holds B w0 w (star (oP g W ov L) (star (taskP bt T) Q))) (hQ : Stable Q) (hk : x.k = 8) (hr : T.runs.length ≤ 1000000) (hne : onceOk T x = true) :
    Calls Try.prog 137 #[.agg #[.pointer (some ⟨g, 0, none⟩)], .pointer (some ⟨bt, 0, none⟩), .int .i64 id, x.val] w (AnsPost B w0 (false) (fR W id L) (fE W id) (star (star (oP g (fW W id) (fO W id ov) (fL W id L)) (taskP bt T.pop)) Q)) := by
  have hu := Try.underlying178
  have hu2 := Try.underlying97
  have hu3 := Try.underlying150
  have hu4 := Try.underlying143
  have h1 := do_start_t (g := g) hh (oP_stable _ _ _ _) ((taskP_stable bt T).star hQ) x 178
  have HQ := Lib.hid hQ
  have SQ := Lib.hid (show Stable (star (blkP (w.heap.size + 1 + 1) 150 #[.bool false, .slice none 0 0, .int .i64 0]) (star (blkP (w.heap.size + 1) 97 x.cs) (star (blkP w.heap.size 178 #[.pointer (some ⟨g, 0, none⟩)]) (star (taskP bt T) Q)))) from (blkP_stable _ _ _).star ((blkP_stable _ _ _).star ((blkP_stable _ _ _).star ((taskP_stable _ _).star hQ))))
  have c0 := (blk_at' (show Holds B w0 (d3t w g 178 x) (star (blkP w.heap.size 178 #[.pointer (some ⟨g, 0, none⟩)]) (star (oP g W ov L) (star (blkP (w.heap.size + 1 + 1) 150 #[.bool false, .slice none 0 0, .int .i64 0]) (star (blkP (w.heap.size + 1) 97 x.cs) (star (taskP bt T) Q))))) from h1.perm (by ac_rfl))).cell 0
  have XO := blk_at' (show Holds B w0 (d3t w g 178 x) (star (blkP (w.heap.size + 1) 97 x.cs) (star (oP g W ov L) (star (blkP (w.heap.size + 1 + 1) 150 #[.bool false, .slice none 0 0, .int .i64 0]) (star (blkP w.heap.size 178 #[.pointer (some ⟨g, 0, none⟩)]) (star (taskP bt T) Q))))) from h1.perm (by ac_rfl))
  have o0 := XO.cell 0
  have o1 := XO.cell 1
  have h2 : Holds B w0 (d3t w g 178 x) (star (taskP bt T) (star (oP g W ov L) (star (blkP (w.heap.size + 1 + 1) 150 #[.bool false, .slice none 0 0, .int .i64 0]) (star (blkP (w.heap.size + 1) 97 x.cs) (star (blkP w.heap.size 178 #[.pointer (some ⟨g, 0, none⟩)]) Q))))) := h1.perm (by ac_rfl)
  obtain ⟨A1, A2, c1, c2, h3⟩ := task_open h2
  have BT := blk_at' h3
  have t3 : (d3t w g 178 x).cell? ⟨bt, 3, none⟩ = some (.slice A2 T.runs.length c2) := BT.cell 3
  have h0 : 0 < T.runs.length := by
    unfold onceOk at hne
    cases hq : T.runs with
    | nil => rw [hq] at hne; simp at hne
    | cons a l => simp
  have g3 : Holds B w0 (d3t w g 178 x) (star (nrow T A2 c2) (star (blkP bt 143 (T.cs A1 A2 c1 c2)) (star (orow T A1 c1) (star (oP g W ov L) (star (blkP (w.heap.size + 1 + 1) 150 #[.bool false, .slice none 0 0, .int .i64 0]) (star (blkP (w.heap.size + 1) 97 x.cs) (star (blkP w.heap.size 178 #[.pointer (some ⟨g, 0, none⟩)]) Q))))))) := h3.perm (by ac_rfl)
  obtain ⟨l, hl⟩ : ∃ l, T.runs.length = l + 1 := ⟨T.runs.length - 1, by omega⟩
  obtain ⟨ad, v, rfl, hv, hcv⟩ := i_at g3.row.src (show l < T.runs.length by omega)
  have hlast : T.runs.getLast? = some v := by rw [List.getLast?_eq_getElem?, hl]; exact hv
  obtain ⟨A9, c9, e9, hc1, hc2⟩ := g3.row.form
  have hcc : T.runs.length ≤ c2 := by injection e9 with _ _ e3; rw [e3]; exact hc1
  generalize hm : T.runs.length = m at *
  have ML := Lib.hid hl
  have hlm : l < m := by omega
  have hlc : l ≤ c2 := by omega
  have hwA : IntKind.i64.wrap ((m : Int) - 1) = (l : Int) := by rw [IntKind.wrap_i64]; omega
  have hwB : wrap64 ((m : Int) - 1) = (l : Int) := by unfold wrap64; omega
  have D8 : (x.k == 8) = true := by simp [hk]
  have dl : decide ((l : Int) < 0) = false := decide_eq_false (by omega)
  have hv1 : (v != x.obj) = false := by unfold onceOk at hne; rw [hlast] at hne; simpa using hne
  have hH : (fun w' => w'.cell? ⟨bt, 3, none⟩ = some (.slice (some ad) m c2) ∧ w'.cell? (ad.add l) = some (.int .i64 v) ∧ w'.cell? ⟨w.heap.size + 1, 1, none⟩ = some (.int .i64 x.obj)) (d3t w g 178 x) := ⟨t3, hcv, o1⟩
  dsimp only at hH
  have f3 := BT.free 3
  have g4 := row_cut g3 ((blkP_stable _ _ _).star ((rowP_stable _ _ _ _ _).star ((oP_stable _ _ _ _).star ((blkP_stable _ _ _).star ((blkP_stable _ _ _).star ((blkP_stable _ _ _).star hQ)))))) (show l ≤ T.runs.length by omega)
  have g5 : Holds B w0 (d3t w g 178 x) (star (blkP bt 143 (T.cs A1 (some ad) c1 c2)) (star (rowP 3 1 (.slice (some ad) l c2) l ((ints T.runs).take l)) (star (orow T A1 c1) (star (oP g W ov L) (star (blkP (w.heap.size + 1 + 1) 150 #[.bool false, .slice none 0 0, .int .i64 0]) (star (blkP (w.heap.size + 1) 97 x.cs) (star (blkP w.heap.size 178 #[.pointer (some ⟨g, 0, none⟩)]) Q))))))) := g4.perm (by ac_rfl)
  have g6 := g5.setBlk ((rowP_stable _ _ _ _ _).star ((rowP_stable _ _ _ _ _).star ((oP_stable _ _ _ _).star ((blkP_stable _ _ _).star ((blkP_stable _ _ _).star ((blkP_stable _ _ _).star hQ)))))) 3 (.slice (some ad) l c2)
  have hpl : T.runs.dropLast.length = l := by rw [List.length_dropLast]; omega
  have hpi : (ints T.runs).take l = ints T.runs.dropLast := by unfold ints; rw [← List.map_take, List.dropLast_eq_take, show T.runs.length - 1 = l by omega]
  have g7 : Holds B w0 ((d3t w g 178 x).setCell ⟨bt, 3, none⟩ (.slice (some ad) l c2)) (star (taskP bt T.pop) (star (oP g W ov L) (star (blkP (w.heap.size + 1 + 1) 150 #[.bool false, .slice none 0 0, .int .i64 0]) (star (blkP (w.heap.size + 1) 97 x.cs) (star (blkP w.heap.size 178 #[.pointer (some ⟨g, 0, none⟩)]) Q))))) := by
    refine task_close (T := T.pop) (A := A1) (A' := some ad) (c := c1) (c' := c2) ?_
    show Holds B w0 _ (star (blkP bt 143 #[.slice A1 T.ops.length c1, .int .i64 T.at_, .bool T.blk, .slice (some ad) T.runs.dropLast.length c2]) (star (orow T A1 c1) (star (rowP 3 1 (.slice (some ad) T.runs.dropLast.length c2) T.runs.dropLast.length (ints T.runs.dropLast)) (star (oP g W ov L) (star (blkP (w.heap.size + 1 + 1) 150 #[.bool false, .slice none 0 0, .int .i64 0]) (star (blkP (w.heap.size + 1) 97 x.cs) (star (blkP w.heap.size 178 #[.pointer (some ⟨g, 0, none⟩)]) Q)))))))
    rw [hpl, ← hpi]
    exact g6.perm (by
      show star (blkP bt 143 #[.slice A1 T.ops.length c1, .int .i64 T.at_, .bool T.blk, .slice (some ad) l c2]) _ = _
      ac_rfl)
  have H7 := Lib.hid (show Holds B w0 ((d3t w g 178 x).setCell ⟨bt, 3, none⟩ (.slice (some ad) l c2)) (star (oP g W ov L) (star (blkP (w.heap.size + 1 + 1) 150 #[.bool false, .slice none 0 0, .int .i64 0]) (star (blkP (w.heap.size + 1) 97 x.cs) (star (blkP w.heap.size 178 #[.pointer (some ⟨g, 0, none⟩)]) (star (taskP bt T.pop) Q))))) from g7.perm (by ac_rfl))
  have S7 := Lib.hid (show Stable (star (blkP (w.heap.size + 1 + 1) 150 #[.bool false, .slice none 0 0, .int .i64 0]) (star (blkP (w.heap.size + 1) 97 x.cs) (star (blkP w.heap.size 178 #[.pointer (some ⟨g, 0, none⟩)]) (star (taskP bt T.pop) Q)))) from (blkP_stable _ _ _).star ((blkP_stable _ _ _).star ((blkP_stable _ _ _).star ((taskP_stable _ _).star hQ))))
  have HC := Lib.hid (fun (X' : World) (hX : Keep Nothing ((d3t w g 178 x).setCell ⟨bt, 3, none⟩ (.slice (some ad) l c2)) X') => show Calls Try.prog 40 #[.pointer (some ⟨g, 0, none⟩), .int .i64 id] X' (fun e w' => ∃ (A : Option Addr) (c : Nat), e = .returned (.tuple #[.slice A (fR W id L).length c, .int .i64 (fE W id)]) ∧ Holds B w0 w' (star (rowP 3 1 (.slice A (fR W id L).length c) (fR W id L).length (ints (fR W id L))) (star (oP g (fW W id) (fO W id ov) (fL W id L)) (star (blkP (w.heap.size + 1 + 1) 150 #[.bool false, .slice none 0 0, .int .i64 0]) (star (blkP (w.heap.size + 1) 97 x.cs) (star (blkP w.heap.size 178 #[.pointer (some ⟨g, 0, none⟩)]) (star (taskP bt T.pop) Q))))))) from
    (Holds.on_left_ex (H7.out.kept ((oP_stable _ _ _ _).star S7.out) hX) S7.out (α := Option Addr × Nat) (post := fun a e => e = .returned (.tuple #[.slice a.1 (fR W id L).length a.2, .int .i64 (fE W id)])) (P' := fun a => star (rowP 3 1 (.slice a.1 (fR W id L).length a.2) (fR W id L).length (ints (fR W id L))) (oP g (fW W id) (fO W id ov) (fL W id L))) fun F hm' => done_calls _ g F W id ov L hm').mono fun e w' ⟨a, he, h⟩ => ⟨a.1, a.2, he, h.perm (by ac_rfl)⟩)
  have cb0 := (blk_at' (show Holds B w0 ((d3t w g 178 x).setCell ⟨bt, 3, none⟩ (.slice (some ad) l c2)) (star (blkP w.heap.size 178 #[.pointer (some ⟨g, 0, none⟩)]) (star (taskP bt T.pop) (star (oP g W ov L) (star (blkP (w.heap.size + 1 + 1) 150 #[.bool false, .slice none 0 0, .int .i64 0]) (star (blkP (w.heap.size + 1) 97 x.cs) Q))))) from g7.perm (by ac_rfl))).cell 0
  generalize fR W id L = r1 at *
  generalize fE W id = r2 at *
  generalize fW W id = r3 at *
  generalize fO W id ov = r4 at *
  generalize fL W id L = r5 at *
  clear h1 h2 h3 g3 g4 g5 g6 g7 BT hh hQ hk XO h0 hne hlast hv hcv e9 hc1 hc2 hcc hl hm hr hpl hpi
  unfold Op3.val Op3.cs
  go_enter Try.func137, Try.ntmps137
  go_wp2_with fail
  refine wp_region_noPanic ?_
  refine wp_region_held_drew (S := (fun w' => w'.cell? ⟨bt, 3, none⟩ = some (.slice (some ad) m c2) ∧ w'.cell? (ad.add l) = some (.int .i64 v) ∧ w'.cell? ⟨w.heap.size + 1, 1, none⟩ = some (.int .i64 x.obj))) (by kernel_rfl) hH (fun hHeld => ?_)
  refine tk 0 ?_
  (try simp only [pn])
  refine tk 1 ?_
  (try simp only [pn])
  refine tk 2 ?_
  (try simp only [pn])
  refine tk 3 ?_
  (try simp only [pn])
  refine tk 4 ?_
  (try simp only [pn])
  refine tk 5 ?_
  (try simp only [pn])
  refine tk 6 ?_
  (try simp only [pn])
  refine tk 7 ?_
  (try simp only [pn])
  refine tk 8 ?_
  (try simp only [pn])
  refine tk 9 ?_
  (try simp only [pn])
  refine tk 10 ?_
  (try simp only [pn])
  refine tk 11 ?_
  (try simp only [pn])
  refine tk 12 ?_
  (try simp only [pn])
  refine tk 13 ?_
  (try simp only [pn])
  refine wpAnyH_done (by kernel_rfl) ?_ _
  refine NoPanic.normal ?_
  clear hH
  go_wp2_with fail
  refine (HC.out _ kn).mono ?_
  rintro e w5 ⟨A5, c5, rfl, h5⟩
  have h6 : Holds B w0 w5 (star (blkP (w.heap.size + 1 + 1) 150 #[.bool false, .slice none 0 0, .int .i64 0]) (star (rowP 3 1 (.slice A5 r1.length c5) r1.length (ints r1)) (star (star (oP g r3 r4 r5) (taskP bt T.pop)) (star (blkP (w.heap.size + 1) 97 x.cs) (star (blkP w.heap.size 178 #[.pointer (some ⟨g, 0, none⟩)]) Q))))) := h5.perm (by ac_rfl)
  have S6 : Stable (star (rowP 3 1 (.slice A5 r1.length c5) r1.length (ints r1)) (star (star (oP g r3 r4 r5) (taskP bt T.pop)) (star (blkP (w.heap.size + 1) 97 x.cs) (star (blkP w.heap.size 178 #[.pointer (some ⟨g, 0, none⟩)]) Q)))) := (rowP_stable _ _ _ _ _).star (((oP_stable _ _ _ _).star (taskP_stable _ _)).star ((blkP_stable _ _ _).star ((blkP_stable _ _ _).star HQ.out)))
  obtain ⟨a0, b0, a1, b1, a2, b2, q0, q1, q2, p0, p1⟩ := store3 (blk_at' h6) (.bool false) (.slice A5 r1.length c5) (.int .i64 r2)
  have H8 := Lib.hid (held3 h6 S6 (.bool false) (.slice A5 r1.length c5) (.int .i64 r2))
  clear h5 h6 S6 c0 o0 o1 t3 f3 cb0
  go_wp2_with fail
  refine bodyPost_ret (v := .agg #[.bool false, .slice A5 r1.length c5, .int .i64 r2]) (by simp [results, Try.results137, go_sem, hu3, q0, q1, q2]) rfl ?_
  refine ⟨A5, c5, rfl, ?_⟩
  have g8 := H8.out.drop
  have g9 : Holds B w0 _ (star (blkP (w.heap.size + 1) 97 x.cs) (star (blkP w.heap.size 178 #[.pointer (some ⟨g, 0, none⟩)]) (star (rowP 3 1 (.slice A5 r1.length c5) r1.length (ints r1)) (star (star (oP g r3 r4 r5) (taskP bt T.pop)) Q)))) := g8.perm (by ac_rfl)
  exact g9.drop.drop
theorem do_doe (hh : Holds B w0 w (star (oP g W ov L) (star (taskP bt T) Q))) (hQ : Stable Q) (hL : L.length ≤ 1000000) (hk : x.k = 7) (he : dE W L id ≠ 0) :
    Calls Try.prog 137 #[.agg #[.pointer (some ⟨g, 0, none⟩)], .pointer (some ⟨bt, 0, none⟩), .int .i64 id, x.val] w (AnsPost B w0 (dWait W ov L id) ([]) (dE W L id) (star (star (oP g (dW W ov L id) ov (dL W ov L id)) (taskP bt T)) Q)) := by
  have hu := Try.underlying178
  have hu2 := Try.underlying97
  have hu3 := Try.underlying150
  have hu4 := Try.underlying143
  have h1 := do_start_t (g := g) hh (oP_stable _ _ _ _) ((taskP_stable bt T).star hQ) x 178
  have HQ := Lib.hid hQ
  have SQ := Lib.hid (show Stable (star (blkP (w.heap.size + 1 + 1) 150 #[.bool false, .slice none 0 0, .int .i64 0]) (star (blkP (w.heap.size + 1) 97 x.cs) (star (blkP w.heap.size 178 #[.pointer (some ⟨g, 0, none⟩)]) (star (taskP bt T) Q)))) from (blkP_stable _ _ _).star ((blkP_stable _ _ _).star ((blkP_stable _ _ _).star ((taskP_stable _ _).star hQ))))
  have c0 := (blk_at' (show Holds B w0 (d3t w g 178 x) (star (blkP w.heap.size 178 #[.pointer (some ⟨g, 0, none⟩)]) (star (oP g W ov L) (star (blkP (w.heap.size + 1 + 1) 150 #[.bool false, .slice none 0 0, .int .i64 0]) (star (blkP (w.heap.size + 1) 97 x.cs) (star (taskP bt T) Q))))) from h1.perm (by ac_rfl))).cell 0
  have XO := blk_at' (show Holds B w0 (d3t w g 178 x) (star (blkP (w.heap.size + 1) 97 x.cs) (star (oP g W ov L) (star (blkP (w.heap.size + 1 + 1) 150 #[.bool false, .slice none 0 0, .int .i64 0]) (star (blkP w.heap.size 178 #[.pointer (some ⟨g, 0, none⟩)]) (star (taskP bt T) Q))))) from h1.perm (by ac_rfl))
  have o0 := XO.cell 0
  have o1 := XO.cell 1
  have D8 : (x.k == 8) = false := by simp [hk]
  have HC := Lib.hid (h1.on_left SQ.out (post := fun e => e = .returned (.tuple #[.bool (dRun W ov L id), .bool (dWait W ov L id), .int .i64 (dE W L id)])) fun F hm => do_calls _ g F W id ov L hm hL)
  generalize dRun W ov L id = r1 at *
  generalize dWait W ov L id = r2 at *
  generalize dE W L id = r3 at *
  generalize dW W ov L id = r4 at *
  generalize dL W ov L id = r5 at *
  have d1 : (r3 != 0) = true := by simpa using he
  clear h1 hh hQ hk XO he
  unfold Op3.val Op3.cs
  go_enter Try.func137, Try.ntmps137
  go_wp2_with fail
  refine HC.out.mono ?_
  rintro e w5 ⟨rfl, h5⟩
  clear c0 o0 o1
  have h6 : Holds B w0 _ (star (blkP (w.heap.size + 1 + 1) 150 #[.bool false, .slice none 0 0, .int .i64 0]) (star (star (oP g r4 ov r5) (taskP bt T)) (star (blkP (w.heap.size + 1) 97 x.cs) (star (blkP w.heap.size 178 #[.pointer (some ⟨g, 0, none⟩)]) Q)))) := (h5).perm (by ac_rfl)
  have S6 : Stable (star (star (oP g r4 ov r5) (taskP bt T)) (star (blkP (w.heap.size + 1) 97 x.cs) (star (blkP w.heap.size 178 #[.pointer (some ⟨g, 0, none⟩)]) Q))) := ((oP_stable _ _ _ _).star (taskP_stable _ _)).star ((blkP_stable _ _ _).star ((blkP_stable _ _ _).star HQ.out))
  obtain ⟨a0, b0, a1, b1, a2, b2, q0, q1, q2, p0, p1⟩ := store3 (blk_at' h6) (.bool r2) (.slice none 0 0) (.int .i64 r3)
  have H8 := Lib.hid (held3 h6 S6 (.bool r2) (.slice none 0 0) (.int .i64 r3))
  clear h6 S6
  go_wp2_with fail
  refine bodyPost_ret (v := .agg #[.bool r2, .slice none 0 0, .int .i64 r3]) (by simp [results, Try.results137, go_sem, hu3, q0, q1, q2]) rfl ?_
  refine ⟨none, 0, rfl, ?_⟩
  have g8 := H8.out.drop
  have g9 : Holds B w0 _ (star (blkP (w.heap.size + 1) 97 x.cs) (star (blkP w.heap.size 178 #[.pointer (some ⟨g, 0, none⟩)]) (star (star (oP g r4 ov r5) (taskP bt T)) Q))) := g8.perm (by ac_rfl)
  exact g9.drop.drop.newRow (((oP_stable _ _ _ _).star (taskP_stable _ _)).star HQ.out) (Row.nil _ 3 1) kn (fun k hk => by simp [Value.ownBlock] at hk)
theorem do_dos (hh : Holds B w0 w (star (oP g W ov L) (star (taskP bt T) Q))) (hQ : Stable Q) (hL : L.length ≤ 1000000) (hk : x.k = 7) (he : dE W L id = 0) (hrun : dRun W ov L id = false) (hl : T.ops.length ≤ 1000000) (ha : T.at_ ≤ T.ops.length) :
    Calls Try.prog 137 #[.agg #[.pointer (some ⟨g, 0, none⟩)], .pointer (some ⟨bt, 0, none⟩), .int .i64 id, x.val] w (AnsPost B w0 (dWait W ov L id) ([]) (dE W L id) (star (star (oP g (dW W ov L id) ov (dL W ov L id)) (taskP bt T.past)) Q)) := by
  have hu := Try.underlying178
  have hu2 := Try.underlying97
  have hu3 := Try.underlying150
  have hu4 := Try.underlying143
  have h1 := do_start_t (g := g) hh (oP_stable _ _ _ _) ((taskP_stable bt T).star hQ) x 178
  have HQ := Lib.hid hQ
  have SQ := Lib.hid (show Stable (star (blkP (w.heap.size + 1 + 1) 150 #[.bool false, .slice none 0 0, .int .i64 0]) (star (blkP (w.heap.size + 1) 97 x.cs) (star (blkP w.heap.size 178 #[.pointer (some ⟨g, 0, none⟩)]) (star (taskP bt T) Q)))) from (blkP_stable _ _ _).star ((blkP_stable _ _ _).star ((blkP_stable _ _ _).star ((taskP_stable _ _).star hQ))))
  have c0 := (blk_at' (show Holds B w0 (d3t w g 178 x) (star (blkP w.heap.size 178 #[.pointer (some ⟨g, 0, none⟩)]) (star (oP g W ov L) (star (blkP (w.heap.size + 1 + 1) 150 #[.bool false, .slice none 0 0, .int .i64 0]) (star (blkP (w.heap.size + 1) 97 x.cs) (star (taskP bt T) Q))))) from h1.perm (by ac_rfl))).cell 0
  have XO := blk_at' (show Holds B w0 (d3t w g 178 x) (star (blkP (w.heap.size + 1) 97 x.cs) (star (oP g W ov L) (star (blkP (w.heap.size + 1 + 1) 150 #[.bool false, .slice none 0 0, .int .i64 0]) (star (blkP w.heap.size 178 #[.pointer (some ⟨g, 0, none⟩)]) (star (taskP bt T) Q))))) from h1.perm (by ac_rfl))
  have o0 := XO.cell 0
  have o1 := XO.cell 1
  have D8 : (x.k == 8) = false := by simp [hk]
  have HC := Lib.hid (h1.on_left SQ.out (post := fun e => e = .returned (.tuple #[.bool (dRun W ov L id), .bool (dWait W ov L id), .int .i64 (dE W L id)])) fun F hm => do_calls _ g F W id ov L hm hL)
  generalize dRun W ov L id = r1 at *
  generalize dWait W ov L id = r2 at *
  generalize dE W L id = r3 at *
  generalize dW W ov L id = r4 at *
  generalize dL W ov L id = r5 at *
  have d1 : (r3 != 0) = false := by simpa using he
  have HA := Lib.hid ha
  subst hrun
  clear h1 hh hQ hk XO he ha
  unfold Op3.val Op3.cs
  go_enter Try.func137, Try.ntmps137
  go_wp2_with fail
  refine HC.out.mono ?_
  rintro e w5 ⟨rfl, h5⟩
  have h5' : Holds B w0 w5 (star (taskP bt T) (star (oP g r4 ov r5) (star (blkP (w.heap.size + 1 + 1) 150 #[.bool false, .slice none 0 0, .int .i64 0]) (star (blkP (w.heap.size + 1) 97 x.cs) (star (blkP w.heap.size 178 #[.pointer (some ⟨g, 0, none⟩)]) Q))))) := h5.perm (by ac_rfl)
  have SK := Lib.hid (skip133 h5' ((oP_stable _ _ _ _).star ((blkP_stable _ _ _).star ((blkP_stable _ _ _).star ((blkP_stable _ _ _).star HQ.out)))) hl HA.out)
  clear c0 o0 o1 h5 h5'
  go_wp2_with fail
  refine SK.out.mono ?_
  rintro e w6 ⟨rfl, h5⟩
  have h6 : Holds B w0 _ (star (blkP (w.heap.size + 1 + 1) 150 #[.bool false, .slice none 0 0, .int .i64 0]) (star (star (oP g r4 ov r5) (taskP bt T.past)) (star (blkP (w.heap.size + 1) 97 x.cs) (star (blkP w.heap.size 178 #[.pointer (some ⟨g, 0, none⟩)]) Q)))) := (h5).perm (by ac_rfl)
  have S6 : Stable (star (star (oP g r4 ov r5) (taskP bt T.past)) (star (blkP (w.heap.size + 1) 97 x.cs) (star (blkP w.heap.size 178 #[.pointer (some ⟨g, 0, none⟩)]) Q))) := ((oP_stable _ _ _ _).star (taskP_stable _ _)).star ((blkP_stable _ _ _).star ((blkP_stable _ _ _).star HQ.out))
  obtain ⟨a0, b0, a1, b1, a2, b2, q0, q1, q2, p0, p1⟩ := store3 (blk_at' h6) (.bool r2) (.slice none 0 0) (.int .i64 r3)
  have H8 := Lib.hid (held3 h6 S6 (.bool r2) (.slice none 0 0) (.int .i64 r3))
  clear h6 S6
  go_wp2_with fail
  refine bodyPost_ret (v := .agg #[.bool r2, .slice none 0 0, .int .i64 r3]) (by simp [results, Try.results137, go_sem, hu3, q0, q1, q2]) rfl ?_
  refine ⟨none, 0, rfl, ?_⟩
  have g8 := H8.out.drop
  have g9 : Holds B w0 _ (star (blkP (w.heap.size + 1) 97 x.cs) (star (blkP w.heap.size 178 #[.pointer (some ⟨g, 0, none⟩)]) (star (star (oP g r4 ov r5) (taskP bt T.past)) Q))) := g8.perm (by ac_rfl)
  exact g9.drop.drop.newRow (((oP_stable _ _ _ _).star (taskP_stable _ _)).star HQ.out) (Row.nil _ 3 1) kn (fun k hk => by simp [Value.ownBlock] at hk)
theorem do_dor (hh : Holds B w0 w (star (oP g W ov L) (star (taskP bt T) Q))) (hQ : Stable Q) (hL : L.length ≤ 1000000) (hk : x.k = 7) (he : dE W L id = 0) (hrun : dRun W ov L id = true) (hr : T.runs.length ≤ 1000000) :
    Calls Try.prog 137 #[.agg #[.pointer (some ⟨g, 0, none⟩)], .pointer (some ⟨bt, 0, none⟩), .int .i64 id, x.val] w (AnsPost B w0 (dWait W ov L id) ([]) (dE W L id) (star (star (oP g (dW W ov L id) ov (dL W ov L id)) (taskP bt (T.push x.obj))) Q)) := by
  have hu := Try.underlying178
  have hu2 := Try.underlying97
  have hu3 := Try.underlying150
  have hu4 := Try.underlying143
  have h1 := do_start_t (g := g) hh (oP_stable _ _ _ _) ((taskP_stable bt T).star hQ) x 178
  have HQ := Lib.hid hQ
  have SQ := Lib.hid (show Stable (star (blkP (w.heap.size + 1 + 1) 150 #[.bool false, .slice none 0 0, .int .i64 0]) (star (blkP (w.heap.size + 1) 97 x.cs) (star (blkP w.heap.size 178 #[.pointer (some ⟨g, 0, none⟩)]) (star (taskP bt T) Q)))) from (blkP_stable _ _ _).star ((blkP_stable _ _ _).star ((blkP_stable _ _ _).star ((taskP_stable _ _).star hQ))))
  have c0 := (blk_at' (show Holds B w0 (d3t w g 178 x) (star (blkP w.heap.size 178 #[.pointer (some ⟨g, 0, none⟩)]) (star (oP g W ov L) (star (blkP (w.heap.size + 1 + 1) 150 #[.bool false, .slice none 0 0, .int .i64 0]) (star (blkP (w.heap.size + 1) 97 x.cs) (star (taskP bt T) Q))))) from h1.perm (by ac_rfl))).cell 0
  have XO := blk_at' (show Holds B w0 (d3t w g 178 x) (star (blkP (w.heap.size + 1) 97 x.cs) (star (oP g W ov L) (star (blkP (w.heap.size + 1 + 1) 150 #[.bool false, .slice none 0 0, .int .i64 0]) (star (blkP w.heap.size 178 #[.pointer (some ⟨g, 0, none⟩)]) (star (taskP bt T) Q))))) from h1.perm (by ac_rfl))
  have o0 := XO.cell 0
  have o1 := XO.cell 1
  have D8 : (x.k == 8) = false := by simp [hk]
  have HC := Lib.hid (h1.on_left SQ.out (post := fun e => e = .returned (.tuple #[.bool (dRun W ov L id), .bool (dWait W ov L id), .int .i64 (dE W L id)])) fun F hm => do_calls _ g F W id ov L hm hL)
  generalize dRun W ov L id = r1 at *
  generalize dWait W ov L id = r2 at *
  generalize dE W L id = r3 at *
  generalize dW W ov L id = r4 at *
  generalize dL W ov L id = r5 at *
  have d1 : (r3 != 0) = false := by simpa using he
  have HR := Lib.hid hr
  subst hrun
  clear h1 hh hQ hk XO he hr
  unfold Op3.val Op3.cs
  go_enter Try.func137, Try.ntmps137
  go_wp2_with fail
  refine HC.out.mono ?_
  rintro e w5 ⟨rfl, h5⟩
  have h5' : Holds B w0 w5 (star (taskP bt T) (star (oP g r4 ov r5) (star (blkP (w.heap.size + 1 + 1) 150 #[.bool false, .slice none 0 0, .int .i64 0]) (star (blkP (w.heap.size + 1) 97 x.cs) (star (blkP w.heap.size 178 #[.pointer (some ⟨g, 0, none⟩)]) Q))))) := h5.perm (by ac_rfl)
  obtain ⟨A1, A2, c1, c2, h6⟩ := task_open h5'
  have BT := blk_at' h6
  have t3 : w5.cell? ⟨bt, 3, none⟩ = some (.slice A2 T.runs.length c2) := BT.cell 3
  have t3a := (BT.alloc (.cells #[.int .i64 x.obj] 3)).cell 3
  have HN := Lib.hid (show Holds B w0 w5 (star (nrow T A2 c2) (star (blkP bt 143 (T.cs A1 A2 c1 c2)) (star (orow T A1 c1) (star (oP g r4 ov r5) (star (blkP (w.heap.size + 1 + 1) 150 #[.bool false, .slice none 0 0, .int .i64 0]) (star (blkP (w.heap.size + 1) 97 x.cs) (star (blkP w.heap.size 178 #[.pointer (some ⟨g, 0, none⟩)]) Q))))))) from h6.perm (by ac_rfl))
  have RW := Lib.hid (fun (X' : World) (hX : Keep Nothing w5 X') => (HN.out.kept ((rowP_stable _ _ _ _ _).star ((blkP_stable _ _ _).star ((rowP_stable _ _ _ _ _).star ((oP_stable _ _ _ _).star ((blkP_stable _ _ _).star ((blkP_stable _ _ _).star ((blkP_stable _ _ _).star HQ.out))))))) hX).row)
  have SRC := Lib.hid (show U.Src (w5.alloc (.cells #[.int .i64 x.obj] 3)) (some ⟨w5.heap.size, 0, none⟩) 1 1 [.int .i64 x.obj] from U.Src.fresh w5 #[.int .i64 x.obj] 3 1 1 rfl)
  have hO : (fun w' => w'.cell? ⟨w.heap.size + 1, 1, none⟩ = some (.int .i64 x.obj)) w5 := (blk_at' (show Holds B w0 w5 (star (blkP (w.heap.size + 1) 97 x.cs) (star (oP g r4 ov r5) (star (blkP (w.heap.size + 1 + 1) 150 #[.bool false, .slice none 0 0, .int .i64 0]) (star (blkP w.heap.size 178 #[.pointer (some ⟨g, 0, none⟩)]) (star (taskP bt T) Q))))) from h5.perm (by ac_rfl))).cell 1
  dsimp only at hO
  clear c0 o0 o1 h5 h5' h6 BT
  go_wp2_with fail
  refine wp_region_noPanic ?_
  refine wp_region_held_drew (S := (fun w' => w'.cell? ⟨w.heap.size + 1, 1, none⟩ = some (.int .i64 x.obj))) (by kernel_rfl) (hO) (fun hHeld => ?_)
  refine tk 0 ?_
  (try simp only [pn])
  refine tk 1 ?_
  (try simp only [pn])
  refine tk 2 ?_
  (try simp only [pn])
  refine tk 3 ?_
  (try simp only [pn])
  refine tk 5 ?_
  (try simp only [pn])
  refine tk 6 ?_
  (try simp only [pn])
  refine wpAnyH_ready (rs := [4, 7]) (by kernel_rfl) (by simp) ?_
  refine AllReadyH.cons (o := _) (by simp only [List.getElem?_toArray, List.getElem?_cons_succ, List.getElem?_cons_zero]; rfl) (fun K hK => ?_) (AllReadyH.cons (o := _) (by simp only [List.getElem?_toArray, List.getElem?_cons_succ, List.getElem?_cons_zero]; rfl) (fun K hK => ?_) AllReadyH.nil)
  · go_simp
    refine hK.out _ _ (hHeld) (fun hHeld => ?_)
    clear hK K
    (try simp only [pn])
    refine rd 7 (fun K hK => ?_)
    go_simp
    refine hK.out _ _ (((Keep.same Nothing _).alloc _).cell hHeld (fun h => h)) (fun hHeld => ?_)
    clear hK K
    (try simp only [pn])
    refine rd 8 (fun K hK => ?_)
    refine step_app _ (by rfl) E26 (.tmp 77) (.tmp 80) (by rfl) (RW.out _ kn) (src_keep SRC.out kn) 1 (by simp [Act.eval, Act.put]) (by simp [Act.eval, Act.put]) (by simp [Value.oneCell']) (by have := HR.out; unfold maxLen; omega) (by have := HR.out; omega) ?_
    intro A9 c9 w9 hr9 hg9 hl9
    have N7 := Holds.grew (HN.out.kept ((rowP_stable _ _ _ _ _).star ((blkP_stable _ _ _).star ((rowP_stable _ _ _ _ _).star ((oP_stable _ _ _ _).star ((blkP_stable _ _ _).star ((blkP_stable _ _ _).star ((blkP_stable _ _ _).star HQ.out))))))) kn) ((blkP_stable _ _ _).star ((rowP_stable _ _ _ _ _).star ((oP_stable _ _ _ _).star ((blkP_stable _ _ _).star ((blkP_stable _ _ _).star ((blkP_stable _ _ _).star HQ.out)))))) hr9 hg9 hl9
    have N8 : Holds B w0 w9 (star (blkP bt 143 (T.cs A1 A2 c1 c2)) (star (rowP 3 1 (.slice A9 (T.runs.length + 1) c9) (T.runs.length + 1) (ints T.runs ++ [.int .i64 x.obj])) (star (orow T A1 c1) (star (oP g r4 ov r5) (star (blkP (w.heap.size + 1 + 1) 150 #[.bool false, .slice none 0 0, .int .i64 0]) (star (blkP (w.heap.size + 1) 97 x.cs) (star (blkP w.heap.size 178 #[.pointer (some ⟨g, 0, none⟩)]) Q))))))) := N7.perm (by ac_rfl)
    have a9 := (blk_at' N8).cell 3
    have f9 := (blk_at' N8).free 3
    have N9 := N8.setBlk ((rowP_stable _ _ _ _ _).star ((rowP_stable _ _ _ _ _).star ((oP_stable _ _ _ _).star ((blkP_stable _ _ _).star ((blkP_stable _ _ _).star ((blkP_stable _ _ _).star HQ.out)))))) 3 (.slice A9 (T.runs.length + 1) c9)
    have k9 : (fun w' => w'.cell? ⟨w.heap.size + 1, 1, none⟩ = some (.int .i64 x.obj)) w9 := (blk_at' (show Holds B w0 w9 (star (blkP (w.heap.size + 1) 97 x.cs) (star (blkP bt 143 (T.cs A1 A2 c1 c2)) (star (rowP 3 1 (.slice A9 (T.runs.length + 1) c9) (T.runs.length + 1) (ints T.runs ++ [.int .i64 x.obj])) (star (orow T A1 c1) (star (oP g r4 ov r5) (star (blkP (w.heap.size + 1 + 1) 150 #[.bool false, .slice none 0 0, .int .i64 0]) (star (blkP w.heap.size 178 #[.pointer (some ⟨g, 0, none⟩)]) Q))))))) from N7.perm (by ac_rfl))).cell 1
    have k10 : (fun w' => w'.cell? ⟨w.heap.size + 1, 1, none⟩ = some (.int .i64 x.obj)) (w9.setCell ⟨bt, 3, none⟩ (.slice A9 (T.runs.length + 1) c9)) := (blk_at' (show Holds B w0 (w9.setCell ⟨bt, 3, none⟩ (.slice A9 (T.runs.length + 1) c9)) (star (blkP (w.heap.size + 1) 97 x.cs) (star (blkP bt 143 ((T.cs A1 A2 c1 c2).setIfInBounds 3 (.slice A9 (T.runs.length + 1) c9))) (star (rowP 3 1 (.slice A9 (T.runs.length + 1) c9) (T.runs.length + 1) (ints T.runs ++ [.int .i64 x.obj])) (star (orow T A1 c1) (star (oP g r4 ov r5) (star (blkP (w.heap.size + 1 + 1) 150 #[.bool false, .slice none 0 0, .int .i64 0]) (star (blkP w.heap.size 178 #[.pointer (some ⟨g, 0, none⟩)]) Q))))))) from N9.perm (by ac_rfl))).cell 1
    have g7 : Holds B w0 (w9.setCell ⟨bt, 3, none⟩ (.slice A9 (T.runs.length + 1) c9)) (star (taskP bt (T.push x.obj)) (star (oP g r4 ov r5) (star (blkP (w.heap.size + 1 + 1) 150 #[.bool false, .slice none 0 0, .int .i64 0]) (star (blkP (w.heap.size + 1) 97 x.cs) (star (blkP w.heap.size 178 #[.pointer (some ⟨g, 0, none⟩)]) Q))))) := by
      refine task_close (T := T.push x.obj) (A := A1) (A' := A9) (c := c1) (c' := c9) ?_
      have e1 : (T.push x.obj).runs.length = T.runs.length + 1 := by simp [Tk.push]
      have e2 : ints (T.push x.obj).runs = ints T.runs ++ [.int .i64 x.obj] := by simp [Tk.push, ints]
      unfold Tk.cs nrow
      rw [e1, e2]
      exact N9.perm (by
        show star (blkP bt 143 #[.slice A1 T.ops.length c1, .int .i64 T.at_, .bool T.blk, .slice A9 (T.runs.length + 1) c9]) _ = star (blkP bt 143 #[.slice A1 T.ops.length c1, .int .i64 T.at_, .bool T.blk, .slice A9 (T.runs.length + 1) c9]) _
        ac_rfl)
    have H10 := Lib.hid g7
    clear N7 N8 N9 hr9 hg9 hl9 g7
    refine hK.out _ _ k9 (fun hHeld => ?_)
    clear hK K k9
    (try simp only [pn])
    refine tk 9 ?_
    (try simp only [pn])
    refine tk 10 ?_
    (try simp only [pn])
    refine rd 11 (fun K hK => ?_)
    go_simp
    refine hK.out _ _ (k10) (fun hHeld => ?_)
    clear hK K
    (try simp only [pn])
    refine wpAnyH_done (by kernel_rfl) ?_ _
    refine NoPanic.normal ?_
    clear k10 a9 f9
    have h6 : Holds B w0 _ (star (blkP (w.heap.size + 1 + 1) 150 #[.bool false, .slice none 0 0, .int .i64 0]) (star (star (oP g r4 ov r5) (taskP bt (T.push x.obj))) (star (blkP (w.heap.size + 1) 97 x.cs) (star (blkP w.heap.size 178 #[.pointer (some ⟨g, 0, none⟩)]) Q)))) := (H10.out).perm (by ac_rfl)
    have S6 : Stable (star (star (oP g r4 ov r5) (taskP bt (T.push x.obj))) (star (blkP (w.heap.size + 1) 97 x.cs) (star (blkP w.heap.size 178 #[.pointer (some ⟨g, 0, none⟩)]) Q))) := ((oP_stable _ _ _ _).star (taskP_stable _ _)).star ((blkP_stable _ _ _).star ((blkP_stable _ _ _).star HQ.out))
    obtain ⟨a0, b0, a1, b1, a2, b2, q0, q1, q2, p0, p1⟩ := store3 (blk_at' h6) (.bool r2) (.slice none 0 0) (.int .i64 r3)
    have H8 := Lib.hid (held3 h6 S6 (.bool r2) (.slice none 0 0) (.int .i64 r3))
    clear h6 S6
    go_wp2_with fail
    refine bodyPost_ret (v := .agg #[.bool r2, .slice none 0 0, .int .i64 r3]) (by simp [results, Try.results137, go_sem, hu3, q0, q1, q2]) rfl ?_
    refine ⟨none, 0, rfl, ?_⟩
    have g8 := H8.out.drop
    have g9 : Holds B w0 _ (star (blkP (w.heap.size + 1) 97 x.cs) (star (blkP w.heap.size 178 #[.pointer (some ⟨g, 0, none⟩)]) (star (star (oP g r4 ov r5) (taskP bt (T.push x.obj))) Q))) := g8.perm (by ac_rfl)
    exact g9.drop.drop.newRow (((oP_stable _ _ _ _).star (taskP_stable _ _)).star HQ.out) (Row.nil _ 3 1) kn (fun k hk => by simp [Value.ownBlock] at hk)
  · go_simp
    refine hK.out _ _ (((Keep.same Nothing _).alloc _).cell hHeld (fun h => h)) (fun hHeld => ?_)
    clear hK K
    (try simp only [pn])
    refine rd 4 (fun K hK => ?_)
    go_simp
    refine hK.out _ _ (hHeld) (fun hHeld => ?_)
    clear hK K
    (try simp only [pn])
    refine rd 8 (fun K hK => ?_)
    refine step_app _ (by rfl) E26 (.tmp 77) (.tmp 80) (by rfl) (RW.out _ kn) (src_keep SRC.out kn) 1 (by simp [Act.eval, Act.put]) (by simp [Act.eval, Act.put]) (by simp [Value.oneCell']) (by have := HR.out; unfold maxLen; omega) (by have := HR.out; omega) ?_
    intro A9 c9 w9 hr9 hg9 hl9
    have N7 := Holds.grew (HN.out.kept ((rowP_stable _ _ _ _ _).star ((blkP_stable _ _ _).star ((rowP_stable _ _ _ _ _).star ((oP_stable _ _ _ _).star ((blkP_stable _ _ _).star ((blkP_stable _ _ _).star ((blkP_stable _ _ _).star HQ.out))))))) kn) ((blkP_stable _ _ _).star ((rowP_stable _ _ _ _ _).star ((oP_stable _ _ _ _).star ((blkP_stable _ _ _).star ((blkP_stable _ _ _).star ((blkP_stable _ _ _).star HQ.out)))))) hr9 hg9 hl9
    have N8 : Holds B w0 w9 (star (blkP bt 143 (T.cs A1 A2 c1 c2)) (star (rowP 3 1 (.slice A9 (T.runs.length + 1) c9) (T.runs.length + 1) (ints T.runs ++ [.int .i64 x.obj])) (star (orow T A1 c1) (star (oP g r4 ov r5) (star (blkP (w.heap.size + 1 + 1) 150 #[.bool false, .slice none 0 0, .int .i64 0]) (star (blkP (w.heap.size + 1) 97 x.cs) (star (blkP w.heap.size 178 #[.pointer (some ⟨g, 0, none⟩)]) Q))))))) := N7.perm (by ac_rfl)
    have a9 := (blk_at' N8).cell 3
    have f9 := (blk_at' N8).free 3
    have N9 := N8.setBlk ((rowP_stable _ _ _ _ _).star ((rowP_stable _ _ _ _ _).star ((oP_stable _ _ _ _).star ((blkP_stable _ _ _).star ((blkP_stable _ _ _).star ((blkP_stable _ _ _).star HQ.out)))))) 3 (.slice A9 (T.runs.length + 1) c9)
    have k9 : (fun w' => w'.cell? ⟨w.heap.size + 1, 1, none⟩ = some (.int .i64 x.obj)) w9 := (blk_at' (show Holds B w0 w9 (star (blkP (w.heap.size + 1) 97 x.cs) (star (blkP bt 143 (T.cs A1 A2 c1 c2)) (star (rowP 3 1 (.slice A9 (T.runs.length + 1) c9) (T.runs.length + 1) (ints T.runs ++ [.int .i64 x.obj])) (star (orow T A1 c1) (star (oP g r4 ov r5) (star (blkP (w.heap.size + 1 + 1) 150 #[.bool false, .slice none 0 0, .int .i64 0]) (star (blkP w.heap.size 178 #[.pointer (some ⟨g, 0, none⟩)]) Q))))))) from N7.perm (by ac_rfl))).cell 1
    have k10 : (fun w' => w'.cell? ⟨w.heap.size + 1, 1, none⟩ = some (.int .i64 x.obj)) (w9.setCell ⟨bt, 3, none⟩ (.slice A9 (T.runs.length + 1) c9)) := (blk_at' (show Holds B w0 (w9.setCell ⟨bt, 3, none⟩ (.slice A9 (T.runs.length + 1) c9)) (star (blkP (w.heap.size + 1) 97 x.cs) (star (blkP bt 143 ((T.cs A1 A2 c1 c2).setIfInBounds 3 (.slice A9 (T.runs.length + 1) c9))) (star (rowP 3 1 (.slice A9 (T.runs.length + 1) c9) (T.runs.length + 1) (ints T.runs ++ [.int .i64 x.obj])) (star (orow T A1 c1) (star (oP g r4 ov r5) (star (blkP (w.heap.size + 1 + 1) 150 #[.bool false, .slice none 0 0, .int .i64 0]) (star (blkP w.heap.size 178 #[.pointer (some ⟨g, 0, none⟩)]) Q))))))) from N9.perm (by ac_rfl))).cell 1
    have g7 : Holds B w0 (w9.setCell ⟨bt, 3, none⟩ (.slice A9 (T.runs.length + 1) c9)) (star (taskP bt (T.push x.obj)) (star (oP g r4 ov r5) (star (blkP (w.heap.size + 1 + 1) 150 #[.bool false, .slice none 0 0, .int .i64 0]) (star (blkP (w.heap.size + 1) 97 x.cs) (star (blkP w.heap.size 178 #[.pointer (some ⟨g, 0, none⟩)]) Q))))) := by
      refine task_close (T := T.push x.obj) (A := A1) (A' := A9) (c := c1) (c' := c9) ?_
      have e1 : (T.push x.obj).runs.length = T.runs.length + 1 := by simp [Tk.push]
      have e2 : ints (T.push x.obj).runs = ints T.runs ++ [.int .i64 x.obj] := by simp [Tk.push, ints]
      unfold Tk.cs nrow
      rw [e1, e2]
      exact N9.perm (by
        show star (blkP bt 143 #[.slice A1 T.ops.length c1, .int .i64 T.at_, .bool T.blk, .slice A9 (T.runs.length + 1) c9]) _ = star (blkP bt 143 #[.slice A1 T.ops.length c1, .int .i64 T.at_, .bool T.blk, .slice A9 (T.runs.length + 1) c9]) _
        ac_rfl)
    have H10 := Lib.hid g7
    clear N7 N8 N9 hr9 hg9 hl9 g7
    refine hK.out _ _ k9 (fun hHeld => ?_)
    clear hK K k9
    (try simp only [pn])
    refine tk 9 ?_
    (try simp only [pn])
    refine tk 10 ?_
    (try simp only [pn])
    refine rd 11 (fun K hK => ?_)
    go_simp
    refine hK.out _ _ (k10) (fun hHeld => ?_)
    clear hK K
    (try simp only [pn])
    refine wpAnyH_done (by kernel_rfl) ?_ _
    refine NoPanic.normal ?_
    clear k10 a9 f9
    have h6 : Holds B w0 _ (star (blkP (w.heap.size + 1 + 1) 150 #[.bool false, .slice none 0 0, .int .i64 0]) (star (star (oP g r4 ov r5) (taskP bt (T.push x.obj))) (star (blkP (w.heap.size + 1) 97 x.cs) (star (blkP w.heap.size 178 #[.pointer (some ⟨g, 0, none⟩)]) Q)))) := (H10.out).perm (by ac_rfl)
    have S6 : Stable (star (star (oP g r4 ov r5) (taskP bt (T.push x.obj))) (star (blkP (w.heap.size + 1) 97 x.cs) (star (blkP w.heap.size 178 #[.pointer (some ⟨g, 0, none⟩)]) Q))) := ((oP_stable _ _ _ _).star (taskP_stable _ _)).star ((blkP_stable _ _ _).star ((blkP_stable _ _ _).star HQ.out))
    obtain ⟨a0, b0, a1, b1, a2, b2, q0, q1, q2, p0, p1⟩ := store3 (blk_at' h6) (.bool r2) (.slice none 0 0) (.int .i64 r3)
    have H8 := Lib.hid (held3 h6 S6 (.bool r2) (.slice none 0 0) (.int .i64 r3))
    clear h6 S6
    go_wp2_with fail
    refine bodyPost_ret (v := .agg #[.bool r2, .slice none 0 0, .int .i64 r3]) (by simp [results, Try.results137, go_sem, hu3, q0, q1, q2]) rfl ?_
    refine ⟨none, 0, rfl, ?_⟩
    have g8 := H8.out.drop
    have g9 : Holds B w0 _ (star (blkP (w.heap.size + 1) 97 x.cs) (star (blkP w.heap.size 178 #[.pointer (some ⟨g, 0, none⟩)]) (star (star (oP g r4 ov r5) (taskP bt (T.push x.obj))) Q))) := g8.perm (by ac_rfl)
    exact g9.drop.drop.newRow (((oP_stable _ _ _ _).star (taskP_stable _ _)).star HQ.out) (Row.nil _ 3 1) kn (fun k hk => by simp [Value.ownBlock] at hk)
end
end Go.Proofs.Ytmohpjkbhpgidaa.A
