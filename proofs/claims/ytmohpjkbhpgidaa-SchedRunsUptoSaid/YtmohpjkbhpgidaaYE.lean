/-
  The scheduler: a task skips a once's operations. Printed by gen_ye.py.
-/
import Derived.Test.YtmohpjkbhpgidaaTK
import Derived.Test.YtmohpjkbhpgidaaYD
namespace Go.Proofs.Ytmohpjkbhpgidaa.A
open Go.RowKit Go.Proofs.Ytmohpjkbhpgidaa.U
set_option linter.unusedVariables false
set_option linter.unusedSimpArgs false
set_option maxRecDepth 100000
set_option maxHeartbeats 800000

/-- How many operations lie up to the end that belongs to the d-th. -/
def pastL : Nat → List Op3 → Nat
  | 0, _ => 0
  | _ + 1, [] => 0
  | d + 1, x :: l => 1 + pastL (if x.k = 7 then d + 2 else if x.k = 8 then d else d + 1) l
theorem pastL_nil (d : Nat) : pastL d [] = 0 := by cases d <;> rfl
theorem pastL_zero (l : List Op3) : pastL 0 l = 0 := by cases l <;> rfl
theorem pastL_le : ∀ (l : List Op3) (d : Nat), pastL d l ≤ l.length
  | [], d => by rw [pastL_nil]; exact Nat.zero_le _
  | x :: l, 0 => Nat.zero_le _
  | x :: l, d + 1 => by
    have := pastL_le l (if x.k = 7 then d + 2 else if x.k = 8 then d else d + 1)
    unfold pastL
    rw [List.length_cons]
    omega
theorem pastL_next {l : List Op3} {a d : Nat} {x : Op3} (hx : l[a]? = some x) (hd : 0 < d) : pastL d (l.drop a) = 1 + pastL (if x.k = 7 then d + 1 else if x.k = 8 then d - 1 else d) (l.drop (a + 1)) := by
  obtain ⟨ha, he⟩ := List.getElem?_eq_some_iff.1 hx
  obtain ⟨d, rfl⟩ : ∃ e, d = e + 1 := ⟨d - 1, by omega⟩
  rw [List.drop_eq_getElem_cons ha, he]
  rfl
def Tk.past (T : Tk) : Tk := { T with at_ := T.at_ + pastL 1 (T.ops.drop T.at_) }
def cellN (w : World) (p : Addr) : Nat := match w.cell? p with | some v => (intOf v).toNat | none => 0
section
variable {B : Nat} {w0 w : World} {Q : SP} {bt : Nat} {T : Tk}
theorem skip133 (h : Holds B w0 w (star (taskP bt T) Q)) (hQ : Stable Q) (hl : T.ops.length ≤ 1000000) (ha : T.at_ ≤ T.ops.length) :
    Calls Try.prog 133 #[.pointer (some ⟨bt, 0, none⟩)] w (fun e w' => e = .returned (.tuple #[]) ∧ Holds B w0 w' (star (taskP bt T.past) Q)) := by
  have hu := Try.underlying143
  have hu2 := Try.underlying97
  have hu3 := Try.underlying99
  have H := Lib.hid h
  have HQ := Lib.hid hQ
  have HA := Lib.hid ha
  clear h hQ ha
  go_enter Try.func133, Try.ntmps133
  go_wp2_with fail
  go_loopw [2] (fun vd wr => ∃ (a : Nat) (D : Int), vd = .int .i64 D ∧ 0 ≤ D ∧ D ≤ a + 1 ∧ a ≤ T.ops.length ∧ a + pastL D.toNat (T.ops.drop a) = T.at_ + pastL 1 (T.ops.drop T.at_) ∧ Holds B w0 wr (star (taskP bt { T with at_ := a }) Q)) (fun _ wr => T.ops.length - cellN wr ⟨bt, 1, none⟩)
  case atStart => exact ⟨T.at_, 1, rfl, by omega, by omega, HA.out, rfl, H.out⟩
  case round =>
    obtain ⟨a, D, rfl, hD0, hD1, ha, hp, hh⟩ := hrel
    obtain ⟨A1, A2, c1, c2, h3⟩ := task_open hh
    have HH := Lib.hid hh
    have HP := Lib.hid hp
    have BT := blk_at' h3
    have t0 : wr.cell? ⟨bt, 0, none⟩ = some (.slice A1 T.ops.length c1) := BT.cell 0
    have t1 : wr.cell? ⟨bt, 1, none⟩ = some (.int .i64 a) := BT.cell 1
    have MS := Lib.hid (show cellN wr ⟨bt, 1, none⟩ = a by unfold cellN; rw [t1]; simp [intOf])
    by_cases hd : 0 < D
    · have dd : decide (0 < D) = true := decide_eq_true hd
      by_cases hlt : a < T.ops.length
      · have g3 : Holds B w0 wr (star (orow { T with at_ := a } A1 c1) (star (blkP bt 143 (({ T with at_ := a } : Tk).cs A1 A2 c1 c2)) (star (nrow { T with at_ := a } A2 c2) Q))) := h3.perm (by ac_rfl)
        obtain ⟨ad, x, rfl, hx, o0, o1, o2⟩ := op_at g3.row.src (show a < ({ T with at_ := a } : Tk).ops.length from hlt)
        have HX := Lib.hid hx
        have S3 : Stable (star (orow { T with at_ := a } (some ad) c1) (star (nrow { T with at_ := a } A2 c2) Q)) := (rowP_stable _ _ _ _ _).star ((rowP_stable _ _ _ _ _).star HQ.out)
        have f1 := BT.free 1
        have h4 := h3.setBlk S3 1 (.int .i64 ((a : Int) + 1))
        have h5 : Holds B w0 (wr.setCell ⟨bt, 1, none⟩ (.int .i64 ((a : Int) + 1))) (star (taskP bt { T with at_ := a + 1 }) Q) := task_close (T := { T with at_ := a + 1 }) (A := some ad) (A' := A2) (c := c1) (c' := c2) h4
        have H5 := Lib.hid h5
        have MS5 := Lib.hid (fun (w' : World) (hk : Keep Nothing (wr.setCell ⟨bt, 1, none⟩ (.int .i64 ((a : Int) + 1))) w') => show cellN w' ⟨bt, 1, none⟩ = a + 1 by
          obtain ⟨A3, A4, c3, c4, B5⟩ := task_blk h5
          have := hk.cell (B5.cell 1) (fun h => h)
          unfold cellN
          rw [this]
          show (intOf (.int .i64 ((a + 1 : Nat) : Int))).toNat = a + 1
          simp [intOf])
        have hw1 : IntKind.i64.wrap ((a : Int) + 1) = (a : Int) + 1 := by rw [IntKind.wrap_i64]; omega
        have hw2 : IntKind.i64.wrap (D + 1) = D + 1 := by rw [IntKind.wrap_i64]; omega
        have hw3 : IntKind.i64.wrap (D - 1) = D - 1 := by rw [IntKind.wrap_i64]; omega
        have hH1 : (fun w' => w'.cell? ⟨bt, 0, none⟩ = some (.slice (some ad) T.ops.length c1) ∧ w'.cell? ⟨bt, 1, none⟩ = some (.int .i64 a)) wr := ⟨t0, t1⟩
        have hH3 : (fun w' => w'.cell? ⟨bt, 0, none⟩ = some (.slice (some ad) T.ops.length c1) ∧ w'.cell? ⟨bt, 1, none⟩ = some (.int .i64 a) ∧ w'.cell? (ad.add (a * 3)) = some (.int .i64 x.k)) wr := ⟨t0, t1, o0⟩
        dsimp only at hH1 hH3
        have HLT := Lib.hid hlt
        have HD := Lib.hid (show 0 ≤ D ∧ D ≤ a + 1 ∧ 0 < D from ⟨hD0, hD1, hd⟩)
        have hk := (show x.k = 7 ∨ x.k = 8 ∨ (x.k ≠ 7 ∧ x.k ≠ 8) by omega)
        clear hh hp h3 BT g3 hx o1 o2 S3 h4 h5 hD0 hD1 hd ha
        go_wp2_with fail
        refine wp_region_noPanic ?_
        refine wp_region_held_drew (S := (fun w' => w'.cell? ⟨bt, 0, none⟩ = some (.slice (some ad) T.ops.length c1) ∧ w'.cell? ⟨bt, 1, none⟩ = some (.int .i64 a))) (by kernel_rfl) hH1 (fun hHeld => ?_)
        refine tk 0 ?_
        (try simp only [pn])
        refine tk 1 ?_
        (try simp only [pn])
        refine tk 2 ?_
        (try simp only [pn])
        refine tk 3 ?_
        (try simp only [pn])
        refine tk 4 ?_
        (try simp only [pn])
        refine tk 5 ?_
        (try simp only [pn])
        refine tk 6 ?_
        (try simp only [pn])
        refine tk 7 ?_
        (try simp only [pn])
        refine tk 8 ?_
        (try simp only [pn])
        refine tk 9 ?_
        (try simp only [pn])
        refine tk 10 ?_
        (try simp only [pn])
        refine tk 11 ?_
        (try simp only [pn])
        refine tk 12 ?_
        (try simp only [pn])
        refine tk 13 ?_
        (try simp only [pn])
        refine wpAnyH_done (by kernel_rfl) ?_ _
        refine NoPanic.normal ?_
        go_wp2_with fail
        refine wp_region_noPanic ?_
        refine wp_region_held_drew (S := (fun w' => w'.cell? ⟨bt, 0, none⟩ = some (.slice (some ad) T.ops.length c1) ∧ w'.cell? ⟨bt, 1, none⟩ = some (.int .i64 a) ∧ w'.cell? (ad.add (a * 3)) = some (.int .i64 x.k))) (by kernel_rfl) hH3 (fun hHeld => ?_)
        refine tk 0 ?_
        (try simp only [pn])
        refine tk 1 ?_
        (try simp only [pn])
        refine tk 2 ?_
        (try simp only [pn])
        refine tk 3 ?_
        (try simp only [pn])
        refine tk 4 ?_
        (try simp only [pn])
        refine tk 5 ?_
        (try simp only [pn])
        refine tk 6 ?_
        (try simp only [pn])
        refine tk 7 ?_
        (try simp only [pn])
        refine tk 8 ?_
        (try simp only [pn])
        refine tk 9 ?_
        (try simp only [pn])
        refine tk 10 ?_
        (try simp only [pn])
        refine wpAnyH_done (by kernel_rfl) ?_ _
        refine NoPanic.normal ?_
        clear hH1 hH3
        rcases hk with hk | hk | ⟨hk, hk'⟩
        · have d7 : (x.k == 7) = true := by simp [hk]
          have HK := Lib.hid hk
          clear hk
          go_wp2_with fail
          go_roundw
          case rel => 
            refine ⟨a + 1, D + 1, rfl, by have := HD.out; omega, by have := HD.out; omega, HLT.out, ?_, H5.out.kept ((taskP_stable _ _).star HQ.out) kn⟩
            rw [← HP.out, pastL_next HX.out (by have := HD.out; omega), if_pos HK.out, show (D + 1).toNat = D.toNat + 1 by have := HD.out; omega]
            omega
          case measure => rw [MS.out, MS5.out _ kn]; have := HLT.out; omega
        · have d7 : (x.k == 7) = false := by simp [hk]
          have d8 : (x.k == 8) = true := by simp [hk]
          have HK := Lib.hid hk
          clear hk
          go_wp2_with fail
          go_roundw
          case rel => 
            refine ⟨a + 1, D - 1, rfl, by have := HD.out; omega, by have := HD.out; omega, HLT.out, ?_, H5.out.kept ((taskP_stable _ _).star HQ.out) kn⟩
            rw [← HP.out, pastL_next HX.out (by have := HD.out; omega), if_neg (by have := HK.out; omega), if_pos HK.out, show (D - 1).toNat = D.toNat - 1 by have := HD.out; omega]
            omega
          case measure => rw [MS.out, MS5.out _ kn]; have := HLT.out; omega
        · have d7 : (x.k == 7) = false := by simp [hk]
          have d8 : (x.k == 8) = false := by simp [hk']
          have HK := Lib.hid (And.intro hk hk')
          clear hk hk'
          go_wp2_with fail
          go_roundw
          case rel => 
            refine ⟨a + 1, D, rfl, by have := HD.out; omega, by have := HD.out; omega, HLT.out, ?_, H5.out.kept ((taskP_stable _ _).star HQ.out) kn⟩
            rw [← HP.out, pastL_next HX.out (by have := HD.out; omega), if_neg HK.out.1, if_neg HK.out.2]
            omega
          case measure => rw [MS.out, MS5.out _ kn]; have := HLT.out; omega
      · have EN := Lib.hid (show a = T.ops.length by omega)
        have hH1 : (fun w' => w'.cell? ⟨bt, 0, none⟩ = some (.slice A1 T.ops.length c1) ∧ w'.cell? ⟨bt, 1, none⟩ = some (.int .i64 a)) wr := ⟨t0, t1⟩
        dsimp only at hH1
        clear hh hp h3 BT hD0 hD1 ha
        go_wp2_with fail
        refine wp_region_noPanic ?_
        refine wp_region_held_drew (S := (fun w' => w'.cell? ⟨bt, 0, none⟩ = some (.slice A1 T.ops.length c1) ∧ w'.cell? ⟨bt, 1, none⟩ = some (.int .i64 a))) (by kernel_rfl) hH1 (fun hHeld => ?_)
        refine tk 0 ?_
        (try simp only [pn])
        refine tk 1 ?_
        (try simp only [pn])
        refine tk 2 ?_
        (try simp only [pn])
        refine tk 3 ?_
        (try simp only [pn])
        refine tk 4 ?_
        (try simp only [pn])
        refine tk 5 ?_
        (try simp only [pn])
        refine tk 6 ?_
        (try simp only [pn])
        refine tk 7 ?_
        (try simp only [pn])
        refine tk 8 ?_
        (try simp only [pn])
        refine tk 9 ?_
        (try simp only [pn])
        refine tk 10 ?_
        (try simp only [pn])
        refine tk 11 ?_
        (try simp only [pn])
        refine tk 12 ?_
        (try simp only [pn])
        refine tk 13 ?_
        (try simp only [pn])
        refine wpAnyH_done (by kernel_rfl) ?_ _
        refine NoPanic.normal ?_
        clear hH1
        go_wp2_with fail
        go_end0
        refine ⟨rfl, ?_⟩
        have e : a = T.at_ + pastL 1 (T.ops.drop T.at_) := by
          rw [← HP.out, EN.out, List.drop_length, pastL_nil]; exact (Nat.add_zero _).symm
        have hz := HH.out
        rw [e] at hz
        exact hz.kept ((taskP_stable _ _).star HQ.out) kn
    · have dd : decide (0 < D) = false := decide_eq_false hd
      have ED := Lib.hid (show D.toNat = 0 by omega)
      have hH1 : (fun w' => w'.cell? ⟨bt, 0, none⟩ = some (.slice A1 T.ops.length c1) ∧ w'.cell? ⟨bt, 1, none⟩ = some (.int .i64 a)) wr := ⟨t0, t1⟩
      dsimp only at hH1
      clear hh hp h3 BT hD0 hD1 ha hd
      go_wp2_with fail
      refine wp_region_noPanic ?_
      refine wp_region_held_drew (S := (fun w' => w'.cell? ⟨bt, 0, none⟩ = some (.slice A1 T.ops.length c1) ∧ w'.cell? ⟨bt, 1, none⟩ = some (.int .i64 a))) (by kernel_rfl) hH1 (fun hHeld => ?_)
      refine tk 0 ?_
      (try simp only [pn])
      refine tk 1 ?_
      (try simp only [pn])
      refine tk 2 ?_
      (try simp only [pn])
      refine wpAnyH_take (i := 3) (oi := _) (v := undef) (by simp only [List.getElem?_toArray, List.getElem?_cons_succ, List.getElem?_cons_zero]; rfl) (by kernel_rfl) (by kernel_rfl) (by kernel_rfl) (fun _ _ _ h => h) (Or.inr ⟨by rfl, rfl⟩) (by assumption) ?_
      (try simp only [pn])
      refine wpAnyH_take (i := 4) (oi := _) (v := undef) (by simp only [List.getElem?_toArray, List.getElem?_cons_succ, List.getElem?_cons_zero]; rfl) (by kernel_rfl) (by kernel_rfl) (by kernel_rfl) (fun _ _ _ h => h) (Or.inr ⟨by rfl, rfl⟩) (by assumption) ?_
      (try simp only [pn])
      refine wpAnyH_take (i := 5) (oi := _) (v := undef) (by simp only [List.getElem?_toArray, List.getElem?_cons_succ, List.getElem?_cons_zero]; rfl) (by kernel_rfl) (by kernel_rfl) (by kernel_rfl) (fun _ _ _ h => h) (Or.inr ⟨by rfl, rfl⟩) (by assumption) ?_
      (try simp only [pn])
      refine wpAnyH_take (i := 6) (oi := _) (v := undef) (by simp only [List.getElem?_toArray, List.getElem?_cons_succ, List.getElem?_cons_zero]; rfl) (by kernel_rfl) (by kernel_rfl) (by kernel_rfl) (fun _ _ _ h => h) (Or.inr ⟨by rfl, rfl⟩) (by assumption) ?_
      (try simp only [pn])
      refine wpAnyH_take (i := 7) (oi := _) (v := undef) (by simp only [List.getElem?_toArray, List.getElem?_cons_succ, List.getElem?_cons_zero]; rfl) (by kernel_rfl) (by kernel_rfl) (by kernel_rfl) (fun _ _ _ h => h) (Or.inr ⟨by rfl, rfl⟩) (by assumption) ?_
      (try simp only [pn])
      refine wpAnyH_take (i := 8) (oi := _) (v := undef) (by simp only [List.getElem?_toArray, List.getElem?_cons_succ, List.getElem?_cons_zero]; rfl) (by kernel_rfl) (by kernel_rfl) (by kernel_rfl) (fun _ _ _ h => h) (Or.inr ⟨by rfl, rfl⟩) (by assumption) ?_
      (try simp only [pn])
      refine wpAnyH_take (i := 9) (oi := _) (v := undef) (by simp only [List.getElem?_toArray, List.getElem?_cons_succ, List.getElem?_cons_zero]; rfl) (by kernel_rfl) (by kernel_rfl) (by kernel_rfl) (fun _ _ _ h => h) (Or.inr ⟨by rfl, rfl⟩) (by assumption) ?_
      (try simp only [pn])
      refine wpAnyH_take (i := 10) (oi := _) (v := undef) (by simp only [List.getElem?_toArray, List.getElem?_cons_succ, List.getElem?_cons_zero]; rfl) (by kernel_rfl) (by kernel_rfl) (by kernel_rfl) (fun _ _ _ h => h) (Or.inr ⟨by rfl, rfl⟩) (by assumption) ?_
      (try simp only [pn])
      refine wpAnyH_take (i := 11) (oi := _) (v := undef) (by simp only [List.getElem?_toArray, List.getElem?_cons_succ, List.getElem?_cons_zero]; rfl) (by kernel_rfl) (by kernel_rfl) (by kernel_rfl) (fun _ _ _ h => h) (Or.inr ⟨by rfl, rfl⟩) (by assumption) ?_
      (try simp only [pn])
      refine wpAnyH_take (i := 12) (oi := _) (v := undef) (by simp only [List.getElem?_toArray, List.getElem?_cons_succ, List.getElem?_cons_zero]; rfl) (by kernel_rfl) (by kernel_rfl) (by kernel_rfl) (fun _ _ _ h => h) (Or.inr ⟨by rfl, rfl⟩) (by assumption) ?_
      (try simp only [pn])
      refine tk 13 ?_
      (try simp only [pn])
      refine wpAnyH_done (by kernel_rfl) ?_ _
      refine NoPanic.normal ?_
      clear hH1
      go_wp2_with fail
      go_end0
      refine ⟨rfl, ?_⟩
      have e : a = T.at_ + pastL 1 (T.ops.drop T.at_) := by
        have := HP.out
        rw [ED.out, pastL_zero] at this
        exact this
      have hz := HH.out
      rw [e] at hz
      exact hz.kept ((taskP_stable _ _).star HQ.out) kn
end
end Go.Proofs.Ytmohpjkbhpgidaa.A
