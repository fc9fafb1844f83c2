/-
  A state such as layers make: sane; what a new acceptor knows of it.
-/
import Derived.Test.YtnbllckmeehhjaaS7
namespace Go.Proofs.Ytnbllckmeehhjaa.A
open Go.RowKit Go.Proofs.Ytnbllckmeehhjaa.U
set_option linter.unusedVariables false
set_option linter.unusedSimpArgs false
set_option maxRecDepth 100000

def okFrom : Int → Int → List Ent → Bool
  | _, _, [] => true
  | last, pr, e :: l => decide (last < e.a) && decide (e.b ≤ pr) && okFrom e.a pr l
def saneB (D : DS) : Bool := okFrom D.ba D.pr D.es && decide (0 ≤ D.ba) && decide (0 ≤ D.pr) && decide (D.es.length ≤ 1000)
theorem okFrom_rise {pr : Int} : ∀ {l : List Ent} {last : Int}, okFrom last pr l = true → Rise l ∧ ∀ x ∈ l, last < x.a ∧ x.b ≤ pr
  | [], last, _ => ⟨List.Pairwise.nil, fun x hx => by cases hx⟩
  | e :: l, last, h => by
    unfold okFrom at h
    simp only [Bool.and_eq_true, decide_eq_true_eq] at h
    obtain ⟨⟨h1, h2⟩, h3⟩ := h
    obtain ⟨h4, h5⟩ := okFrom_rise h3
    refine ⟨List.pairwise_cons.2 ⟨fun x hx => (h5 x hx).1, h4⟩, fun x hx => ?_⟩
    rcases List.mem_cons.1 hx with rfl | hx
    · exact ⟨h1, h2⟩
    · have := h5 x hx; exact ⟨by omega, this.2⟩
theorem okFrom_at {pr last : Int} {l : List Ent} {k : Nat} {e : Ent} (h : l[k]? = some e) : okFrom last pr (l.drop k) = (decide (last < e.a) && decide (e.b ≤ pr) && okFrom e.a pr (l.drop (k + 1))) := by
  obtain ⟨hk, he⟩ := List.getElem?_eq_some_iff.1 h
  rw [List.drop_eq_getElem_cons hk, he]
  rfl
theorem putE_end {x : Ent} : ∀ {L : List Ent}, (∀ y ∈ L, y.a < x.a) → putE L x = L ++ [x]
  | [], _ => rfl
  | y :: l, h => by
    unfold putE
    rw [if_pos (h y (List.mem_cons_self ..)), putE_end fun z hz => h z (List.mem_cons_of_mem _ hz)]
    rfl
theorem newS_sane {d : DS} (h : saneB d = true) : ∀ k, k ≤ d.es.length → (newS d k).es = d.es.take k
  | 0, _ => by simp [newS, foldL]
  | k + 1, hk => by
    unfold saneB at h
    simp only [Bool.and_eq_true, decide_eq_true_eq] at h
    obtain ⟨hr, hb⟩ := okFrom_rise h.1.1.1
    have hx : d.es[k]? = some (d.es[k]'(by omega)) := List.getElem?_eq_getElem (by omega)
    have hm := hb _ (List.mem_of_getElem? hx)
    have ih := newS_sane (by unfold saneB; simp only [Bool.and_eq_true, decide_eq_true_eq]; exact h) k (by omega)
    rw [newS_in hx hm.1, List.take_add_one, hx]
    have hba := (foldL_ba (((d.es.take k).filter fun e => decide (d.ba < e.a)).map recOf) ⟨d.pr, d.ba, d.sn, []⟩).1
    have hba' : (newS d k).ba = d.ba := hba
    generalize hE : d.es[k]'(by omega) = e at *
    show (foldR (newS d k) ⟨2, 0, e⟩).es = _
    unfold foldR
    rw [if_neg (show ¬ (2 : Int) = 1 by decide), if_pos rfl]
    show (if e.a ≤ (newS d k).ba then (newS d k).es else putE (newS d k).es e) = _
    rw [hba', if_neg (by omega), ih]
    refine putE_end fun y hy => ?_
    obtain ⟨j, hj, e1⟩ := List.mem_iff_getElem.1 hy
    rw [List.length_take] at hj
    rw [List.getElem_take] at e1
    have := List.pairwise_iff_getElem.1 hr j k (by omega) (by omega) (by omega)
    rw [e1, hE] at this
    exact this
theorem newD_sane {d : DS} (h : saneB d = true) : newD d = d := by
  unfold newD
  rw [newS_sane h _ (Nat.le_refl _), List.take_length]
set_option maxHeartbeats 6400000 in
theorem sane8 (w : World) (D : DS) (A : Option Addr) (c : Nat) (h : U.Src w A 7 D.es.length (ents D.es)) (hL : D.es.length ≤ 4611686018427387904) :
    Calls Try.prog 8 #[dval D A c] w (fun e w' => e = .returned (.bool (saneB D)) ∧ Keep Nothing w w') := by
  have hu := Try.underlying24
  have hu37 := Try.underlying37
  have X0 := (Blk.fresh w 24 #[.int .i64 D.pr, .int .i64 D.ba, .string D.sn, .slice A D.es.length c])
  have K0 := (Keep.same Nothing w).alloc (.cells #[.int .i64 D.pr, .int .i64 D.ba, .string D.sn, .slice A D.es.length c] 24)
  have K := Lib.hid K0
  have S1 := Lib.hid (src_keptE h K0)
  have x0 := X0.cell 0
  have x1 := X0.cell 1
  have x3 := X0.cell 3
  clear X0 K0 h
  go_enter Try.func8, Try.ntmps8
  go_wp2_with fail
  go_loopw [3, 4] (fun vl v wr => Drew (w.alloc (.cells #[.int .i64 D.pr, .int .i64 D.ba, .string D.sn, .slice A D.es.length c] 24)) wr ∧ ∃ (k : Nat) (last : Int), k ≤ D.es.length ∧ v = .int .i64 k ∧ vl = .int .i64 last ∧ Hid (okFrom D.ba D.pr D.es = okFrom last D.pr (D.es.drop k))) (fun _ v _ => D.es.length - (intOf v).toNat)
  case atStart => exact ⟨Drew.same _, 0, D.ba, by omega, by simp, rfl, Lib.hid rfl⟩
  case round =>
    obtain ⟨⟨nd, rfl⟩, k, last, hk, rfl, rfl, hok⟩ := hrel
    by_cases hlt : k < D.es.length
    · obtain ⟨ad, y, rfl, hy, c0, c1, c2, c3, c4, c5, c6⟩ := ent_at S1.out hlt
      have hO := Lib.hid (hok.out.trans (okFrom_at hy))
      clear hok hy
      rcases (show decide (y.a ≤ last) = true ∨ (decide (y.a ≤ last) = false ∧ decide (D.pr < y.b) = true) ∨ (decide (y.a ≤ last) = false ∧ decide (D.pr < y.b) = false) by
        by_cases h1 : y.a ≤ last <;> by_cases h2 : D.pr < y.b <;> simp [h1, h2]) with g1 | ⟨g1, g2⟩ | ⟨g1, g2⟩
      all_goals go_wp2_with fail
      all_goals go_quiet (fail)
      all_goals go_wp2_with fail
      · go_ret
        refine ⟨?_, (K.out.drewN _).drewN _⟩
        have hx : saneB D = false := by
          have := of_decide_eq_true g1
          unfold saneB; rw [hO.out]; simp [show ¬ last < y.a by omega]
        rw [hx]
        rfl
      · go_ret
        refine ⟨?_, (K.out.drewN _).drewN _⟩
        have hx : saneB D = false := by
          have := of_decide_eq_true g2
          unfold saneB; rw [hO.out]; simp [show ¬ y.b ≤ D.pr by omega]
        rw [hx]
        rfl
      · go_roundw
        case rel => exact ⟨(Drew.same _).more _, k + 1, y.a, by omega, by go_num, rfl, Lib.hid (by
          have h1 := of_decide_eq_false g1
          have h2 := of_decide_eq_false g2
          rw [hO.out]; simp [show last < y.a by omega, show y.b ≤ D.pr by omega])⟩
        case measure => simp [intOf]; omega
    · obtain rfl : k = D.es.length := by omega
      have hO := Lib.hid (show okFrom D.ba D.pr D.es = true by rw [hok.out, List.drop_length]; rfl)
      clear hok
      rcases (show decide (0 ≤ D.ba) = false ∨ (decide (0 ≤ D.ba) = true ∧ decide (0 ≤ D.pr) = false) ∨ (decide (0 ≤ D.ba) = true ∧ decide (0 ≤ D.pr) = true ∧ decide ((D.es.length : Int) ≤ 1000) = false) ∨ (decide (0 ≤ D.ba) = true ∧ decide (0 ≤ D.pr) = true ∧ decide ((D.es.length : Int) ≤ 1000) = true) by
        by_cases h1 : 0 ≤ D.ba <;> by_cases h2 : 0 ≤ D.pr <;> by_cases h3 : (D.es.length : Int) ≤ 1000 <;> simp [h1, h2, h3]) with g1 | ⟨g1, g2⟩ | ⟨g1, g2, g3⟩ | ⟨g1, g2, g3⟩
      all_goals go_wp2_with fail
      all_goals go_ret
      all_goals refine ⟨?_, K.out.drewN _⟩
      all_goals (first | (have g3' : decide (D.es.length ≤ 1000) = decide ((D.es.length : Int) ≤ 1000) := by (apply decide_eq_decide.2; omega)))
      all_goals simp [saneB, hO.out, g1, *]
end Go.Proofs.Ytnbllckmeehhjaa.A
