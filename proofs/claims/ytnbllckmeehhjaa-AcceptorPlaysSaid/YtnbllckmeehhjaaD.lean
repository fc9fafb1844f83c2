/-
  durable: a record put to a state.
-/
import Derived.Test.YtnbllckmeehhjaaC
import Derived.Deep.RegionHeld3
namespace Go.Proofs.Ytnbllckmeehhjaa.A
open Go.RowKit Go.Proofs.Ytnbllckmeehhjaa.U
set_option linter.unusedVariables false
set_option linter.unusedSimpArgs false
set_option maxRecDepth 100000

abbrev Rc.cl (r : Rc) : List Value := .int .i64 r.k :: .int .i64 r.n :: r.e.cl
abbrev Rc.cs (r : Rc) : Array Value := #[.int .i64 r.k, .int .i64 r.n, .int .i64 r.e.a, .int .i64 r.e.b, .int .i64 r.e.c.k, .int .i64 r.e.c.s, .int .i64 r.e.c.q, .string r.e.c.nm, .int .i64 r.e.c.n]
abbrev Rc.val (r : Rc) : Value := .agg r.cs
/-- A state in a block of type t. -/
def dP (t b : Nat) (D : DS) : SP := fun w F => ∃ v, Blk w b t #[.int .i64 D.pr, .int .i64 D.ba, .string D.sn, v] ∧ Row w 37 7 v D.es.length (ents D.es) ∧ ∀ k, F k ↔ k = b ∨ v.ownBlock = some k
theorem dP_stable (t b : Nat) (D : DS) : Stable (dP t b D) where
  keep := fun ⟨v, hb, hr, hF⟩ hk hn => ⟨v, hb.keep hk (hn b ((hF b).2 (.inl rfl))), hr.keep hk (fun g hg => hn g ((hF g).2 (.inr hg))), hF⟩
  lt := fun ⟨v, hb, hr, hF⟩ hk => by
    rcases (hF _).1 hk with h | h
    · rw [h]; exact hb.lt
    · exact hr.lt _ h
theorem dP_step {w w' : World} {t b : Nat} {D' : DS} {v v' : Value} {F : Nat → Prop} (hF : ∀ k, F k ↔ k = b ∨ v.ownBlock = some k) (hk : Keep (fun k => k = b ∨ v.ownBlock = some k) w w')
    (hb : Blk w' b t #[.int .i64 D'.pr, .int .i64 D'.ba, .string D'.sn, v']) (hr : Row w' 37 7 v' D'.es.length (ents D'.es)) (ho : ∀ k, v'.ownBlock = some k → v.ownBlock = some k ∨ w.heap.size ≤ k) : Step w F (dP t b D') w' :=
  ⟨fun k => k = b ∨ v'.ownBlock = some k, ⟨v', hb, hr, fun _ => Iff.rfl⟩, hk.wider (fun i hi => .inl ((hF i).2 hi)), fun k hk => by
    rcases hk with h | h
    · exact .inl ((hF k).2 (.inl h))
    · exact (ho k h).imp (fun h => (hF k).2 (.inr h)) id⟩
abbrev unit_ : Ending → Prop := fun e => e = .returned (.tuple #[])
theorem mx_cases (a b : Int) : (a < b ∧ mx a b = b) ∨ (a = b ∧ mx a b = a) ∨ (b < a ∧ mx a b = a) := by
  unfold mx
  rcases Int.lt_trichotomy a b with h | h | h
  · exact .inl ⟨h, if_pos h⟩
  · exact .inr (.inl ⟨h, if_neg (by omega)⟩)
  · exact .inr (.inr ⟨h, if_neg (by omega)⟩)
theorem put_fin {w w' : World} {b : Nat} {F : Nat → Prop} {D : DS} {r : Rc} {v v' : Value} {M : List Ent} {V : Int} (hF : ∀ k, F k ↔ k = b ∨ v.ownBlock = some k) (hE : foldR D r = ⟨mx D.pr r.e.b, D.ba, D.sn, M⟩) (hV : V = mx D.pr r.e.b)
    (hk : Keep (fun k => k = b ∨ v.ownBlock = some k) w w') (hb : Blk w' b 24 #[.int .i64 V, .int .i64 D.ba, .string D.sn, v']) (hr : Row w' 37 7 v' M.length (ents M)) (ho : ∀ k, v'.ownBlock = some k → v.ownBlock = some k ∨ w.heap.size ≤ k) : Step w F (dP 24 b (foldR D r)) w' := by
  subst hV
  rw [hE]
  exact dP_step hF hk hb hr ho
theorem cell_far (X : World) (b i : Nat) (u : Value) (g j : Nat) (h : g ≠ b) : (X.setCell ⟨b, i, none⟩ u).cell? ⟨g, j, none⟩ = X.cell? ⟨g, j, none⟩ :=
  World.cell?_of_block (Below.heap_setCell X ⟨b, i, none⟩ u g h)
set_option maxHeartbeats 6400000 in
theorem put44 (w : World) (b q : Nat) (F : Nat → Prop) (D : DS) (h : dP 24 b D w F) (hq : w.cell? ⟨q, 0, none⟩ = some (.pointer (some ⟨b, 0, none⟩))) (hqF : ¬ F q) (hR : Rise D.es) (hL : D.es.length ≤ 1000000) (r : Rc) :
    Calls Try.prog 44 #[r.val, .pointer (some ⟨q, 0, none⟩)] w (fun e w' => unit_ e ∧ Step w F (dP 24 b (foldR D r)) w') := by
  have hu24 := Try.underlying24
  have hu62 := Try.underlying62
  have hu37 := Try.underlying37
  obtain ⟨v, hb, hr, hF⟩ := h
  obtain ⟨A, c, rfl, _, _⟩ := hr.form
  have FF := Lib.hid hF
  have AP := Lib.hid (hr.apart hb (by decide))
  have K0 := Lib.hid ((Keep.same Nothing w).alloc (.cells r.cs 62))
  have B0 := Lib.hid (hb.alloc (.cells r.cs 62))
  have R0 := Lib.hid (hr.alloc (.cells r.cs 62))
  have HR := Lib.hid hR
  have P0 := Blk.fresh w 62 r.cs
  unfold Rc.cs at P0 K0 B0 R0
  unfold Rc.val Rc.cs
  have q0 := K0.out.cell hq (fun h => h)
  have p0 := P0.cell 0
  have p1 := P0.cell 1
  have p2 := P0.cell 2
  have p3 := P0.cell 3
  have p4 := P0.cell 4
  have p5 := P0.cell 5
  have p6 := P0.cell 6
  have p7 := P0.cell 7
  have p8 := P0.cell 8
  have b0 := B0.out.cell 0
  have b1 := B0.out.cell 1
  have b3 := B0.out.cell 3
  have f0 := B0.out.free 0
  have f3 := B0.out.free 3
  have HLT := Lib.hid hb.lt
  have OLT := Lib.hid hr.lt
  clear hb hr hF P0 hR
  rcases (show r.k = 1 ∨ (¬ r.k = 1 ∧ r.k = 2) ∨ (¬ r.k = 1 ∧ ¬ r.k = 2) by omega) with h1 | ⟨h1, h2⟩ | ⟨h1, h2⟩
  · have E := Lib.hid (show foldR D r = ⟨mx D.pr r.n, D.ba, D.sn, D.es⟩ by unfold foldR; rw [if_pos h1])
    have g1 : (r.k == 1) = true := by rw [beq_iff_eq]; exact h1
    clear h1
    have fin : ∀ (V : Int) (w' : World), V = mx D.pr r.n → w' = ((w.alloc (.cells r.cs 62)).drew).setCell ⟨b, 0, none⟩ (.int .i64 V) → Step w F (dP 24 b (foldR D r)) w' := fun V w' hV e => by
      subst e hV
      rw [E.out]
      exact dP_step FF.out (((K0.out.wider (fun i h => h.elim)).drew).set (p := ⟨b, 0, none⟩) (.inl (.inl rfl)) _) (B0.out.drew.put 0 _) ((R0.out.keep ((Keep.same Nothing _).drew) (fun _ _ h => h)).far (p := ⟨b, 0, none⟩) AP.out _) (fun k hk => .inl hk)
    have FIN := Lib.hid fin
    clear fin
    rcases Int.lt_trichotomy D.pr r.n with hm | hm | hm
    all_goals go_enter Try.func44, Try.ntmps44
    all_goals go_wp2_with fail
    all_goals refine region_tail 10 (by kernel_rfl) (by kernel_rfl) ?_
    all_goals simp only [List.take_succ_cons, List.take_zero, List.drop_succ_cons, List.drop_zero]
    all_goals repeat still_step
    all_goals refine wpStill_nil ?_
    all_goals go_wp2_with fail
    all_goals go_end0
    all_goals exact ⟨rfl, FIN.out _ _ (by unfold mx; split <;> omega) rfl⟩
  · have g1 : (r.k == 1) = false := by rw [beq_eq_false_iff_ne]; exact h1
    have g2 : (r.k == 2) = true := by rw [beq_iff_eq]; exact h2
    have E := Lib.hid (show foldR D r = ⟨mx D.pr r.e.b, D.ba, D.sn, if r.e.a ≤ D.ba then D.es else putE D.es r.e⟩ by unfold foldR; rw [if_neg h1, if_pos h2])
    clear h1 h2
    have nq : q ≠ b := fun e => hqF (e ▸ (FF.out b).2 (.inl rfl))
    have np : w.heap.size ≠ b := fun e => by have := HLT.out; omega
    have NQ := Lib.hid nq
    have NP := Lib.hid np
    have far := fun (X : World) (u : Value) (j : Nat) => cell_far X b 0 u q j nq
    have farp := fun (X : World) (u : Value) (j : Nat) => cell_far X b 0 u w.heap.size j np
    have bs3 := fun (u : Value) => (B0.out.put 0 u).cell 3
    have bs1 := fun (u : Value) => (B0.out.put 0 u).cell 1
    have BV := Lib.hid (fun (V : Int) (n : Nat) => ((B0.out.put 0 (.int .i64 V)).drewN n))
    have RV := Lib.hid (fun (V : Int) (n : Nat) => ((R0.out.far (p := ⟨b, 0, none⟩) AP.out (.int .i64 V)).drewN n))
    have KV := Lib.hid (fun (V : Int) (n : Nat) => (Keep.set (S := fun k => k = b ∨ (Value.slice A D.es.length c).ownBlock = some k) (Keep.wider K0.out (fun i h => h.elim)) (p := ⟨b, 0, none⟩) (Or.inl (Or.inl rfl)) (.int .i64 V)).drewN n)
    have HS := Lib.hid (fun (V : Int) (n : Nat) => search_calls _ A D.es.length c D.es r.e.a (RV.out V n).src hL HR.out)
    have SX := Lib.hid (show ∀ (V : Int) (n : Nat), (fun w' : World => w'.cell? ⟨q, 0, none⟩ = some (.pointer (some ⟨b, 0, none⟩)) ∧ w'.cell? ⟨b, 3, none⟩ = some (.slice A D.es.length c) ∧ w'.cell? ⟨w.heap.size, 2, none⟩ = some (.int .i64 r.e.a)) (((w.alloc (.cells r.cs 62)).setCell ⟨b, 0, none⟩ (.int .i64 V)).drewN n) from
      fun V n => ⟨(far _ _ _).trans q0, bs3 _, (farp _ _ _).trans p2⟩)
    clear nq np
    rcases Int.lt_trichotomy D.pr r.e.b with hm | hm | hm
    all_goals
      go_enter Try.func44, Try.ntmps44
      go_wp2_with fail
      refine region_tail 11 (by kernel_rfl) (by kernel_rfl) ?_
      simp only [List.take_succ_cons, List.take_zero, List.drop_succ_cons, List.drop_zero]
      repeat still_step
      refine wpStill_nil ?_
    all_goals
      go_wp2_with fail
      go_quiet (fail)
      by_cases hle : r.e.a ≤ D.ba
      · have E1 := Lib.hid (show foldR D r = ⟨mx D.pr r.e.b, D.ba, D.sn, D.es⟩ by rw [E.out, if_pos hle])
        go_wp2_with fail
        refine bodyPost_ret (results_none (by rfl) _ _ _) rfl ?_
        exact ⟨rfl, put_fin FF.out E1.out (by unfold mx; split <;> omega) ((KV.out _ 0).drew.drewN _) ((BV.out _ 0).drew.drewN _) (((RV.out _ 0).keep ((Keep.same Nothing _).drew) (fun _ _ h => h)).drewN _) (fun k hk => .inl hk)⟩
      · have hle' : decide (r.e.a ≤ D.ba) = false := decide_eq_false hle
        have E' := Lib.hid (show foldR D r = ⟨mx D.pr r.e.b, D.ba, D.sn, putE D.es r.e⟩ by rw [E.out, if_neg hle])
        go_wp2_with fail
        go_region_held3 (fun w' => w'.cell? ⟨q, 0, none⟩ = some (.pointer (some ⟨b, 0, none⟩)) ∧ w'.cell? ⟨b, 3, none⟩ = some (.slice A D.es.length c) ∧ w'.cell? ⟨w.heap.size, 2, none⟩ = some (.int .i64 r.e.a)) (first | exact SX.out _ _ | exact s7 | go_keep) ((first | (go_at_call 45; refine (HS.out _ _).mono ?_; rintro e w7 ⟨k, bb, rfl, hk, hlt, hcase, hk7⟩; have s7 : w7.cell? ⟨q, 0, none⟩ = some (.pointer (some ⟨b, 0, none⟩)) ∧ w7.cell? ⟨b, 3, none⟩ = some (.slice A D.es.length c) ∧ w7.cell? ⟨w.heap.size, 2, none⟩ = some (.int .i64 r.e.a) := ⟨hk7.cell (SX.out _ _).1 (fun h => h), hk7.cell (SX.out _ _).2.1 (fun h => h), hk7.cell (SX.out _ _).2.2 (fun h => h)⟩; have FD := Lib.hid (And.intro hk (And.intro hlt hcase)); have K7 := Lib.hid hk7; clear hk hlt hcase hk7)))
        have B7 := Lib.hid ((BV.out _ _).keep K7.out (fun h => h))
        have R7 := Lib.hid ((RV.out _ _).keep K7.out (fun _ _ h => h))
        have KK := Lib.hid ((KV.out _ _).then (K7.out.wider (fun i h => h.elim)))
        have w2 := K7.out.cell ((farp _ _ 2).trans p2) (fun h => h)
        have w3 := K7.out.cell ((farp _ _ 3).trans p3) (fun h => h)
        have w4 := K7.out.cell ((farp _ _ 4).trans p4) (fun h => h)
        have w5 := K7.out.cell ((farp _ _ 5).trans p5) (fun h => h)
        have w6 := K7.out.cell ((farp _ _ 6).trans p6) (fun h => h)
        have w77 := K7.out.cell ((farp _ _ 7).trans p7) (fun h => h)
        have w8 := K7.out.cell ((farp _ _ 8).trans p8) (fun h => h)
        have hkn := FD.out.1
        have HM := Lib.hid hm
        clear far farp bs3 bs1 p0 p1 p2 p3 p4 p5 p6 p7 p8 q0 b0 b1 b3 f0 f3 hle hm
        obtain ⟨v0, v3, _⟩ := s7
        rcases FD.out.2.2 with ⟨rfl, y, hy, hya⟩ | ⟨rfl, hcs⟩
        · have hkl : k < D.es.length := (List.getElem?_eq_some_iff.1 hy).1
          have SP := Lib.hid (set_put FD.out.2.1 ⟨y, hy, hya⟩)
          clear hy hya
          obtain ⟨ad, x7, rfl, _, _⟩ := ent_at R7.out.src hkl
          obtain ⟨hpo, hown, hrp, hkp⟩ := row_putE R7.out hkl r.e
          unfold PutOk at hpo
          obtain ⟨⟨u0, a0⟩, f0, ⟨u1, a1⟩, f1, ⟨u2, a2⟩, f2, ⟨u3, a3⟩, f3, ⟨u4, a4⟩, f4, ⟨u5, a5⟩, f5, ⟨u6, a6⟩, f6⟩ := hpo
          unfold U.putE at hrp hkp
          have RP := Lib.hid hrp
          have OW := Lib.hid hown
          have KP := Lib.hid hkp
          clear hrp hown hkp
          go_wp2_with fail
          refine region_tail 8 (by kernel_rfl) (by kernel_rfl) ?_
          simp only [List.take_succ_cons, List.take_zero, List.drop_succ_cons, List.drop_zero]
          repeat still_step
          refine wpStill_nil ?_
          go_wp2_with fail
          go_end0
          refine ⟨rfl, put_fin FF.out E'.out (by have := HM.out; unfold mx; split <;> omega) ((KK.out.then (KP.out.wider (fun i hi => .inl (.inr (by rw [hi]; exact OW.out))))).drew) ((B7.out.keep KP.out (fun e => AP.out (by rw [OW.out, e]))).drew) ?_ (fun k hk => .inl hk)⟩
          rw [← SP.out, List.length_set]
          exact RP.out.keep ((Keep.same Nothing _).drew) (fun _ _ h => h)
        · have PN := Lib.hid (put_new (x := r.e) D.es k FD.out.2.1 hcs)
          clear hcs
          have f3 := B7.out.free 3
          have nv : w7.heap.size ≠ b := fun e => by have := B7.out.lt; omega
          have HI := Lib.hid (ie_insert (w7.alloc (.cells r.e.cs 37)).drew (.slice A D.es.length c) D.es.length (ents D.es) ((R7.out.alloc _).keep ((Keep.same Nothing _).drew) (fun _ _ h => h)) k hkn w7.heap.size r.e.cs (Blk.fresh w7 37 r.e.cs).drew rfl
            (fun h => by have := R7.out.lt _ h; omega) (ents_one D.es) (by simp [Value.oneCell']) hL)
          have SF := Lib.hid (show ∀ (X : World) (u : Value), (fun w' => w'.cell? ⟨q, 0, none⟩ = some (.pointer (some ⟨b, 0, none⟩)) ∧ w'.cell? ⟨w.heap.size, 2, none⟩ = some (.int .i64 r.e.a) ∧ w'.cell? ⟨w.heap.size, 3, none⟩ = some (.int .i64 r.e.b) ∧ w'.cell? ⟨w.heap.size, 4, none⟩ = some (.int .i64 r.e.c.k) ∧ w'.cell? ⟨w.heap.size, 5, none⟩ = some (.int .i64 r.e.c.s) ∧ w'.cell? ⟨w.heap.size, 6, none⟩ = some (.int .i64 r.e.c.q) ∧ w'.cell? ⟨w.heap.size, 7, none⟩ = some (.string r.e.c.nm) ∧ w'.cell? ⟨w.heap.size, 8, none⟩ = some (.int .i64 r.e.c.n)) X → (fun w' => w'.cell? ⟨q, 0, none⟩ = some (.pointer (some ⟨b, 0, none⟩)) ∧ w'.cell? ⟨w.heap.size, 2, none⟩ = some (.int .i64 r.e.a) ∧ w'.cell? ⟨w.heap.size, 3, none⟩ = some (.int .i64 r.e.b) ∧ w'.cell? ⟨w.heap.size, 4, none⟩ = some (.int .i64 r.e.c.k) ∧ w'.cell? ⟨w.heap.size, 5, none⟩ = some (.int .i64 r.e.c.s) ∧ w'.cell? ⟨w.heap.size, 6, none⟩ = some (.int .i64 r.e.c.q) ∧ w'.cell? ⟨w.heap.size, 7, none⟩ = some (.string r.e.c.nm) ∧ w'.cell? ⟨w.heap.size, 8, none⟩ = some (.int .i64 r.e.c.n)) (X.setCell ⟨b, 3, none⟩ u) from fun X u h => ⟨(cell_far X b 3 u q 0 NQ.out).trans h.1, (cell_far X b 3 u _ _ NP.out).trans h.2.1, (cell_far X b 3 u _ _ NP.out).trans h.2.2.1, (cell_far X b 3 u _ _ NP.out).trans h.2.2.2.1, (cell_far X b 3 u _ _ NP.out).trans h.2.2.2.2.1, (cell_far X b 3 u _ _ NP.out).trans h.2.2.2.2.2.1, (cell_far X b 3 u _ _ NP.out).trans h.2.2.2.2.2.2.1, (cell_far X b 3 u _ _ NP.out).trans h.2.2.2.2.2.2.2⟩)
          have SA := Lib.hid (show ∀ (X : World) (o : Obj), (fun w' => w'.cell? ⟨q, 0, none⟩ = some (.pointer (some ⟨b, 0, none⟩)) ∧ w'.cell? ⟨w.heap.size, 2, none⟩ = some (.int .i64 r.e.a) ∧ w'.cell? ⟨w.heap.size, 3, none⟩ = some (.int .i64 r.e.b) ∧ w'.cell? ⟨w.heap.size, 4, none⟩ = some (.int .i64 r.e.c.k) ∧ w'.cell? ⟨w.heap.size, 5, none⟩ = some (.int .i64 r.e.c.s) ∧ w'.cell? ⟨w.heap.size, 6, none⟩ = some (.int .i64 r.e.c.q) ∧ w'.cell? ⟨w.heap.size, 7, none⟩ = some (.string r.e.c.nm) ∧ w'.cell? ⟨w.heap.size, 8, none⟩ = some (.int .i64 r.e.c.n)) X → (fun w' => w'.cell? ⟨q, 0, none⟩ = some (.pointer (some ⟨b, 0, none⟩)) ∧ w'.cell? ⟨w.heap.size, 2, none⟩ = some (.int .i64 r.e.a) ∧ w'.cell? ⟨w.heap.size, 3, none⟩ = some (.int .i64 r.e.b) ∧ w'.cell? ⟨w.heap.size, 4, none⟩ = some (.int .i64 r.e.c.k) ∧ w'.cell? ⟨w.heap.size, 5, none⟩ = some (.int .i64 r.e.c.s) ∧ w'.cell? ⟨w.heap.size, 6, none⟩ = some (.int .i64 r.e.c.q) ∧ w'.cell? ⟨w.heap.size, 7, none⟩ = some (.string r.e.c.nm) ∧ w'.cell? ⟨w.heap.size, 8, none⟩ = some (.int .i64 r.e.c.n)) (X.alloc o) from fun X o h => ⟨((Keep.same Nothing X).alloc o).cell h.1 (fun h => h), ((Keep.same Nothing X).alloc o).cell h.2.1 (fun h => h), ((Keep.same Nothing X).alloc o).cell h.2.2.1 (fun h => h), ((Keep.same Nothing X).alloc o).cell h.2.2.2.1 (fun h => h), ((Keep.same Nothing X).alloc o).cell h.2.2.2.2.1 (fun h => h), ((Keep.same Nothing X).alloc o).cell h.2.2.2.2.2.1 (fun h => h), ((Keep.same Nothing X).alloc o).cell h.2.2.2.2.2.2.1 (fun h => h), ((Keep.same Nothing X).alloc o).cell h.2.2.2.2.2.2.2 (fun h => h)⟩)
          have NOWN := Lib.hid (show ∀ g, (Value.slice A D.es.length c).ownBlock = some g → g ≠ q ∧ g ≠ w.heap.size from fun g hg => ⟨fun e => hqF (e ▸ (FF.out g).2 (.inr hg)), fun e => by have := OLT.out g hg; omega⟩)
          have SG := Lib.hid (show ∀ (w9 : World), (w7.alloc (.cells r.e.cs 37)).drew.grownBy w9 (Value.slice A D.es.length c).ownBlock → (fun w' => w'.cell? ⟨q, 0, none⟩ = some (.pointer (some ⟨b, 0, none⟩)) ∧ w'.cell? ⟨w.heap.size, 2, none⟩ = some (.int .i64 r.e.a) ∧ w'.cell? ⟨w.heap.size, 3, none⟩ = some (.int .i64 r.e.b) ∧ w'.cell? ⟨w.heap.size, 4, none⟩ = some (.int .i64 r.e.c.k) ∧ w'.cell? ⟨w.heap.size, 5, none⟩ = some (.int .i64 r.e.c.s) ∧ w'.cell? ⟨w.heap.size, 6, none⟩ = some (.int .i64 r.e.c.q) ∧ w'.cell? ⟨w.heap.size, 7, none⟩ = some (.string r.e.c.nm) ∧ w'.cell? ⟨w.heap.size, 8, none⟩ = some (.int .i64 r.e.c.n)) w9 from fun w9 hg => by
            have k9 : Keep (fun i => (Value.slice A D.es.length c).ownBlock = some i) w7 w9 := (((Keep.same _ w7).alloc _).drew).grown hg (fun i hi => .inl hi)
            exact ⟨k9.cell v0 (fun h => (NOWN.out _ h).1 rfl), k9.cell w2 (fun h => (NOWN.out _ h).2 rfl), k9.cell w3 (fun h => (NOWN.out _ h).2 rfl), k9.cell w4 (fun h => (NOWN.out _ h).2 rfl), k9.cell w5 (fun h => (NOWN.out _ h).2 rfl), k9.cell w6 (fun h => (NOWN.out _ h).2 rfl), k9.cell w77 (fun h => (NOWN.out _ h).2 rfl), k9.cell w8 (fun h => (NOWN.out _ h).2 rfl)⟩)
          have v3a := ((Keep.same Nothing w7).alloc (.cells r.e.cs 37)).cell v3 (fun h => h)
          unfold Ent.cs at v3a HI
          clear nv
          go_wp2_with fail
          have hH0 : (fun w' => w'.cell? ⟨q, 0, none⟩ = some (.pointer (some ⟨b, 0, none⟩)) ∧ w'.cell? ⟨w.heap.size, 2, none⟩ = some (.int .i64 r.e.a) ∧ w'.cell? ⟨w.heap.size, 3, none⟩ = some (.int .i64 r.e.b) ∧ w'.cell? ⟨w.heap.size, 4, none⟩ = some (.int .i64 r.e.c.k) ∧ w'.cell? ⟨w.heap.size, 5, none⟩ = some (.int .i64 r.e.c.s) ∧ w'.cell? ⟨w.heap.size, 6, none⟩ = some (.int .i64 r.e.c.q) ∧ w'.cell? ⟨w.heap.size, 7, none⟩ = some (.string r.e.c.nm) ∧ w'.cell? ⟨w.heap.size, 8, none⟩ = some (.int .i64 r.e.c.n)) w7 := ⟨v0, w2, w3, w4, w5, w6, w77, w8⟩
          dsimp only at hH0
          refine wp_region_noPanic ?_
          refine wp_region_held_drew (S := (fun w' => w'.cell? ⟨q, 0, none⟩ = some (.pointer (some ⟨b, 0, none⟩)) ∧ w'.cell? ⟨w.heap.size, 2, none⟩ = some (.int .i64 r.e.a) ∧ w'.cell? ⟨w.heap.size, 3, none⟩ = some (.int .i64 r.e.b) ∧ w'.cell? ⟨w.heap.size, 4, none⟩ = some (.int .i64 r.e.c.k) ∧ w'.cell? ⟨w.heap.size, 5, none⟩ = some (.int .i64 r.e.c.s) ∧ w'.cell? ⟨w.heap.size, 6, none⟩ = some (.int .i64 r.e.c.q) ∧ w'.cell? ⟨w.heap.size, 7, none⟩ = some (.string r.e.c.nm) ∧ w'.cell? ⟨w.heap.size, 8, none⟩ = some (.int .i64 r.e.c.n))) (by kernel_rfl) hH0 (fun hHeld => ?_)
          refine wpAnyH_take (i := 0) (oi := _) (v := ?_) (by simp only [List.getElem?_toArray, List.getElem?_cons_succ, List.getElem?_cons_zero]; rfl) (by kernel_rfl) (by kernel_rfl) (by kernel_rfl) (fun _ _ _ h => h) (Or.inl ⟨by rfl, ?_⟩) (by assumption) ?_
          rotate_left
          · (intro w hSw; (try dsimp only at hSw); go_simp; (try with_reducible rfl))
          (try simp only [Act.put, List.setIfInBounds_toArray, List.set_cons_zero, List.set_cons_succ])
          refine wpAnyH_take (i := 1) (oi := _) (v := ?_) (by simp only [List.getElem?_toArray, List.getElem?_cons_succ, List.getElem?_cons_zero]; rfl) (by kernel_rfl) (by kernel_rfl) (by kernel_rfl) (fun _ _ _ h => h) (Or.inl ⟨by rfl, ?_⟩) (by assumption) ?_
          rotate_left
          · (intro w hSw; (try dsimp only at hSw); go_simp; (try with_reducible rfl))
          (try simp only [Act.put, List.setIfInBounds_toArray, List.set_cons_zero, List.set_cons_succ])
          refine wpAnyH_take (i := 2) (oi := _) (v := ?_) (by simp only [List.getElem?_toArray, List.getElem?_cons_succ, List.getElem?_cons_zero]; rfl) (by kernel_rfl) (by kernel_rfl) (by kernel_rfl) (fun _ _ _ h => h) (Or.inl ⟨by rfl, ?_⟩) (by assumption) ?_
          rotate_left
          · (intro w hSw; (try dsimp only at hSw); go_simp; (try with_reducible rfl))
          (try simp only [Act.put, List.setIfInBounds_toArray, List.set_cons_zero, List.set_cons_succ])
          refine wpAnyH_take (i := 3) (oi := _) (v := ?_) (by simp only [List.getElem?_toArray, List.getElem?_cons_succ, List.getElem?_cons_zero]; rfl) (by kernel_rfl) (by kernel_rfl) (by kernel_rfl) (fun _ _ _ h => h) (Or.inl ⟨by rfl, ?_⟩) (by assumption) ?_
          rotate_left
          · (intro w hSw; (try dsimp only at hSw); go_simp; (try with_reducible rfl))
          (try simp only [Act.put, List.setIfInBounds_toArray, List.set_cons_zero, List.set_cons_succ])
          refine wpAnyH_take (i := 5) (oi := _) (v := ?_) (by simp only [List.getElem?_toArray, List.getElem?_cons_succ, List.getElem?_cons_zero]; rfl) (by kernel_rfl) (by kernel_rfl) (by kernel_rfl) (fun _ _ _ h => h) (Or.inl ⟨by rfl, ?_⟩) (by assumption) ?_
          rotate_left
          · (intro w hSw; (try dsimp only at hSw); go_simp; (try with_reducible rfl))
          (try simp only [Act.put, List.setIfInBounds_toArray, List.set_cons_zero, List.set_cons_succ])
          refine wpAnyH_take (i := 6) (oi := _) (v := ?_) (by simp only [List.getElem?_toArray, List.getElem?_cons_succ, List.getElem?_cons_zero]; rfl) (by kernel_rfl) (by kernel_rfl) (by kernel_rfl) (fun _ _ _ h => h) (Or.inl ⟨by rfl, ?_⟩) (by assumption) ?_
          rotate_left
          · (intro w hSw; (try dsimp only at hSw); go_simp; (try with_reducible rfl))
          (try simp only [Act.put, List.setIfInBounds_toArray, List.set_cons_zero, List.set_cons_succ])
          refine wpAnyH_take (i := 7) (oi := _) (v := ?_) (by simp only [List.getElem?_toArray, List.getElem?_cons_succ, List.getElem?_cons_zero]; rfl) (by kernel_rfl) (by kernel_rfl) (by kernel_rfl) (fun _ _ _ h => h) (Or.inl ⟨by rfl, ?_⟩) (by assumption) ?_
          rotate_left
          · (intro w hSw; (try dsimp only at hSw); go_simp; (try with_reducible rfl))
          (try simp only [Act.put, List.setIfInBounds_toArray, List.set_cons_zero, List.set_cons_succ])
          refine wpAnyH_ready (rs := [4, 8]) (by kernel_rfl) (by simp) ?_
          refine AllReadyH.cons (o := _) (by simp only [List.getElem?_toArray, List.getElem?_cons_succ, List.getElem?_cons_zero]; rfl) (fun K hK => ?_) (AllReadyH.cons (o := _) (by simp only [List.getElem?_toArray, List.getElem?_cons_succ, List.getElem?_cons_zero]; rfl) (fun K hK => ?_) AllReadyH.nil)
          · go_simp
            refine hK.out _ _ (by first | exact hHeld | exact hHeld) (fun hHeld => ?_)
            clear hK K
            (try simp only [Act.put, List.setIfInBounds_toArray, List.set_cons_zero, List.set_cons_succ])
            refine wpAnyH_ready (rs := [8]) (by kernel_rfl) (by simp) ?_
            refine AllReadyH.cons (o := _) (by simp only [List.getElem?_toArray, List.getElem?_cons_succ, List.getElem?_cons_zero]; rfl) (fun K hK => ?_) AllReadyH.nil
            go_simp
            refine hK.out _ _ (SA.out _ _ (by first | exact hHeld)) (fun hHeld => ?_)
            clear hK K
            (try simp only [Act.put, List.setIfInBounds_toArray, List.set_cons_zero, List.set_cons_succ])
            refine wpAnyH_ready (rs := [9]) (by kernel_rfl) (by simp) ?_
            refine AllReadyH.cons (o := _) (by simp only [List.getElem?_toArray, List.getElem?_cons_succ, List.getElem?_cons_zero]; rfl) (fun K hK => ?_) AllReadyH.nil
            go_simp
            refine HI.out.mono ?_
            rintro e w9 ⟨v9, rfl, hr9, hg9, hl9⟩
            obtain ⟨A9, c9, rfl, _, _⟩ := hr9.form
            have R9 := Lib.hid hr9
            have G9 := Lib.hid hg9
            have L9 := Lib.hid hl9
            have B9 := Lib.hid ((B7.out.alloc (.cells r.e.cs 37)).drew.grown hg9 AP.out)
            have b93 := B9.out.cell 3
            have f93 := B9.out.free 3
            have hH9 := SG.out _ hg9
            clear hr9 hg9 hl9
            (try go_wp2_with fail)
            refine hK.out _ _ (hH9) (fun hHeld => ?_)
            clear hK K
            (try simp only [Act.put, List.setIfInBounds_toArray, List.set_cons_zero, List.set_cons_succ])
            refine wpAnyH_take (i := 10) (oi := _) (v := ?_) (by simp only [List.getElem?_toArray, List.getElem?_cons_succ, List.getElem?_cons_zero]; rfl) (by kernel_rfl) (by kernel_rfl) (by kernel_rfl) (fun _ _ _ h => h) (Or.inl ⟨by rfl, ?_⟩) (by assumption) ?_
            rotate_left
            · (intro w hSw; (try dsimp only at hSw); go_simp; (try with_reducible rfl))
            (try simp only [Act.put, List.setIfInBounds_toArray, List.set_cons_zero, List.set_cons_succ])
            refine wpAnyH_take (i := 11) (oi := _) (v := ?_) (by simp only [List.getElem?_toArray, List.getElem?_cons_succ, List.getElem?_cons_zero]; rfl) (by kernel_rfl) (by kernel_rfl) (by kernel_rfl) (fun _ _ _ h => h) (Or.inl ⟨by rfl, ?_⟩) (by assumption) ?_
            rotate_left
            · (intro w hSw; (try dsimp only at hSw); go_simp; (try with_reducible rfl))
            (try simp only [Act.put, List.setIfInBounds_toArray, List.set_cons_zero, List.set_cons_succ])
            refine wpAnyH_ready (rs := [12]) (by kernel_rfl) (by simp) ?_
            refine AllReadyH.cons (o := _) (by simp only [List.getElem?_toArray, List.getElem?_cons_succ, List.getElem?_cons_zero]; rfl) (fun K hK => ?_) AllReadyH.nil
            go_simp
            refine hK.out _ _ (SF.out _ _ hH9) (fun hHeld => ?_)
            clear hK K
            (try simp only [Act.put, List.setIfInBounds_toArray, List.set_cons_zero, List.set_cons_succ])
            refine wpAnyH_done (by kernel_rfl) ?_ _
            refine NoPanic.normal ?_
            go_wp2_with fail
            go_end0
            refine ⟨rfl, put_fin FF.out E'.out (by have := HM.out; unfold mx; split <;> omega) (Keep.set (S := fun k => k = b ∨ (Value.slice A D.es.length c).ownBlock = some k) ((KK.out.then (((Keep.same _ w7).alloc _).drew)).grown G9.out (fun i hi => .inl (.inr hi))) (p := ⟨b, 3, none⟩) (Or.inl (Or.inl rfl)) _) (B9.out.put 3 _) ?_ ?_⟩
            · have e : ents (putE D.es r.e) = (ents D.es).take (k * 7) ++ r.e.cs.toList ++ (ents D.es).drop (k * 7) := by rw [← PN.out, ents_app, ents_app, ents_one1, ents_take, ents_drop]
              have el : (putE D.es r.e).length = D.es.length + 1 := by rw [← PN.out]; simp; have := hkn; omega
              rw [e, el]
              refine R9.out.far (p := ⟨b, 3, none⟩) (fun h => ?_) _
              rcases L9.out with h' | ⟨g, h', hg'⟩
              · exact AP.out (by rw [← h', h])
              · rw [h'] at h
                injection h with h
                have h2 : g = b := h
                have := B7.out.lt
                simp at hg'
                omega
            · intro k' hk'
              rcases L9.out with h' | ⟨g, h', hg'⟩
              · exact .inl (by rw [← h', hk'])
              · rw [h'] at hk'
                injection hk' with hk'
                have := KK.out.size
                simp at hg'
                right; omega
          · go_simp
            refine hK.out _ _ (SA.out _ _ (by first | exact hHeld)) (fun hHeld => ?_)
            clear hK K
            (try simp only [Act.put, List.setIfInBounds_toArray, List.set_cons_zero, List.set_cons_succ])
            refine wpAnyH_ready (rs := [4]) (by kernel_rfl) (by simp) ?_
            refine AllReadyH.cons (o := _) (by simp only [List.getElem?_toArray, List.getElem?_cons_succ, List.getElem?_cons_zero]; rfl) (fun K hK => ?_) AllReadyH.nil
            go_simp
            refine hK.out _ _ (by first | exact hHeld | exact hHeld) (fun hHeld => ?_)
            clear hK K
            (try simp only [Act.put, List.setIfInBounds_toArray, List.set_cons_zero, List.set_cons_succ])
            refine wpAnyH_ready (rs := [9]) (by kernel_rfl) (by simp) ?_
            refine AllReadyH.cons (o := _) (by simp only [List.getElem?_toArray, List.getElem?_cons_succ, List.getElem?_cons_zero]; rfl) (fun K hK => ?_) AllReadyH.nil
            go_simp
            refine HI.out.mono ?_
            rintro e w9 ⟨v9, rfl, hr9, hg9, hl9⟩
            obtain ⟨A9, c9, rfl, _, _⟩ := hr9.form
            have R9 := Lib.hid hr9
            have G9 := Lib.hid hg9
            have L9 := Lib.hid hl9
            have B9 := Lib.hid ((B7.out.alloc (.cells r.e.cs 37)).drew.grown hg9 AP.out)
            have b93 := B9.out.cell 3
            have f93 := B9.out.free 3
            have hH9 := SG.out _ hg9
            clear hr9 hg9 hl9
            (try go_wp2_with fail)
            refine hK.out _ _ (hH9) (fun hHeld => ?_)
            clear hK K
            (try simp only [Act.put, List.setIfInBounds_toArray, List.set_cons_zero, List.set_cons_succ])
            refine wpAnyH_take (i := 10) (oi := _) (v := ?_) (by simp only [List.getElem?_toArray, List.getElem?_cons_succ, List.getElem?_cons_zero]; rfl) (by kernel_rfl) (by kernel_rfl) (by kernel_rfl) (fun _ _ _ h => h) (Or.inl ⟨by rfl, ?_⟩) (by assumption) ?_
            rotate_left
            · (intro w hSw; (try dsimp only at hSw); go_simp; (try with_reducible rfl))
            (try simp only [Act.put, List.setIfInBounds_toArray, List.set_cons_zero, List.set_cons_succ])
            refine wpAnyH_take (i := 11) (oi := _) (v := ?_) (by simp only [List.getElem?_toArray, List.getElem?_cons_succ, List.getElem?_cons_zero]; rfl) (by kernel_rfl) (by kernel_rfl) (by kernel_rfl) (fun _ _ _ h => h) (Or.inl ⟨by rfl, ?_⟩) (by assumption) ?_
            rotate_left
            · (intro w hSw; (try dsimp only at hSw); go_simp; (try with_reducible rfl))
            (try simp only [Act.put, List.setIfInBounds_toArray, List.set_cons_zero, List.set_cons_succ])
            refine wpAnyH_ready (rs := [12]) (by kernel_rfl) (by simp) ?_
            refine AllReadyH.cons (o := _) (by simp only [List.getElem?_toArray, List.getElem?_cons_succ, List.getElem?_cons_zero]; rfl) (fun K hK => ?_) AllReadyH.nil
            go_simp
            refine hK.out _ _ (SF.out _ _ hH9) (fun hHeld => ?_)
            clear hK K
            (try simp only [Act.put, List.setIfInBounds_toArray, List.set_cons_zero, List.set_cons_succ])
            refine wpAnyH_done (by kernel_rfl) ?_ _
            refine NoPanic.normal ?_
            go_wp2_with fail
            go_end0
            refine ⟨rfl, put_fin FF.out E'.out (by have := HM.out; unfold mx; split <;> omega) (Keep.set (S := fun k => k = b ∨ (Value.slice A D.es.length c).ownBlock = some k) ((KK.out.then (((Keep.same _ w7).alloc _).drew)).grown G9.out (fun i hi => .inl (.inr hi))) (p := ⟨b, 3, none⟩) (Or.inl (Or.inl rfl)) _) (B9.out.put 3 _) ?_ ?_⟩
            · have e : ents (putE D.es r.e) = (ents D.es).take (k * 7) ++ r.e.cs.toList ++ (ents D.es).drop (k * 7) := by rw [← PN.out, ents_app, ents_app, ents_one1, ents_take, ents_drop]
              have el : (putE D.es r.e).length = D.es.length + 1 := by rw [← PN.out]; simp; have := hkn; omega
              rw [e, el]
              refine R9.out.far (p := ⟨b, 3, none⟩) (fun h => ?_) _
              rcases L9.out with h' | ⟨g, h', hg'⟩
              · exact AP.out (by rw [← h', h])
              · rw [h'] at h
                injection h with h
                have h2 : g = b := h
                have := B7.out.lt
                simp at hg'
                omega
            · intro k' hk'
              rcases L9.out with h' | ⟨g, h', hg'⟩
              · exact .inl (by rw [← h', hk'])
              · rw [h'] at hk'
                injection hk' with hk'
                have := KK.out.size
                simp at hg'
                right; omega
  · have g1 : (r.k == 1) = false := by rw [beq_eq_false_iff_ne]; exact h1
    have g2 : (r.k == 2) = false := by rw [beq_eq_false_iff_ne]; exact h2
    have E := Lib.hid (show foldR D r = D by unfold foldR; rw [if_neg h1, if_neg h2])
    clear h1 h2
    go_enter Try.func44, Try.ntmps44
    go_wp2_with fail
    go_end0
    exact ⟨rfl, by rw [E.out]; exact dP_step FF.out (K0.out.wider (fun i h => h.elim)) B0.out R0.out (fun k hk => .inl hk)⟩
end Go.Proofs.Ytnbllckmeehhjaa.A
