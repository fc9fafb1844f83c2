/-
  Do both know the same? (same)
-/
import Derived.Test.YtnbllckmeehhjaaV9
namespace Go.Proofs.Ytnbllckmeehhjaa.A
open Go.RowKit Go.Proofs.Ytnbllckmeehhjaa.U
set_option linter.unusedVariables false
set_option linter.unusedSimpArgs false
set_option maxRecDepth 100000

section
variable {B : Nat} {w0 w : World} {Q : SP} {a b : Nat} {D : DS}
set_option maxHeartbeats 12800000 in
theorem x_same20 (h : Holds B w0 w (star (dP 60 a D) (star (dP 74 b D) Q))) (hQs : Stable Q) (hL : D.es.length ≤ 400000) (hR : Rise D.es) (s : Int) :
    Calls Try.prog 20 #[.pointer (some ⟨a, 0, none⟩), .pointer (some ⟨b, 0, none⟩), .int .i64 s] w (fun e w' => e = .returned (.bool true) ∧ Keep Nothing w w') := by
  have hu37 := Try.underlying37
  have hu74 := Try.underlying74
  have hu24 := Try.underlying24
  have hQ := Lib.hid hQs
  have H := Lib.hid h
  have HR := Lib.hid hR
  have HA := Lib.hid (x_at h (by omega) s)
  clear h hQs hR
  obtain ⟨o, ho⟩ : ∃ o, entOr (findV D.es s) = o := ⟨_, rfl⟩
  obtain ⟨is, his⟩ : ∃ is, (findV D.es s).isSome = is := ⟨_, rfl⟩
  unfold AtPost at HA
  rw [ho, his] at HA
  go_enter Try.func20, Try.ntmps20
  go_wp2_with fail
  refine HA.out.mono ?_
  rintro e w1 ⟨rfl, hk1⟩
  have K1 := Lib.hid (hk1.alloc (.cells #[.int .i64 o.a, .int .i64 o.b, .int .i64 o.c.k, .int .i64 o.c.s, .int .i64 o.c.q, .string o.c.nm, .int .i64 o.c.n] 37))
  have HA2 := x_at36 ((H.out.kept (by repeat (first | exact none_stable | exact hQ.out | exact dP_stable _ _ _ | exact blkP_stable _ _ _ | exact rowP_stable _ _ _ _ _ | apply Stable.star)) K1.out).second) (by omega) s
  unfold AtPost at HA2
  rw [ho, his] at HA2
  have HA3 := Lib.hid HA2
  clear hk1 HA2 ho his
  go_wp2_with fail
  refine HA3.out.mono ?_
  rintro e w2 ⟨rfl, hk2⟩
  have B7 := ((Blk.fresh w1 37 #[.int .i64 o.a, .int .i64 o.b, .int .i64 o.c.k, .int .i64 o.c.s, .int .i64 o.c.q, .string o.c.nm, .int .i64 o.c.n]).keep hk2 (fun h => h)).alloc (.cells #[.int .i64 o.a, .int .i64 o.b, .int .i64 o.c.k, .int .i64 o.c.s, .int .i64 o.c.q, .string o.c.nm, .int .i64 o.c.n] 37)
  have B9 := Blk.fresh w2 37 #[.int .i64 o.a, .int .i64 o.b, .int .i64 o.c.k, .int .i64 o.c.s, .int .i64 o.c.q, .string o.c.nm, .int .i64 o.c.n]
  have K2 := Lib.hid (K1.out.then (hk2.alloc (.cells #[.int .i64 o.a, .int .i64 o.b, .int .i64 o.c.k, .int .i64 o.c.s, .int .i64 o.c.q, .string o.c.nm, .int .i64 o.c.n] 37)))
  obtain ⟨A9, c9, d0, d1, d2, d3, _, hrow, _⟩ := d_cells (H.out.kept (by repeat (first | exact none_stable | exact hQ.out | exact dP_stable _ _ _ | exact blkP_stable _ _ _ | exact rowP_stable _ _ _ _ _ | apply Stable.star)) K2.out).second
  have HH := Lib.hid (show ∀ X, Keep Nothing (w2.alloc (.cells #[.int .i64 o.a, .int .i64 o.b, .int .i64 o.c.k, .int .i64 o.c.s, .int .i64 o.c.q, .string o.c.nm, .int .i64 o.c.n] 37)) X → Holds B w0 X (star (dP 60 a D) (star (dP 74 b D) Q)) from fun X hk => H.out.kept (by repeat (first | exact none_stable | exact hQ.out | exact dP_stable _ _ _ | exact blkP_stable _ _ _ | exact rowP_stable _ _ _ _ _ | apply Stable.star)) (K2.out.then hk))
  have SX := Lib.hid (show ∀ X, Keep Nothing (w2.alloc (.cells #[.int .i64 o.a, .int .i64 o.b, .int .i64 o.c.k, .int .i64 o.c.s, .int .i64 o.c.q, .string o.c.nm, .int .i64 o.c.n] 37)) X → (fun w' : World => w'.cell? ⟨b, 0, none⟩ = some (.int .i64 D.pr) ∧ w'.cell? ⟨b, 1, none⟩ = some (.int .i64 D.ba) ∧ w'.cell? ⟨b, 2, none⟩ = some (.string D.sn) ∧ w'.cell? ⟨b, 3, none⟩ = some (.slice A9 D.es.length c9) ∧ w'.cell? ⟨w1.heap.size, 0, none⟩ = some (.int .i64 o.a) ∧ w'.cell? ⟨w1.heap.size, 1, none⟩ = some (.int .i64 o.b) ∧ w'.cell? ⟨w1.heap.size, 2, none⟩ = some (.int .i64 o.c.k) ∧ w'.cell? ⟨w1.heap.size, 3, none⟩ = some (.int .i64 o.c.s) ∧ w'.cell? ⟨w1.heap.size, 4, none⟩ = some (.int .i64 o.c.q) ∧ w'.cell? ⟨w1.heap.size, 5, none⟩ = some (.string o.c.nm) ∧ w'.cell? ⟨w1.heap.size, 6, none⟩ = some (.int .i64 o.c.n) ∧ w'.cell? ⟨w2.heap.size, 0, none⟩ = some (.int .i64 o.a) ∧ w'.cell? ⟨w2.heap.size, 1, none⟩ = some (.int .i64 o.b) ∧ w'.cell? ⟨w2.heap.size, 2, none⟩ = some (.int .i64 o.c.k) ∧ w'.cell? ⟨w2.heap.size, 3, none⟩ = some (.int .i64 o.c.s) ∧ w'.cell? ⟨w2.heap.size, 4, none⟩ = some (.int .i64 o.c.q) ∧ w'.cell? ⟨w2.heap.size, 5, none⟩ = some (.string o.c.nm) ∧ w'.cell? ⟨w2.heap.size, 6, none⟩ = some (.int .i64 o.c.n)) X from fun X hk => ⟨hk.cell (d0) (fun h => h), hk.cell (d1) (fun h => h), hk.cell (d2) (fun h => h), hk.cell (d3) (fun h => h), hk.cell (B7.cell 0) (fun h => h), hk.cell (B7.cell 1) (fun h => h), hk.cell (B7.cell 2) (fun h => h), hk.cell (B7.cell 3) (fun h => h), hk.cell (B7.cell 4) (fun h => h), hk.cell (B7.cell 5) (fun h => h), hk.cell (B7.cell 6) (fun h => h), hk.cell (B9.cell 0) (fun h => h), hk.cell (B9.cell 1) (fun h => h), hk.cell (B9.cell 2) (fun h => h), hk.cell (B9.cell 3) (fun h => h), hk.cell (B9.cell 4) (fun h => h), hk.cell (B9.cell 5) (fun h => h), hk.cell (B9.cell 6) (fun h => h)⟩)
  have RW := Lib.hid (show ∀ X, Keep Nothing (w2.alloc (.cells #[.int .i64 o.a, .int .i64 o.b, .int .i64 o.c.k, .int .i64 o.c.s, .int .i64 o.c.q, .string o.c.nm, .int .i64 o.c.n] 37)) X → U.Src X A9 7 D.es.length (ents D.es) from fun X hk => src_keptE hrow.src hk)
  have KD := Lib.hid (fun n => (Keep.same Nothing (w2.alloc (.cells #[.int .i64 o.a, .int .i64 o.b, .int .i64 o.c.k, .int .i64 o.c.s, .int .i64 o.c.q, .string o.c.nm, .int .i64 o.c.n] 37))).drewN n)
  have KS := Lib.hid (Keep.same Nothing (w2.alloc (.cells #[.int .i64 o.a, .int .i64 o.b, .int .i64 o.c.k, .int .i64 o.c.s, .int .i64 o.c.q, .string o.c.nm, .int .i64 o.c.n] 37)))
  have hq := fun w => eqlE w o o
  rw [eqE_same] at hq
  unfold Ent.cs at hq
  have hfl := from_len D.es s
  clear hk2 B7 B9 d0 d1 d2 d3 hrow
  go_wp2_with fail
  go_region_held3 (fun w' : World => w'.cell? ⟨b, 0, none⟩ = some (.int .i64 D.pr) ∧ w'.cell? ⟨b, 1, none⟩ = some (.int .i64 D.ba) ∧ w'.cell? ⟨b, 2, none⟩ = some (.string D.sn) ∧ w'.cell? ⟨b, 3, none⟩ = some (.slice A9 D.es.length c9) ∧ w'.cell? ⟨w1.heap.size, 0, none⟩ = some (.int .i64 o.a) ∧ w'.cell? ⟨w1.heap.size, 1, none⟩ = some (.int .i64 o.b) ∧ w'.cell? ⟨w1.heap.size, 2, none⟩ = some (.int .i64 o.c.k) ∧ w'.cell? ⟨w1.heap.size, 3, none⟩ = some (.int .i64 o.c.s) ∧ w'.cell? ⟨w1.heap.size, 4, none⟩ = some (.int .i64 o.c.q) ∧ w'.cell? ⟨w1.heap.size, 5, none⟩ = some (.string o.c.nm) ∧ w'.cell? ⟨w1.heap.size, 6, none⟩ = some (.int .i64 o.c.n) ∧ w'.cell? ⟨w2.heap.size, 0, none⟩ = some (.int .i64 o.a) ∧ w'.cell? ⟨w2.heap.size, 1, none⟩ = some (.int .i64 o.b) ∧ w'.cell? ⟨w2.heap.size, 2, none⟩ = some (.int .i64 o.c.k) ∧ w'.cell? ⟨w2.heap.size, 3, none⟩ = some (.int .i64 o.c.s) ∧ w'.cell? ⟨w2.heap.size, 4, none⟩ = some (.int .i64 o.c.q) ∧ w'.cell? ⟨w2.heap.size, 5, none⟩ = some (.string o.c.nm) ∧ w'.cell? ⟨w2.heap.size, 6, none⟩ = some (.int .i64 o.c.n)) (first | exact SX.out _ KS.out | exact SX.out _ (KD.out _) | exact s5 | exact s6 | exact s7 | exact s8 | exact s9 | go_keep) ((first
    | (go_at_call 16; refine (x_promised (HH.out _ (KD.out _))).mono ?_; rintro e w' ⟨rfl, rfl⟩)
    | (go_at_call 15; refine (x_durable (HH.out _ (KD.out _)) (by omega)).mono ?_; rintro e w5 ⟨A5, c5, rfl, hr5, hk5, ho5⟩; have K5 := Lib.hid ((KD.out _).then hk5); have R5 := Lib.hid hr5; have s5 := SX.out _ K5.out; clear hr5 hk5 ho5)
    | (go_at_call 13; refine (same13 _ D _ _ _ _ R5.out.src (RW.out _ K5.out) (by omega)).mono ?_; rintro e w6 ⟨rfl, hk6⟩; have K6 := Lib.hid (K5.out.then hk6); have s6 := SX.out _ K6.out; clear hk6 s5)
    | (go_at_call 17; refine (x_from (HH.out _ K6.out) (by omega) HR.out s).mono ?_; rintro e w7 ⟨A7, c7, rfl, hr7, hk7, ho7⟩; have K7 := Lib.hid (K6.out.then hk7); have R7 := Lib.hid hr7; have s7 := SX.out _ K7.out; clear hr7 hk7 ho7 s6)
    | (go_at_call 38; refine (x_from38 (HH.out _ K7.out).second (by omega) s).mono ?_; rintro e w8 ⟨A8, c8, rfl, hr8, hk8, ho8⟩; have K8 := Lib.hid (K7.out.then hk8); have R8 := Lib.hid hr8; have R78 := Lib.hid (src_keptE R7.out.src hk8); have s8 := SX.out _ K8.out; clear hr8 hk8 ho8 s7)
    | (go_at_call 37; refine (entries37 _ (from_ D.es s) _ _ _ _ R78.out R8.out.src (by omega)).mono ?_; rintro e w9 ⟨rfl, hk9⟩; have K9 := Lib.hid (K8.out.then hk9); have s9 := SX.out _ K9.out; clear hk9 s8)))
  all_goals go_wp2_with fail
  all_goals go_ret
  all_goals exact ⟨by simp, K2.out.then K9.out⟩
end
end Go.Proofs.Ytnbllckmeehhjaa.A
