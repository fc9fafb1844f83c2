/-
  The reference's Copy and put (chapter 13).
-/
import Derived.Test.YtnbllckmeehhjaaK
namespace Go.Proofs.Ytnbllckmeehhjaa.A
open Go.RowKit Go.Proofs.Ytnbllckmeehhjaa.U
set_option linter.unusedVariables false
set_option linter.unusedSimpArgs false
set_option maxRecDepth 100000

set_option maxHeartbeats 3200000 in
theorem copy30 (w : World) (D : DS) (A : Option Addr) (c : Nat) (h : U.Src w A 7 D.es.length (ents D.es)) (hL : D.es.length ≤ 1000000) :
    Calls Try.prog 30 #[dval D A c] w (FreshD D w) := by
  have hu := Try.underlying24
  have X0 := (Blk.fresh w 24 #[.int .i64 D.pr, .int .i64 D.ba, .string D.sn, .slice A D.es.length c])
  have X1 := Lib.hid (X0.alloc (.cells zd4 24))
  have Y0 := Blk.fresh (w.alloc (.cells #[.int .i64 D.pr, .int .i64 D.ba, .string D.sn, .slice A D.es.length c] 24)) 24 zd4
  rw [show (w.alloc (.cells #[.int .i64 D.pr, .int .i64 D.ba, .string D.sn, .slice A D.es.length c] 24)).heap.size = w.heap.size + 1 by simp] at Y0
  have Y1 := Lib.hid Y0
  have K1 := Lib.hid (((Keep.same Nothing w).alloc (.cells #[.int .i64 D.pr, .int .i64 D.ba, .string D.sn, .slice A D.es.length c] 24)).alloc (.cells zd4 24))
  have SS := Lib.hid (src_keptE h K1.out)
  have O1 := Lib.hid (ents_one D.es)
  have x3 := X1.out.cell 3
  clear X0 Y0 h
  go_enter Try.func30, Try.ntmps30
  go_wp2_with (at_builtin; refine wpList_app _ rfl EE (.const (.slice none 0 0)) (.tmp 4) rfl (Row.nil _ 37 7) SS.out c rfl rfl O1.out (by unfold maxLen; omega) (by omega) ?_)
  intro v3 w3 hr3 hg3 hl3

  obtain ⟨A3, c3, rfl, _, _⟩ := hr3.form
  have hk3 : Keep Nothing ((w.alloc (.cells #[.int .i64 D.pr, .int .i64 D.ba, .string D.sn, .slice A D.es.length c] 24)).alloc (.cells zd4 24)) w3 := (Keep.same Nothing _).grown hg3 (fun i hi => by simp [Value.ownBlock] at hi)
  have K3 := Lib.hid (K1.out.then hk3)
  have R3 := Lib.hid hr3
  have O3 := Lib.hid (show ∀ k, (Value.slice A3 D.es.length c3).ownBlock = some k → w.heap.size ≤ k ∧ k ≠ w.heap.size ∧ k ≠ w.heap.size + 1 from fun k hk => by
    rcases hl3 with h | h
    · rw [h] at hk; simp [Value.ownBlock] at hk
    · rw [h] at hk; simp at hk; omega)
  have X3 := X1.out.keep hk3 (fun h => h)
  have Y3 := Y1.out.keep hk3 (fun h => h)
  have f3 := X3.free 3
  have x3' := X3.cell 3
  have X4 := X3.put 3 (.slice A3 D.es.length c3)
  have x40 := X4.cell 0
  have x41 := X4.cell 1
  have x42 := X4.cell 2
  have x43 := X4.cell 3
  have Y4 := Lib.hid (Y3.far (p := ⟨w.heap.size, 3, none⟩) (by show w.heap.size + 1 ≠ w.heap.size; omega) (.slice A3 D.es.length c3))
  obtain ⟨r0, g0, r1, g1, r2, g2, r3, g3, q0, q1, q2, q3, p0, p1, p2⟩ := store4 Y4.out (.int .i64 D.pr) (.int .i64 D.ba) (.string D.sn) (.slice A3 D.es.length c3)
  have KZ := Lib.hid (blks4 Y4.out (.int .i64 D.pr) (.int .i64 D.ba) (.string D.sn) (.slice A3 D.es.length c3)).2
  clear hr3 hg3 hl3 hk3 X3 Y3 X4 x3
  go_wp2_with fail
  refine bodyPost_ret (v := dval D A3 c3) (by simp [results, Try.results30, go_sem, hu, p0, p1, p2, q0, q1, q2, q3]) rfl ?_
  refine ⟨A3, c3, rfl, ?_, ?_, fun k hk => (O3.out k hk).1⟩
  · exact (R3.out.far (p := ⟨w.heap.size, 3, none⟩) (fun e => (O3.out _ e).2.1 rfl) _).keep KZ.out (fun g hg e => (O3.out g hg).2.2 e)
  · exact (K3.out.set (p := ⟨w.heap.size, 3, none⟩) (.inr (Nat.le_refl _)) _).trans KZ.out (fun i hi => .inr (by rw [hi]; omega))
theorem addr_add_add (p : Addr) (a b : Nat) : (p.add a).add b = p.add (a + b) := by
  unfold Addr.add
  by_cases h1 : a = 0
  · subst h1; simp
  · by_cases h2 : b = 0
    · subst h2; simp
    · simp [h1, h2, Nat.add_assoc]
theorem src_dropE {w : World} {A : Option Addr} {L : List Ent} {c k : Nat} (h : U.Src w A 7 L.length (ents L)) (hk : k ≤ L.length) (hc : L.length ≤ c) :
    U.Src w (if c = k then A else A.map (·.add (k * 7))) 7 (L.length - k) (ents (L.drop k)) := by
  refine ⟨by rw [ents_len, List.length_drop], fun h0 => ?_⟩
  obtain ⟨ad, rfl, hcl⟩ := h.2 (by omega)
  rw [if_neg (by omega)]
  refine ⟨ad.add (k * 7), rfl, fun j u hu => ?_⟩
  rw [← ents_drop, List.getElem?_drop] at hu
  have := hcl _ u hu
  rwa [show ad.add (k * 7 + j) = (ad.add (k * 7)).add j from (addr_add_add ad (k * 7) j).symm] at this
theorem take_one {L : List Ent} {k : Nat} {y : Ent} (h : L[k]? = some y) : ents (L.take (k + 1)) = ents (L.take k) ++ y.cl := by
  rw [List.take_add_one, h, ents_app]
  simp only [Option.toList_some, ents_one1]
end Go.Proofs.Ytnbllckmeehhjaa.A
