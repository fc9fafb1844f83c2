/-
  The acceptor: Prepare, At.
-/
import Derived.Test.YtnbllckmeehhjaaH2
namespace Go.Proofs.Ytnbllckmeehhjaa.A
open Go.RowKit Go.Proofs.Ytnbllckmeehhjaa.U
set_option linter.unusedVariables false
set_option linter.unusedSimpArgs false
set_option maxRecDepth 100000

abbrev outV (A : Option Addr) (n c : Nat) : Value := .agg #[.slice A n c, .bool false, .slice none 0 0, .slice none 0 0]
abbrev zo4 : Array Value := #[.slice none 0 0, .bool false, .slice none 0 0, .slice none 0 0]
theorem size_alloc (X : World) (o : Obj) : (X.alloc o).heap.size = X.heap.size + 1 := by simp
section
variable {B : Nat} {w0 w : World} {Q : SP} {t b : Nat} {D : DS}
theorem rc_new (h : Holds B w0 w Q) (hQ : Stable Q) : Holds B w0 (w.alloc (.cells #[.slice none 0 0] 65)) (star (rcP w.heap.size []) Q) :=
  h.more hQ (F := fun k => k = w.heap.size) ⟨.slice none 0 0, Blk.fresh w 65 _, Row.nil _ 62 9, fun k => by simp [Value.ownBlock]⟩ ((Keep.same _ _).alloc _) (fun k hk => by omega)
theorem rc_open {rb : Nat} {l : List Rc} (h : Holds B w0 w (star (rcP rb l) Q)) : ∃ A c, w.cell? ⟨rb, 0, none⟩ = some (.slice A l.length c) ∧ Holds B w0 w (star (rowP 62 9 (.slice A l.length c) l.length (recs l)) Q) := by
  obtain ⟨F, ⟨F1, F2, ⟨v, hb, hr, hF1⟩, hq, h3, h4⟩, hbl, hB, hF⟩ := h
  obtain ⟨A, c, rfl, _, _⟩ := hr.form
  exact ⟨A, c, hb.cell 0, fun k => (Value.slice A l.length c).ownBlock = some k ∨ F2 k, ⟨fun k => (Value.slice A l.length c).ownBlock = some k, F2, ⟨hr, fun _ => Iff.rfl⟩, hq, fun k hk => h3 k ((hF1 k).2 (.inr hk)), fun _ => Iff.rfl⟩, hbl, hB,
    fun k hk => hF k ((h4 k).2 (hk.imp (fun h => (hF1 k).2 (.inr h)) id))⟩
/-- What Prepare and Accept give. -/
def GavePost (B : Nat) (w0 : World) (Q : SP) (t b : Nat) (q : DS × Bool × List Rc) (e : Ending) (w' : World) : Prop :=
  ∃ (A : Option Addr) (c : Nat), e = .returned (.tuple #[outV A q.2.2.length c, .bool q.2.1]) ∧ Holds B w0 w' (star (rowP 62 9 (.slice A q.2.2.length c) q.2.2.length (recs q.2.2)) (star (dP t b q.1) Q))
set_option maxHeartbeats 6400000 in
theorem x_prepare (h : Holds B w0 w (star (dP 60 b D) Q)) (hQ : Stable Q) (x : Int) :
    Calls Try.prog 11 #[.pointer (some ⟨b, 0, none⟩), .int .i64 x] w (GavePost B w0 Q 60 b (prep D x)) := by
  have hu := Try.underlying33
  have SQ := Lib.hid hQ
  have SD := Lib.hid (dP_stable 60 b)
  have SB := Lib.hid blkP_stable
  have SR := Lib.hid rowP_stable
  have H1 := Lib.hid (Holds.newBlk h ((SD.out D).star SQ.out) 33 zo4)
  have HF := Lib.hid (x_refuses H1.out.second x)
  have B1 := blk_at H1.out
  clear h hQ
  cases hl : low D x with
  | true =>
    rw [hl] at HF
    have E := Lib.hid (show prep D x = (D, false, []) by unfold prep; rw [hl]; rfl)
    have p0 := B1.cell 0
    have p1 := B1.cell 1
    have p2 := B1.cell 2
    have p3 := B1.cell 3
    clear hl B1
    go_enter Try.func11, Try.ntmps11
    go_wp2_with fail
    refine HF.out.mono ?_
    rintro e w3 ⟨rfl, rfl⟩
    go_wp2_with fail
    refine bodyPost_ret (v := .tuple #[outV none 0 0, .bool false]) (by simp [results, Try.results11, go_sem, hu, p0, p1, p2, p3]) rfl ?_
    rw [E.out]
    exact ⟨none, 0, rfl, Holds.newRow H1.out.drop ((SD.out D).star SQ.out) (Row.nil _ 62 9) (Keep.same _ _) (fun k hk => by simp [Value.ownBlock] at hk)⟩
  | false =>
    rw [hl] at HF
    have E := Lib.hid (show prep D x = (⟨x, D.ba, D.sn, D.es⟩, true, recP D x) by unfold prep; rw [hl]; rfl)
    have EP := Lib.hid (show prD D x = ⟨x, D.ba, D.sn, D.es⟩ by
      unfold prD
      unfold low at hl
      simp only [Bool.or_eq_false_iff, decide_eq_false_iff_not] at hl
      split
      · rfl
      · rw [show D.pr = x by omega])
    have H2' := Holds.second (rc_new H1.out.second ((SD.out D).star ((SB.out _ _ _).star SQ.out)))
    rw [size_alloc] at H2'
    have H2 := Lib.hid H2'
    clear H2'
    have HP := Lib.hid (x_promise H2.out ((SB.out _ _ _).star SQ.out) (by simp) x)
    rw [EP.out, List.nil_append] at HP
    clear hl B1
    go_enter Try.func11, Try.ntmps11
    go_wp2_with fail
    refine HF.out.mono ?_
    rintro e w3 ⟨rfl, rfl⟩
    go_wp2_with fail
    refine HP.out.mono ?_
    rintro e w4 ⟨rfl, h4⟩
    have h5 := Holds.second (Holds.third h4)
    obtain ⟨A, c, ca, h6⟩ := rc_open h4.second
    have B5 := blk_at h5
    obtain ⟨r0, g0, r1, g1, r2, g2, r3, g3, q0, q1, q2, q3, p0, p1, p2⟩ := store4 B5 (.slice A (recP D x).length c) (.bool false) (.slice none 0 0) (.slice none 0 0)
    have H7 := Lib.hid (held4 (Holds.second (Holds.third (Holds.second h6))) ((SR.out 62 9 (.slice A (recP D x).length c) (recP D x).length (recs (recP D x))).star ((SD.out ⟨x, D.ba, D.sn, D.es⟩).star SQ.out)) (.slice A (recP D x).length c) (.bool false) (.slice none 0 0) (.slice none 0 0)).drop
    clear h4 h5 h6 B5
    go_wp2_with fail
    refine bodyPost_ret (v := .tuple #[outV A (recP D x).length c, .bool true]) (by simp [results, Try.results11, go_sem, hu, p0, p1, p2, q0, q1, q2, q3]) rfl ?_
    rw [E.out]
    exact ⟨A, c, rfl, H7.out⟩
end
end Go.Proofs.Ytnbllckmeehhjaa.A
