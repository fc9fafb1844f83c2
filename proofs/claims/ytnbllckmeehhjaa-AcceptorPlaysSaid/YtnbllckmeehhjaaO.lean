/-
  awake of the acceptor's laws.
-/
import Derived.Test.YtnbllckmeehhjaaN
namespace Go.Proofs.Ytnbllckmeehhjaa.A
open Go.RowKit Go.Proofs.Ytnbllckmeehhjaa.U
set_option linter.unusedVariables false
set_option linter.unusedSimpArgs false
set_option maxRecDepth 100000

theorem Src_none (w : World) : U.Src w none 7 0 (ents []) := ⟨by simp [ents], fun h => absurd h (by omega)⟩
abbrev zD : DS := ⟨0, 0, ⟨#[]⟩, []⟩
abbrev eA (s b : Int) : Ent := ⟨s, b, zeroC⟩
theorem new_zero : newD zD = zD := rfl
/-- A new acceptor beside other things. -/
theorem x_new {B : Nat} {w0 w : World} {Q : SP} (h : Holds B w0 w Q) (hQ : Stable Q) : Calls Try.prog 10 #[dval zD none 0] w (fun e w' => ∃ a, e = .returned (.pointer (some ⟨a, 0, none⟩)) ∧ Holds B w0 w' (star (dP 60 a zD) Q)) := by
  refine (new10 w zD none 0 (Src_none w) (by simp)).mono fun e w' ⟨a, he, hh⟩ => ⟨a, he, ?_⟩
  rw [new_zero] at hh
  obtain ⟨F, ⟨F1, F2, h1, h2, h3, h4⟩, hb, hB, hF⟩ := hh
  exact h.more hQ (F := F1) h1 (Keep.of_below hb Nothing) (fun k hk => hF k ((h4 k).2 (.inl hk)))
set_option maxHeartbeats 6400000 in
theorem awake9 (w : World) : Calls Try.prog 9 #[] w (fun e w' => e = .returned (.bool true) ∧ Keep Nothing w w') := by
  have hb : ∀ w', Below w.heap.size w w' → Keep Nothing w w' := fun w' h => Keep.of_below h _
  have hu24 := Try.underlying24
  have hu33 := Try.underlying33
  have hu37 := Try.underlying37
  have H0 := Lib.hid (Holds.start w)
  have HN := Lib.hid (x_new H0.out none_stable)
  go_enter Try.func9, Try.ntmps9
  go_wp2_with fail
  refine HN.out.mono ?_
  rintro e w1 ⟨a, rfl, h⟩
  have H1 := Lib.hid h
  clear h
  have hx := x_prepare H1.out (by repeat (first | exact none_stable | exact dP_stable _ _ _ | exact blkP_stable _ _ _ | exact rowP_stable _ _ _ _ _ | apply Stable.star)) 9
  rw [show prep zD 9 = (⟨9, 0, ⟨#[]⟩, []⟩, true, [⟨1, 9, zeroE⟩]) from by rfl] at hx
  have HX1 := Lib.hid hx
  clear hx
  go_wp2_with fail
  refine HX1.out.mono ?_
  rintro e w1 ⟨A1, c1, rfl, h⟩
  dsimp only [List.length_cons, List.length_nil] at h
  have H2 := Lib.hid (Holds.second (Holds.newBlk h.drop (by repeat (first | exact none_stable | exact dP_stable _ _ _ | exact blkP_stable _ _ _ | exact rowP_stable _ _ _ _ _ | apply Stable.star)) 33 #[.slice A1 1 c1, .bool false, .slice none 0 0, .slice none 0 0]))
  clear h
  have hx := x_prepare H2.out (by repeat (first | exact none_stable | exact dP_stable _ _ _ | exact blkP_stable _ _ _ | exact rowP_stable _ _ _ _ _ | apply Stable.star)) 8
  rw [show prep ⟨9, 0, ⟨#[]⟩, []⟩ 8 = (⟨9, 0, ⟨#[]⟩, []⟩, false, []) from by rfl] at hx
  have HX2 := Lib.hid hx
  clear hx
  go_wp2_with fail
  refine HX2.out.mono ?_
  rintro e w2 ⟨A2, c2, rfl, h⟩
  dsimp only [List.length_cons, List.length_nil] at h
  have H3 := Lib.hid (Holds.second (Holds.newBlk h.drop (by repeat (first | exact none_stable | exact dP_stable _ _ _ | exact blkP_stable _ _ _ | exact rowP_stable _ _ _ _ _ | apply Stable.star)) 33 #[.slice A2 0 c2, .bool false, .slice none 0 0, .slice none 0 0]))
  clear h
  have hx := x_accept H3.out (by repeat (first | exact none_stable | exact dP_stable _ _ _ | exact blkP_stable _ _ _ | exact rowP_stable _ _ _ _ _ | apply Stable.star)) (by simp) (List.Pairwise.nil) 9 (eA 1 0)
  rw [show accp ⟨9, 0, ⟨#[]⟩, []⟩ 9 (eA 1 0) = (⟨9, 0, ⟨#[]⟩, [eA 1 9]⟩, true, [⟨2, 0, eA 1 9⟩]) from by rfl] at hx
  have HX3 := Lib.hid hx
  clear hx
  go_wp2_with fail
  refine HX3.out.mono ?_
  rintro e w3 ⟨A3, c3, rfl, h⟩
  dsimp only [List.length_cons, List.length_nil] at h
  have H4 := Lib.hid (Holds.second (Holds.newBlk h.drop (by repeat (first | exact none_stable | exact dP_stable _ _ _ | exact blkP_stable _ _ _ | exact rowP_stable _ _ _ _ _ | apply Stable.star)) 33 #[.slice A3 1 c3, .bool false, .slice none 0 0, .slice none 0 0]))
  clear h
  have hx := x_accept H4.out (by repeat (first | exact none_stable | exact dP_stable _ _ _ | exact blkP_stable _ _ _ | exact rowP_stable _ _ _ _ _ | apply Stable.star)) (by simp) (by simp [Rise]) 17 (eA 1 0)
  rw [show accp ⟨9, 0, ⟨#[]⟩, [eA 1 9]⟩ 17 (eA 1 0) = (⟨17, 0, ⟨#[]⟩, [eA 1 17]⟩, true, [⟨1, 17, zeroE⟩, ⟨2, 0, eA 1 17⟩]) from by rfl] at hx
  have HX4 := Lib.hid hx
  clear hx
  go_wp2_with fail
  refine HX4.out.mono ?_
  rintro e w4 ⟨A4, c4, rfl, h⟩
  dsimp only [List.length_cons, List.length_nil] at h
  have H5 := Lib.hid (Holds.second (Holds.newBlk h.drop (by repeat (first | exact none_stable | exact dP_stable _ _ _ | exact blkP_stable _ _ _ | exact rowP_stable _ _ _ _ _ | apply Stable.star)) 33 #[.slice A4 2 c4, .bool false, .slice none 0 0, .slice none 0 0]))
  clear h
  have hx := x_at H5.out (by simp) 1
  unfold AtPost at hx
  rw [show findV [eA 1 17] 1 = some (eA 1 17) from by rfl, show entOr (some (eA 1 17)) = eA 1 17 from rfl] at hx
  have HX5 := Lib.hid hx
  clear hx
  go_wp2_with fail
  refine HX5.out.mono ?_
  rintro e w6 ⟨rfl, hk⟩
  have H6 := Lib.hid ((H5.out.kept (by repeat (first | exact none_stable | exact dP_stable _ _ _ | exact blkP_stable _ _ _ | exact rowP_stable _ _ _ _ _ | apply Stable.star)) hk).alloc (by repeat (first | exact none_stable | exact dP_stable _ _ _ | exact blkP_stable _ _ _ | exact rowP_stable _ _ _ _ _ | apply Stable.star)) (.cells (eA 1 17).cs 37))
  have HP := Lib.hid (x_promised H6.out)
  have b4 := blk_at H6.out.second
  have b3 := blk_at H6.out.second.drop.second
  have b2 := blk_at H6.out.second.drop.second.drop.second
  have b1 := blk_at H6.out.second.drop.second.drop.second.drop.second
  have p4 := b4.cell 0
  have p3 := b3.cell 0
  have p1 := b1.cell 0
  clear hk b1 b2 b3 b4
  go_wp2_with fail
  refine HP.out.mono ?_
  rintro e w7 ⟨rfl, rfl⟩
  have z1 := (Blk.fresh w6 37 (eA 1 17).cs).cell 1
  go_wp2_with fail
  go_ret
  exact ⟨rfl, hb _ H6.out.below⟩
end Go.Proofs.Ytnbllckmeehhjaa.A
