/-
  Script at the example; awake.
-/
import Derived.Test.YtdipjjngemgldaaB
import Derived.Scope
namespace Go.Proofs.Ytdipjjngemgldaa.A
open Go.RowKit Go.Proofs.Ytdipjjngemgldaa.U
set_option linter.unusedVariables false
set_option linter.unusedSimpArgs false
set_option maxRecDepth 100000

def steps18 (g : Nat) : Array Value := #[.int .i64 0, .int .i64 0, .int .i64 0, .int .i64 0, .int .i64 0, .int .i64 0, .string ByteArray.empty, .int .i64 0, .slice none 0 0,
  .int .i64 5, .int .i64 8, .int .i64 0, .int .i64 0, .int .i64 0, .int .i64 0, .string ByteArray.empty, .int .i64 0, .slice (some ⟨g, 0, none⟩) 1 1]
set_option maxHeartbeats 3200000 in
theorem script_calls (w : World) (g gs : Nat) (hg : Blk w g 3 #[.int .i64 10]) (hs : Blk w gs 52 (steps18 g)) :
    Calls Try.prog 18 #[.slice (some ⟨gs, 0, none⟩) 2 2, .int .i64 1] w (fun e w' => e = .returned (.tuple #[.int .i64 1, .int .i64 19]) ∧ Keep Nothing w w') := by
  have hu := Try.underlying52
  have G := Lib.hid hg
  have S := Lib.hid hs
  have hb := fun w => bounded_calls w 8 10
  rw [show bnd 8 10 = false by decide] at hb
  have HB := Lib.hid hb
  clear hb hg hs
  go_enter Try.func18, Try.ntmps18
  go_wp2_with fail
  refine wp_scope_straight ?_
  refine wp_seq (wp_label ?_)
  simp only [Exit.then]
  go_wp2_with fail
  go_loopw [12] (fun v wr => Keep Nothing w wr ∧ (v = .int .i64 0 ∨ v = .int .i64 1)) (fun v _ => 2 - (intOf v).toNat)
  case atStart => exact ⟨Keep.same _ _, .inl (by simp)⟩
  case round =>
    obtain ⟨hk, hv⟩ := hrel
    have K := Lib.hid hk
    have S2 := Lib.hid (S.out.keep hk (fun h => h))
    have G2 := Lib.hid (G.out.keep hk (fun h => h))
    clear hk
    rcases hv with rfl | rfl
    · have c0 := S2.out.cell 0
      have c1 := S2.out.cell 1
      have c2 := S2.out.cell 2
      have c3 := S2.out.cell 3
      have c4 := S2.out.cell 4
      have c5 := S2.out.cell 5
      have c6 := S2.out.cell 6
      have c7 := S2.out.cell 7
      have c8 := S2.out.cell 8
      simp only [steps18] at c0 c1 c2 c3 c4 c5 c6 c7 c8
      go_wp2_with fail
      go_roundw
      case rel => exact ⟨K.out.alloc _, .inr rfl⟩
      case measure => simp [intOf]
    · have c0 := S2.out.cell 9
      have c1 := S2.out.cell 10
      have c2 := S2.out.cell 11
      have c3 := S2.out.cell 12
      have c4 := S2.out.cell 13
      have c5 := S2.out.cell 14
      have c6 := S2.out.cell 15
      have c7 := S2.out.cell 16
      have c8 := S2.out.cell 17
      have cg := G2.out.cell 0
      simp only [steps18] at c0 c1 c2 c3 c4 c5 c6 c7 c8
      have KA := Lib.hid (K.out.alloc (.cells #[.int .i64 5, .int .i64 8, .int .i64 0, .int .i64 0, .int .i64 0, .int .i64 0, .string ByteArray.empty, .int .i64 0, .slice (some ⟨g, 0, none⟩) 1 1] 52))
      have GA := Lib.hid ((G2.out.alloc (.cells #[.int .i64 5, .int .i64 8, .int .i64 0, .int .i64 0, .int .i64 0, .int .i64 0, .string ByteArray.empty, .int .i64 0, .slice (some ⟨g, 0, none⟩) 1 1] 52)).cell 0)
      go_wp2_with fail
      have DA := (Blk.fresh wr 52 #[.int .i64 5, .int .i64 8, .int .i64 0, .int .i64 0, .int .i64 0, .int .i64 0, .string ByteArray.empty, .int .i64 0, .slice (some ⟨g, 0, none⟩) 1 1]).cell 1
      generalize wr.alloc (.cells #[.int .i64 5, .int .i64 8, .int .i64 0, .int .i64 0, .int .i64 0, .int .i64 0, .string ByteArray.empty, .int .i64 0, .slice (some ⟨g, 0, none⟩) 1 1] 52) = wa at *
      have hcg := GA.out
      clear c0 c1 c2 c3 c4 c5 c6 c7 c8 cg
      go_loopw [29] (fun v wr2 => wr2 = wa ∧ v = .int .i64 0) (fun v _ => 0)
      case atStart => exact ⟨by trivial, by simp⟩
      case round =>
        obtain ⟨rfl, rfl⟩ := hrel
        go_wp2_with fail
        refine (HB.out _).mono ?_
        rintro e w' ⟨rfl, rfl⟩
        go_wp2_with fail
        simp only [Exit.noGoto]
        go_ret2
        exact ⟨rfl, KA.out⟩
/-- P * (Q * R) gives Q * (P * R). -/
theorem Holds.second {B : Nat} {w0 w : World} {P Q R : SP} (h : Holds B w0 w (star P (star Q R))) : Holds B w0 w (star Q (star P R)) :=
  h.imp fun F ⟨F1, F2, h1, ⟨F3, F4, h5, h6, h7, h8⟩, h3, h4⟩ =>
    ⟨F3, fun k => F1 k ∨ F4 k, h5, ⟨F1, F4, h1, h6, fun k a b => h3 k a ((h8 k).2 (.inr b)), fun _ => Iff.rfl⟩,
      fun k a b => by rcases b with b | b; exact h3 k b ((h8 k).2 (.inl a)); exact h7 k a b,
      fun k => by rw [h4, h8]; exact ⟨fun h => by rcases h with h | h | h; exact .inr (.inl h); exact .inl h; exact .inr (.inr h), fun h => by rcases h with h | h | h; exact .inr (.inl h); exact .inl h; exact .inr (.inr h)⟩⟩
/-! ### Among other things -/
section
variable {B : Nat} {w0 w : World} {Q : SP} {b : Nat} {L M : List Int} {r d : Int}
theorem x_go (h : Holds B w0 w (star (ckP 55 b L r) Q)) (hQ : Stable Q) {A : Option Addr} {m c : Nat} (hM : Src w A 1 m (ints M)) (hap : ∀ F1 F2 : Nat → Prop, (∀ k, F1 k → ¬ F2 k) → (∀ k, F1 k → B ≤ k) → Q w F2 → ∀ ad, A = some ad → ¬ F1 ad.block) (hL : InR L) (hr0 : 0 ≤ r) (hr1 : r ≤ 1099511627776) (hm : m ≤ 9223372036854775807) (hd : d ≤ 9223372036854775807) :
    Calls Try.prog 13 #[.pointer (some ⟨b, 0, none⟩), .int .i64 d, .slice A m c] w (fun e w' => e = .returned (.int .i64 (goE L M r d)) ∧ Holds B w0 w' (star (ckP 55 b (goL L M r d) (goR L M r d)) Q)) := by
  have H0 := h
  obtain ⟨F, ⟨F1, F2, h1, h2, h3, h4⟩, hb, hB, hF⟩ := h
  refine (go_calls w b F1 L M r d A m c h1 hM (hap F1 F2 h3 (fun k hk => hF k ((h4 k).2 (.inl hk))) h2) hL hr0 hr1 hm hd).mono fun e w' ⟨he, hs⟩ => ⟨he, ?_⟩
  exact H0.step (fun k hk => hF k ((h4 k).2 hk)) (hs.star hQ h2 h3)
/-- .. its argument a block that lies beside. -/
theorem x_go_blk {g : Nat} {m : Nat} (h : Holds B w0 w (star (ckP 55 b L r) (star (blkP g 3 (ints M).toArray) Q))) (hQ : Stable Q) (hm : m = M.length) (hL : InR L) (hr0 : 0 ≤ r) (hr1 : r ≤ 1099511627776) (hm2 : m ≤ 9223372036854775807) (hd : d ≤ 9223372036854775807) :
    Calls Try.prog 13 #[.pointer (some ⟨b, 0, none⟩), .int .i64 d, .slice (some ⟨g, 0, none⟩) m m] w (fun e w' => e = .returned (.int .i64 (goE L M r d)) ∧ Holds B w0 w' (star (ckP 55 b (goL L M r d) (goR L M r d)) (star (blkP g 3 (ints M).toArray) Q))) := by
  obtain ⟨F, _, F2, _, ⟨F3, F4, ⟨hblk, hF3⟩, _, _, h6⟩, _, _⟩ := h.get
  refine x_go h ((blkP_stable _ _ _).star hQ) ⟨by rw [hm]; simp [ints], fun _ => ⟨_, rfl, fun j u hu => ?_⟩⟩ (fun F1 F2 hd _ hq ad e => ?_) hL hr0 hr1 hm2 hd
  · rw [addAt, hblk.cell, Nat.zero_add]
    simpa using hu
  · injection e with e
    subst e
    obtain ⟨F3, F4, ⟨_, hF3⟩, _, _, h6⟩ := hq
    exact fun h => hd _ h ((h6 g).2 (.inl ((hF3 g).2 rfl)))
theorem x_at (h : Holds B w0 w (star (ckP 55 b L r) Q)) (k : Int) : Calls Try.prog 15 #[.pointer (some ⟨b, 0, none⟩), .int .i64 k] w (fun e w' => e = .returned (.int .i64 (atV L k)) ∧ w' = w) := by
  obtain ⟨F, hF⟩ := h.left
  exact at_calls w b F L r hF k
theorem x_real (h : Holds B w0 w (star (ckP 55 b L r) Q)) : Calls Try.prog 17 #[.pointer (some ⟨b, 0, none⟩)] w (fun e w' => e = .returned (.int .i64 r) ∧ w' = w) := by
  obtain ⟨F, hF⟩ := h.left
  exact real_calls w b F L r hF
end
theorem Holds.newCk {B : Nat} {w0 w w' : World} {Q : SP} {t b n : Nat} (h : Holds B w0 w Q) (hQ : Stable Q) (hc : ckNew w t b n w') : Holds B w0 w' (star (ckP t b (zeros n) 0) Q) :=
  h.more hQ hc.2 hc.1 (fun k hk => hk.1)
theorem ex_go : goE [0, 0] [9, 7] 0 8 = 0 ∧ goL [0, 0] [9, 7] 0 8 = [9, 7] ∧ goR [0, 0] [9, 7] 0 8 = 8 :=
  goE_ok (by rintro (h | h | ⟨x, hx, h⟩); omega; exact h rfl; simp at hx; omega) (by
    rintro (h | ⟨j, hj, h⟩)
    · omega
    · simp at hj
      rcases (show j = 0 ∨ j = 1 by omega) with rfl | rfl <;> simp at h)
theorem ex_arg : goE [9, 7] [1] 8 1 = 1 ∧ goL [9, 7] [1] 8 1 = [9, 7] ∧ goR [9, 7] [1] 8 1 = 8 := goE_arg (.inr (.inl (by decide)))
theorem in_two {a b : Int} (ha : 0 ≤ a) (ha' : a ≤ 1099511627776) (hb : 0 ≤ b) (hb' : b ≤ 1099511627776) : InR [a, b] := by
  intro j x h
  match j, h with
  | 0, h => injection h with h; omega
  | 1, h => injection h with h; omega
set_option maxHeartbeats 3200000 in
theorem awake_calls (w : World) : Calls Try.prog 8 #[] w (fun e w' => e = .returned (.bool true) ∧ Keep Nothing w w') := by
  have hb : ∀ w', Below w.heap.size w w' → Keep Nothing w w' := fun w' h => Keep.of_below h _
  have H0 := Lib.hid (Holds.start w)
  have B1 := Lib.hid (fun w => bounded_calls w 8 9)
  have B2 := Lib.hid (fun w => bounded_calls w 8 7)
  have B3 := Lib.hid (fun w => bounded_calls w 8 10)
  have B4 := Lib.hid (fun w => bounded_calls w 7 8)
  rw [show bnd 8 9 = true by decide] at B1
  rw [show bnd 8 7 = true by decide] at B2
  rw [show bnd 8 10 = false by decide] at B3
  rw [show bnd 7 8 = false by decide] at B4
  go_enter Try.func8, Try.ntmps8
  go_wp2_with fail
  refine (new_ok _ 2 (by omega) (by omega)).mono ?_
  rintro e w1 ⟨rfl, hc⟩
  have H1 := Lib.hid (Holds.newCk H0.out none_stable hc)
  clear hc
  have SC := Lib.hid ckP_stable
  have H2 := Lib.hid (Holds.newBlk H1.out ((SC.out _ _ _ _).star none_stable) 3 (ints [9, 7]).toArray)
  obtain ⟨e1, e2, e3⟩ := ex_go
  obtain ⟨f1, f2, f3⟩ := ex_arg
  have E1 := Lib.hid e1
  have E2 := Lib.hid e2
  have E3 := Lib.hid e3
  have F1 := Lib.hid f1
  have F2 := Lib.hid f2
  have F3 := Lib.hid f3
  clear e1 e2 e3 f1 f2 f3
  have HG := x_go_blk (b := w.heap.size + 1) (L := [0, 0]) (r := 0) (d := 8) (m := 2) (M := [9, 7]) (Holds.second H2.out) none_stable rfl (in_two (by decide) (by decide) (by decide) (by decide)) (by decide) (by decide) (by decide) (by decide)
  rw [E1.out, E2.out, E3.out] at HG
  have HG1 := Lib.hid HG
  clear HG
  go_wp2_with fail
  refine HG1.out.mono ?_
  rintro e w2 ⟨rfl, h2⟩
  have H3 := Lib.hid h2
  clear h2 HG1 H2 H1
  have H4 := Lib.hid (Holds.newBlk H3.out ((SC.out _ _ _ _).star ((blkP_stable _ _ _).star none_stable)) 3 (ints [1]).toArray)
  have HG := x_go_blk (b := w.heap.size + 1) (L := [9, 7]) (r := 8) (d := 1) (m := 1) (M := [1]) (Holds.second H4.out) ((blkP_stable _ _ _).star none_stable) rfl (in_two (by decide) (by decide) (by decide) (by decide)) (by decide) (by decide) (by decide) (by decide)
  rw [F1.out, F2.out, F3.out] at HG
  have HG2 := Lib.hid HG
  clear HG
  go_wp2_with fail
  refine HG2.out.mono ?_
  rintro e w3 ⟨rfl, h3⟩
  have H5 := Lib.hid h3
  clear h3 HG2 H3 H4
  go_wp2_with fail
  have S5 := Lib.hid ((SC.out 55 (w.heap.size + 1) [9, 7] 8).star ((blkP_stable w2.heap.size 3 (ints [1]).toArray).star ((blkP_stable w1.heap.size 3 (ints [9, 7]).toArray).star none_stable)))
  have K3 := Lib.hid (((Keep.same Nothing w3).alloc (.cells #[.int .i64 10] 3)).alloc (.cells (steps18 w3.heap.size) 52))
  have hs := script_calls ((w3.alloc (.cells #[.int .i64 10] 3)).alloc (.cells (steps18 w3.heap.size) 52)) w3.heap.size (w3.alloc (.cells #[.int .i64 10] 3)).heap.size ((Blk.fresh w3 3 #[.int .i64 10]).alloc _) (Blk.fresh (w3.alloc (.cells #[.int .i64 10] 3)) 52 (steps18 w3.heap.size))
  rw [show (w3.alloc (.cells #[.int .i64 10] 3)).heap.size = w3.heap.size + 1 by simp] at hs
  have HS := Lib.hid hs
  clear hs
  refine HS.out.mono ?_
  rintro e w4 ⟨rfl, hk4⟩
  have H6 := Lib.hid (H5.out.kept S5.out (K3.out.then hk4))
  clear hk4 HS K3 H5 S5
  have A0 := x_at H6.out 0
  have A1 := x_at H6.out 1
  rw [show atV [9, 7] 0 = 9 by decide] at A0
  rw [show atV [9, 7] 1 = 7 by decide] at A1
  have A0' := Lib.hid A0
  have A1' := Lib.hid A1
  have AR := Lib.hid (x_real H6.out)
  clear A0 A1
  go_wp2_with fail
  refine A0'.out.mono ?_
  rintro e w' ⟨rfl, rfl⟩
  go_wp2_with fail
  refine A1'.out.mono ?_
  rintro e w' ⟨rfl, rfl⟩
  go_wp2_with fail
  refine AR.out.mono ?_
  rintro e w' ⟨rfl, rfl⟩
  go_wp2_with fail
  refine (B1.out _).mono ?_
  rintro e w' ⟨rfl, rfl⟩
  go_wp2_with fail
  refine (B2.out _).mono ?_
  rintro e w' ⟨rfl, rfl⟩
  go_wp2_with fail
  refine (B3.out _).mono ?_
  rintro e w' ⟨rfl, rfl⟩
  go_wp2_with fail
  refine (B4.out _).mono ?_
  rintro e w' ⟨rfl, rfl⟩
  go_wp2_with fail
  refine (new_bad _ 0 (by decide)).mono ?_
  rintro e w' ⟨rfl, rfl⟩
  go_wp2_with fail
  go_ret
  exact ⟨rfl, hb _ H6.out.below⟩
end Go.Proofs.Ytdipjjngemgldaa.A
