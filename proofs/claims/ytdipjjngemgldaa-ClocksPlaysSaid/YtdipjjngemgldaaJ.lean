/-
  ClocksPlays: any deeds on any clocks: each answer, each clock.
-/
import Derived.Test.YtdipjjngemgldaaI
namespace Go.Proofs.Ytdipjjngemgldaa.A
open Go.RowKit Go.Proofs.Ytdipjjngemgldaa.U
set_option linter.unusedVariables false
set_option linter.unusedSimpArgs false
set_option maxRecDepth 100000

theorem Holds.inner {B : Nat} {w0 w : World} {P Q Q' : SP} (h : Holds B w0 w (star P Q)) (hi : ∀ F, Q w F → Q' w F) : Holds B w0 w (star P Q') :=
  h.imp fun F ⟨F1, F2, h1, h2, h3, h4⟩ => ⟨F1, F2, h1, hi F2 h2, h3, h4⟩
theorem star_second {P Q R : SP} {w : World} {F : Nat → Prop} (h : star P (star Q R) w F) : star Q (star P R) w F := by
  obtain ⟨F1, F2, h1, ⟨F3, F4, h5, h6, h7, h8⟩, h3, h4⟩ := h
  exact ⟨F3, fun k => F1 k ∨ F4 k, h5, ⟨F1, F4, h1, h6, fun k a b => h3 k a ((h8 k).2 (.inr b)), fun _ => Iff.rfl⟩,
      fun k a b => by rcases b with b | b; exact h3 k b ((h8 k).2 (.inl a)); exact h7 k a b,
      fun k => by rw [h4, h8]; exact ⟨fun h => by rcases h with h | h | h; exact .inr (.inl h); exact .inl h; exact .inr (.inr h), fun h => by rcases h with h | h | h; exact .inr (.inl h); exact .inl h; exact .inr (.inr h)⟩⟩
/-- P * (Q * (R * S)) gives Q * (R * (P * S)). -/
theorem Holds.third {B : Nat} {w0 w : World} {P Q R S : SP} (h : Holds B w0 w (star P (star Q (star R S)))) : Holds B w0 w (star Q (star R (star P S))) :=
  Holds.inner (Holds.second h) fun F => star_second
theorem third_back {B : Nat} {w0 w : World} {P Q R S : SP} (h : Holds B w0 w (star Q (star R (star P S)))) : Holds B w0 w (star P (star Q (star R S))) :=
  Holds.second (Holds.inner h fun F => star_second)
theorem blk_at {B : Nat} {w0 w : World} {Q : SP} {b t : Nat} {cs : Array Value} (h : Holds B w0 w (star (blkP b t cs) Q)) : Blk w b t cs := by
  obtain ⟨F, hb, _⟩ := h.left
  exact hb
theorem x_real_ {B : Nat} {w0 w : World} {Q : SP} {b : Nat} {L : List Int} {r : Int} (h : Holds B w0 w (star (ckP 55 b L r) Q)) : Calls Try.prog 17 #[.pointer (some ⟨b, 0, none⟩)] w (fun e w' => e = .returned (.int .i64 r) ∧ w' = w) := x_real h
def deedCs (s : Bool) (r n t : Int) (v : Value) : Array Value := #[.bool s, .int .i64 r, .int .i64 n, .int .i64 t, v]
theorem deed_all {w : World} {B : Nat} {A : Option Addr} {len : Nat} {l : List Deed} (h : R.Args w B A len 5 Deed.cells l) {k : Nat} (hk : k < len) :
    ∃ (ad : Addr) (x : Deed), A = some ad ∧ l[k]? = some x ∧ ∀ w', Below B w w' → w'.cell? (ad.add (k * 5)) = some (.bool x.s) ∧ w'.cell? ⟨(ad.add (k * 5)).block, (ad.add (k * 5)).off + 1, none⟩ = some (.int .i64 x.r) ∧
      w'.cell? ⟨(ad.add (k * 5)).block, (ad.add (k * 5)).off + 2, none⟩ = some (.int .i64 x.n) ∧ w'.cell? ⟨(ad.add (k * 5)).block, (ad.add (k * 5)).off + 3, none⟩ = some (.int .i64 x.t) ∧ w'.cell? ⟨(ad.add (k * 5)).block, (ad.add (k * 5)).off + 4, none⟩ = some x.v := by
  have hl := h.1
  obtain ⟨ad, e, hB, hc⟩ := h.2 k (l[k]'(by omega)) (List.getElem?_eq_getElem (by omega))
  refine ⟨ad, _, e, List.getElem?_eq_getElem (by omega), fun w' hw => ?_⟩
  have hb : (ad.add (k * 5)).block < B := by rw [addBlock]; exact hB
  have g : ∀ j, 0 < j → w'.cell? ⟨(ad.add (k * 5)).block, (ad.add (k * 5)).off + j, none⟩ = w.cell? (ad.add (k * 5 + j)) := fun j hj => by
    rw [addLater ad (k * 5) j hj]
    exact hw.cell (p := ⟨(ad.add (k * 5)).block, (ad.add (k * 5)).off + j, none⟩) hb
  exact ⟨(hw.cell (p := ad.add (k * 5)) hb).trans (hc 0 _ rfl), (g 1 (by omega)).trans (hc 1 _ rfl), (g 2 (by omega)).trans (hc 2 _ rfl), (g 3 (by omega)).trans (hc 3 _ rfl), (g 4 (by omega)).trans (hc 4 _ rfl)⟩
set_option maxHeartbeats 12800000 in
theorem plays_bad (w : World) (n : Int) (hn : n < 1 ∨ 13 < n) (A : Option Addr) (len cap : Nat) :
    Calls Try.prog 5 #[.int .i64 n, .slice A len cap] w (fun e w' => e = .returned (.bool true) ∧ Keep Nothing w w') := by
  have X1 := Lib.hid (fun w => new_bad w n hn)
  have X2 := Lib.hid (fun w => rnew_bad w n hn)
  have AW := Lib.hid awake_calls
  clear hn
  go_enter Try.func5, Try.ntmps5
  go_wp2_with fail
  refine (X1.out _).mono ?_
  rintro e w1 ⟨rfl, rfl⟩
  go_wp2_with fail
  refine (X2.out _).mono ?_
  rintro e w1 ⟨rfl, rfl⟩
  go_wp2_with fail
  go_loopw [7] (fun v wr => wr = w1 ∧ v = .int .i64 0) (fun _ _ => 0)
  case atStart => exact ⟨by trivial, by simp⟩
  case round =>
    obtain ⟨rfl, rfl⟩ := hrel
    rcases Nat.eq_zero_or_pos len with h0 | h0
    · subst h0
      go_wp2_with fail
      refine (AW.out _).mono ?_
      rintro e w2 ⟨rfl, hk⟩
      have K := Lib.hid hk
      clear hk
      go_wp2_with fail
      go_ret
      exact ⟨rfl, K.out⟩
    · have g : decide (0 < len) = true := decide_eq_true h0
      go_wp2_with fail
      refine (AW.out _).mono ?_
      rintro e w2 ⟨rfl, hk⟩
      have K := Lib.hid hk
      clear hk
      go_wp2_with fail
      go_ret
      exact ⟨rfl, K.out⟩
set_option maxHeartbeats 12800000 in
theorem plays_ok (w : World) (n : Nat) (h1 : 1 ≤ n) (h2 : n ≤ 13) (A : Option Addr) (len cap : Nat) (l : List Deed) (hA : R.Args w w.heap.size A len 5 Deed.cells l) (hD : ∀ (i : Nat) (x : Deed), l[i]? = some x → ∃ A m c M, DeedOk w w.heap.size x A m c M) (hlen : len ≤ cap) (hcap : cap ≤ maxLen) :
    Calls Try.prog 5 #[.int .i64 n, .slice A len cap] w (fun e w' => e = .returned (.bool true) ∧ Keep Nothing w w') := by
  have HA := Lib.hid hA
  have HD := Lib.hid hD
  have hu35 := Try.underlying35
  have hu44 := Try.underlying44
  have hb : ∀ w', Below w.heap.size w w' → Keep Nothing w w' := fun w' h => Keep.of_below h _
  have H0 := Lib.hid (Holds.start w)
  have SC := Lib.hid ckP_stable
  have SB := Lib.hid blkP_stable
  have SR := Lib.hid rowP_stable
  have SN := Lib.hid none_stable
  have X1 := Lib.hid (fun w => new_ok w n h1 h2)
  have X2 := Lib.hid (fun w => rnew_ok w n h1 h2)
  have ZI := Lib.hid (zeros_in n)
  have ZL := Lib.hid (show (zeros n).length = n by simp [zeros])
  have hmax : maxLen = 9223372036854775807 := by rfl
  clear hA hD h1
  go_enter Try.func5, Try.ntmps5
  go_wp2_with fail
  refine (X1.out _).mono ?_
  rintro e w1 ⟨rfl, hc⟩
  have H1 := Lib.hid (Holds.newCk H0.out SN.out hc)
  clear hc
  go_wp2_with fail
  refine (X2.out _).mono ?_
  rintro e w2 ⟨rfl, hc⟩
  have H2 := Lib.hid (Holds.second (Holds.newCk H1.out ((SC.out _ _ _ _).star SN.out) hc))
  clear hc H1 H0
  go_wp2_with fail
  generalize hgb : w.heap.size + 1 = bc at *
  generalize hgx : w1.heap.size + 1 = bx at *
  generalize hgw : w.heap.size = b1 at *
  clear hgb hgx hgw
  go_loopw [7] (fun v wr => ∃ (k : Nat) (r : Int) (L : List Int), k ≤ 100 ∧ v = .int .i64 k ∧ L.length = n ∧ InR L ∧ 0 ≤ r ∧ r ≤ 1099511627776 ∧ Holds b1 w wr (star (ckP 55 bc L r) (star (ckP 44 bx L r) none_))) (fun v _ => 100 - (intOf v).toNat)
  case atStart => exact ⟨0, 0, zeros n, by omega, by simp, ZL.out, ZI.out, by omega, by omega, H2.out⟩
  case round =>
    obtain ⟨k, r, L, hk, rfl, hL, hI, hr0, hr1, hh⟩ := hrel
    have H := Lib.hid hh
    have LL := Lib.hid hL
    have IR := Lib.hid hI
    clear hh hL hI
    by_cases hin : k < len ∧ k < 100
    · obtain ⟨hkl, hk3⟩ := hin
      obtain ⟨ad, x, rfl, hx, hat⟩ := deed_all HA.out hkl
      obtain ⟨A1, m1, c1, M, hdo⟩ := HD.out k x hx
      have DO := Lib.hid hdo
      have hv := hdo.v
      obtain ⟨c0, c1', c2, c3, c4⟩ := hat _ H.out.below
      rw [hv] at c4
      have T := Lib.hid (Holds.third (Holds.newBlk H.out ((SC.out _ _ _ _).star ((SC.out _ _ _ _).star SN.out)) 35 #[.bool x.s, .int .i64 x.r, .int .i64 x.n, .int .i64 x.t, .slice A1 m1 c1]))
      have ST := Lib.hid (fun L r L' r' b t cs => (SC.out 55 bc L r).star ((SC.out 44 bx L' r').star ((SB.out b t cs).star SN.out)))
      clear hat hdo hx hv
      have D := Blk.fresh wr 35 #[.bool x.s, .int .i64 x.r, .int .i64 x.n, .int .i64 x.t, .slice A1 m1 c1]
      have d0 := D.cell 0
      have CC := Lib.hid (show ∀ (P1 P2 : SP) (w' : World), Holds b1 w w' (star P1 (star P2 (star (blkP wr.heap.size 35 #[.bool x.s, .int .i64 x.r, .int .i64 x.n, .int .i64 x.t, .slice A1 m1 c1]) none_))) → w'.cell? ⟨wr.heap.size, 1, none⟩ = some (.int .i64 x.r) ∧ w'.cell? ⟨wr.heap.size, 2, none⟩ = some (.int .i64 x.n) ∧ w'.cell? ⟨wr.heap.size, 3, none⟩ = some (.int .i64 x.t) ∧ w'.cell? ⟨wr.heap.size, 4, none⟩ = some (.slice A1 m1 c1) from
        fun P1 P2 w' h => ⟨(blk_at (third_back h)).cell 1, (blk_at (third_back h)).cell 2, (blk_at (third_back h)).cell 3, (blk_at (third_back h)).cell 4⟩)
      clear D
      cases hxs : x.s with
      | true =>
        rw [hxs] at c0 d0
        simp only [hxs] at T CC
        have cc := CC.out _ _ _ T.out
        have L6n := Lib.hid ((set_in IR.out x.n x.t).2.trans LL.out)
        have I6 := Lib.hid (set_in IR.out x.n x.t).1
        have X5 := Lib.hid (fun q => x_set (T.out.drewN (ST.out _ _ _ _ _ _ _) q) ((SC.out _ _ _ _).star ((SB.out _ _ _).star SN.out)) x.n x.t)
        go_wp2_with fail
        go_region_held3 (fun w' => w'.cell? ⟨wr.heap.size, 2, none⟩ = some (.int .i64 x.n) ∧ w'.cell? ⟨wr.heap.size, 3, none⟩ = some (.int .i64 x.t)) (first | exact ⟨cc.2.1, cc.2.2.1⟩ | exact ⟨cc5.2.1, cc5.2.2.1⟩ | exact ⟨cc6.2.1, cc6.2.2.1⟩ | go_keep) ((first | (go_at_call 11; refine (X5.out _).mono ?_; rintro e w5 ⟨rfl, h5⟩; have T5 := Lib.hid h5; have cc5 := CC.out _ _ _ h5; clear h5) | (go_at_call 12; refine (y_set T5.out (SC.out _ _ _ _) ((SB.out _ _ _).star SN.out) x.n x.t).mono ?_; rintro e w6 ⟨rfl, h6⟩; have T6 := Lib.hid h6; have cc6 := CC.out _ _ _ h6; clear h6)))
        clear cc cc5 cc6
        generalize setL L x.n x.t = L6 at *
        generalize setE L x.n x.t = e6 at *
        obtain ⟨r6, hr6⟩ : ∃ r6, r = r6 := ⟨_, rfl⟩
        have p0 := hr0
        have p1 := hr1
        rw [hr6] at T6 p0 p1
        clear hr6
        go_wp2_with fail
        go_loopw [9, 10] (fun f v wr2 => wr2 = w6 ∧ f = .bool true ∧ ∃ j : Int, -1 ≤ j ∧ j ≤ n + 1 ∧ v = .int .i64 j) (fun f v _ => (n + 1 - intOf v).toNat)
        case atStart => exact ⟨by trivial, by simp, -1, by omega, by omega, by simp⟩
        case round =>
          obtain ⟨rfl, rfl, j, hj0, hj1, rfl⟩ := hrel
          by_cases hjn : j ≤ n
          · have g5 : decide (j ≤ (n : Int)) = true := decide_eq_true hjn
            have w9 : IntKind.i64.wrap (j + 1) = j + 1 := by rw [IntKind.wrap_i64]; omega
            have XA := Lib.hid (x_at T6.out j)
            have YA := Lib.hid (y_at T6.out j)
            go_wp2_with fail
            refine XA.out.mono ?_
            rintro e w' ⟨rfl, rfl⟩
            go_wp2_with fail
            refine YA.out.mono ?_
            rintro e w' ⟨rfl, rfl⟩
            go_wp2_with fail
            go_roundw
            case rel => exact ⟨by trivial, by simp, j + 1, by omega, by omega, by simp⟩
            case measure => simp [intOf]; omega
          · have g5 : decide (j ≤ (n : Int)) = false := decide_eq_false hjn
            obtain ⟨F8, v8, hb8, hr8, hF8⟩ := (Holds.second T6.out).left
            have y1 := hb8.cell 1
            clear hb8 hr8 hF8
            have XR := Lib.hid (fun q => x_real_ (T6.out.drewN (ST.out _ _ _ _ _ _ _) q))
            go_wp2_with fail
            go_region_held3 (fun w' => w'.cell? ⟨bx, 1, none⟩ = some (.int .i64 r6)) (first | exact y1 | go_keep) ((first | (go_at_call 17; refine (XR.out _).mono ?_; rintro e w7 ⟨rfl, rfl⟩)))
            go_wp2_with fail
            go_roundw
            case rel => exact ⟨k + 1, r6, L6, by omega, by go_num, L6n.out, I6.out, p0, p1, (third_back (T6.out.drewN (ST.out _ _ _ _ _ _ _) _)).drop⟩
            case measure => simp [intOf]; omega
      | false =>
        rw [hxs] at c0 d0
        simp only [hxs] at T CC
        have cc := CC.out _ _ _ T.out
        have L6n := Lib.hid ((goL_len L M r x.r).trans LL.out)
        have I6 := Lib.hid (go_in (M := M) (d := x.r) IR.out hr0 hr1).1
        have p0 := (go_in (M := M) (d := x.r) IR.out hr0 hr1).2.1
        have p1 := (go_in (M := M) (d := x.r) IR.out hr0 hr1).2.2
        have q1 := DO.out.mc
        have q2 := DO.out.len
        have q3 : m1 ≤ 9223372036854775807 := by omega
        have d1 : 0 + m1 ≤ maxLen := by omega
        have d2 : (0 + m1) * 8 ≤ 140737488355328 := by omega
        have TQ := Lib.hid (fun q => T.out.drewN (ST.out _ _ _ _ _ _ _) q)
        go_wp2_with fail
        go_region_held3 (fun w' => w'.cell? ⟨wr.heap.size, 1, none⟩ = some (.int .i64 x.r) ∧ w'.cell? ⟨wr.heap.size, 4, none⟩ = some (.slice A1 m1 c1)) (first | exact ⟨cc.1, cc.2.2.2⟩ | exact ⟨cc7.1, cc7.2.2.2⟩ | exact ⟨cc8.1, cc8.2.2.2⟩ | exact ⟨cc6.1, cc6.2.2.2⟩ | go_keep) ((first | (go_at_call 13; refine (x_go_row T7.out ((SC.out _ _ _ _).star ((SB.out _ _ _).star SN.out)) IR.out hr0 hr1 q3 x.hr.2).mono ?_; rintro e w8 ⟨rfl, h8⟩; have T8 := Lib.hid h8; have cc8 := CC.out _ _ _ h8; clear h8) | (go_at_call 14; refine (y_go T8.out (SC.out _ _ _ _) ((SB.out _ _ _).star SN.out) (DO.out.below T8.out.below) DO.out.blk IR.out hr0 hr1 q3 x.hr.2).mono ?_; rintro e w6 ⟨rfl, h6⟩; have T6 := Lib.hid h6; have cc6 := CC.out _ _ _ h6; clear h6) | (refine step_app _ (by rfl) E33 (.const (.slice none 0 0)) (.tmp 57) (by rfl) (Row.nil _ 3 1) (DO.out.below (TQ.out 1).below) c1 (by simp [Act.eval, Act.put]) (by simp [Act.eval, Act.put]) DO.out.one d1 d2 ?_; intro A7 c7 w7 hr7 hg7 hl7; (try simp only [Nat.zero_add, List.nil_append] at hr7 hl7); have T7 := Lib.hid (Holds.newRow (TQ.out 1) (ST.out _ _ _ _ _ _ _) hr7 ((Keep.same Nothing _).grown hg7 (fun i hi => by simp [Value.ownBlock] at hi)) (fun q hq => hl7.elim (fun h => by rw [h] at hq; cases hq) (fun h => by rw [h] at hq; exact Nat.le_of_eq (Option.some.inj hq)))); have cc7 := CC.out _ _ _ T7.out.drop; clear hr7 hg7 hl7)))
        clear cc cc6 cc7 cc8
        generalize goL L M r x.r = L6 at *
        generalize goR L M r x.r = r6 at *
        generalize goE L M r x.r = e6 at *
        go_wp2_with fail
        go_loopw [9, 10] (fun f v wr2 => wr2 = w6 ∧ f = .bool true ∧ ∃ j : Int, -1 ≤ j ∧ j ≤ n + 1 ∧ v = .int .i64 j) (fun f v _ => (n + 1 - intOf v).toNat)
        case atStart => exact ⟨by trivial, by simp, -1, by omega, by omega, by simp⟩
        case round =>
          obtain ⟨rfl, rfl, j, hj0, hj1, rfl⟩ := hrel
          by_cases hjn : j ≤ n
          · have g5 : decide (j ≤ (n : Int)) = true := decide_eq_true hjn
            have w9 : IntKind.i64.wrap (j + 1) = j + 1 := by rw [IntKind.wrap_i64]; omega
            have XA := Lib.hid (x_at T6.out j)
            have YA := Lib.hid (y_at T6.out j)
            go_wp2_with fail
            refine XA.out.mono ?_
            rintro e w' ⟨rfl, rfl⟩
            go_wp2_with fail
            refine YA.out.mono ?_
            rintro e w' ⟨rfl, rfl⟩
            go_wp2_with fail
            go_roundw
            case rel => exact ⟨by trivial, by simp, j + 1, by omega, by omega, by simp⟩
            case measure => simp [intOf]; omega
          · have g5 : decide (j ≤ (n : Int)) = false := decide_eq_false hjn
            obtain ⟨F8, v8, hb8, hr8, hF8⟩ := (Holds.second T6.out).left
            have y1 := hb8.cell 1
            clear hb8 hr8 hF8
            have XR := Lib.hid (fun q => x_real_ (T6.out.drewN (ST.out _ _ _ _ _ _ _) q))
            go_wp2_with fail
            go_region_held3 (fun w' => w'.cell? ⟨bx, 1, none⟩ = some (.int .i64 r6)) (first | exact y1 | go_keep) ((first | (go_at_call 17; refine (XR.out _).mono ?_; rintro e w7 ⟨rfl, rfl⟩)))
            go_wp2_with fail
            go_roundw
            case rel => exact ⟨k + 1, r6, L6, by omega, by go_num, L6n.out, I6.out, p0, p1, (third_back (T6.out.drewN (ST.out _ _ _ _ _ _ _) _)).drop⟩
            case measure => simp [intOf]; omega
    · by_cases h1 : k < len
      · have g1 : decide (k < len) = true := decide_eq_true h1
        have g2 : decide (k < 100) = false := decide_eq_false (by omega)
        have g3 : decide ((k : Int) < 100) = false := decide_eq_false (by omega)
        go_wp2_with fail
        refine (awake_calls _).mono ?_
        rintro e w2 ⟨rfl, hk⟩
        have K := Lib.hid hk
        clear hk
        go_wp2_with fail
        go_ret
        exact ⟨rfl, (hb _ H.out.below).then K.out⟩
      · have g1 : decide (k < len) = false := decide_eq_false h1
        go_wp2_with fail
        refine (awake_calls _).mono ?_
        rintro e w2 ⟨rfl, hk⟩
        have K := Lib.hid hk
        clear hk
        go_wp2_with fail
        go_ret
        exact ⟨rfl, (hb _ H.out.below).then K.out⟩
open Go.ChangeShapes Go.WideShapes Go.ChangeAt in
theorem plays_law : R.Law 5 Try.f5 R.any := by
  intro H enc W base args ds p hval hA hsz _ hlt
  rw [Try.params5] at hA hval hsz
  obtain ⟨v0, vs0, d0, ds0, p0, q0, hargs, rfl, rfl, h0, r0⟩ := trodAll_cons hA
  obtain ⟨v1, vs1, d1, ds1, p1, q1, rfl, rfl, rfl, h1, r1⟩ := trodAll_cons r0
  obtain ⟨rfl, rfl, rfl⟩ := trodAll_nil r1
  obtain rfl : args = #[v0, v1] := by cases args; simp_all
  obtain ⟨n, rfl⟩ := okWide_int Try.underlying3 (hval 0 3 v0 rfl rfl)
  obtain ⟨A, len, cap, rfl, hc1, hc2, _, hel⟩ := R.open_arg Try.underlying28 cells35 (hval 1 28 v1 rfl rfl) h1 (fun x hx => hlt x (List.mem_append_right _ (List.mem_append_left _ hx))) (R.light_of hsz (j := 1) rfl rfl) (by omega)
  obtain ⟨l, hl, hp⟩ := R.exists_list (p := fun i (x : Deed) => (∃ ad, A = some ad ∧ ad.block < W.heap.size ∧ ∀ j u, x.cells[j]? = some u → W.cell? (ad.add (i * 5 + j)) = some u) ∧ ∃ A m c M, DeedOk W W.heap.size x A m c M) len (fun i hi => by
    obtain ⟨ad, cs, n, y, rfl, hB, hcl, hat, ht, hlt, hw⟩ := hel i hi
    obtain ⟨x, rfl, hx⟩ := deed_ok ht hlt hw
    exact ⟨x, ⟨ad, rfl, hB, fun j u hu => (hat j (by have := (List.getElem?_eq_some_iff.1 hu).1; simpa [Deed.cells] using this)).trans hu⟩, hx⟩)
  by_cases hn : n < 1 ∨ 13 < n
  · exact (plays_bad W n hn A len cap).mono fun e w' h => ⟨h.1, h.2.below (Nat.le_refl _) (fun _ h => h.elim)⟩
  · obtain ⟨j, rfl⟩ : ∃ j : Nat, n = j := ⟨n.toNat, by omega⟩
    exact (plays_ok W j (by omega) (by omega) A len cap l ⟨hl, fun i x hx => (hp i x hx).1⟩ (fun i x hx => (hp i x hx).2) hc1 hc2).mono fun e w' h => ⟨h.1, h.2.below (Nat.le_refl _) (fun _ h => h.elim)⟩
end Go.Proofs.Ytdipjjngemgldaa.A
