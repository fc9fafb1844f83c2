/-
  The learner's drop, Forget; the reference's.
-/
import Derived.Test.YtcbjmmjjohigmaaD
namespace Go.Proofs.Ytcbjmmjjohigmaa.A
open Go.RowKit Go.Proofs.Ytcbjmmjjohigmaa.U
set_option linter.unusedVariables false
set_option linter.unusedSimpArgs false
set_option maxRecDepth 100000

theorem keepO_in {L : List Ent} {s : Int} {j : Nat} {x : Ent} (hx : L[j]? = some x) (h : over s x = true) : keepO (L.take (j + 1)) s = keepO (L.take j) s ++ [x] := by
  rw [keepO_next hx, h]; rfl
theorem keepO_out {L : List Ent} {s : Int} {j : Nat} {x : Ent} (hx : L[j]? = some x) (h : over s x = false) : keepO (L.take (j + 1)) s = keepO (L.take j) s := by
  rw [keepO_next hx, h]; simp
abbrev unit_ : Ending → Prop := fun e => e = .returned (.tuple #[])
theorem own_len (A : Option Addr) (n m c : Nat) : (Value.slice A n c).ownBlock = (Value.slice A m c).ownBlock := by cases A <;> rfl
set_option maxHeartbeats 3200000 in
theorem drop_calls (w : World) (b : Nat) (F : Nat → Prop) (a : Int) (L : List Ent) (h : lnP 51 b a L w F) (s : Int) :
    Calls Try.prog 26 #[.pointer (some ⟨b, 0, none⟩), .int .i64 s] w (fun e w' => unit_ e ∧ Step w F (lnP 51 b a (keepO L s)) w') := by
  have hu := Try.underlying51
  obtain ⟨v, hb, hr, hF⟩ := h
  obtain ⟨A, c, rfl, hc1, hc2⟩ := hr.form
  have K0 := Lib.hid ((Keep.same Nothing w).alloc (.cells #[.int .i64 s] 3))
  have B0 := Lib.hid (hb.alloc (.cells #[.int .i64 s] 3))
  have R0 := Lib.hid (hr.alloc (.cells #[.int .i64 s] 3))
  have P0 := Lib.hid ((Blk.fresh w 3 #[.int .i64 s]).cell 0)
  have PN := Lib.hid (show (Value.slice A L.length c).ownBlock ≠ some w.heap.size from fun e => by have := hr.lt _ e; omega)
  have FF := Lib.hid hF
  have AP := Lib.hid (hr.apart hb (by decide))
  have c1 := B0.out.cell 1
  have DC := Lib.hid (del_func (w.alloc (.cells #[.int .i64 s] 3)) A L.length c L R0.out w.heap.size s P0.out PN.out)
  clear hb hr hF hc1 hc2
  go_enter Try.func26, Try.ntmps26
  go_wp2_with fail
  refine DC.out.mono ?_
  rintro e w2 ⟨m, rfl, hm, hr2, hk2⟩
  have HM := Lib.hid hm
  have R2 := Lib.hid hr2
  have K2 := Lib.hid hk2
  have B2 := Lib.hid (B0.out.keep hk2 (fun h => AP.out h))
  have d1 := B2.out.cell 1
  have f1 := B2.out.free 1
  clear hm hr2 hk2 c1
  go_wp2_with fail
  go_end0
  refine ⟨rfl, F, ⟨.slice A m c, B2.out.put 1 _, ?_, ?_⟩, ?_, fun k hk => .inl hk⟩
  · rw [HM.out] at R2 ⊢
    exact R2.out.far (p := ⟨b, 1, none⟩) (fun e => AP.out ((own_len A _ _ c).trans e)) _
  · intro k
    rw [FF.out, own_len A m L.length c]
  · have K3 : Keep F w w2 := (K0.out.wider (fun i h => h.elim)).then (K2.out.wider (fun i hi => .inl ((FF.out i).2 (.inr hi))))
    exact K3.set (.inl ((FF.out b).2 (.inl rfl))) _
/-- The learner takes a new row in its row's place. -/
theorem ln_take {w w1 : World} {F : Nat → Prop} {t b : Nat} {a : Int} {L M : List Ent} {v : Value} (h : Step w F (star (rowP 30 7 v M.length (ents M)) (lnP t b a L)) w1) (ht : 30 ≠ t) :
    w1.frozen? ⟨b, 1, none⟩ = false ∧ (∃ v0, Blk w1 b t #[.int .i64 a, v0]) ∧ Step w F (lnP t b a M) (w1.setCell ⟨b, 1, none⟩ v) := by
  obtain ⟨F', v0, hb, hr0, hF0⟩ := h.swap.get_left
  refine ⟨hb.free 1, ⟨v0, hb⟩, h.then fun F1 ⟨Fa, Fb, ⟨hr, hFa⟩, ⟨v2, hb2, hr2, hFb⟩, hd, he⟩ => ?_⟩
  have hb1 : F1 b := (he b).2 (.inr ((hFb b).2 (.inl rfl)))
  refine ⟨fun k => k = b ∨ v.ownBlock = some k, ⟨v, hb2.put 1 v, hr.far (p := ⟨b, 1, none⟩) (hr.apart hb2 ht) v, fun k => Iff.rfl⟩, (Keep.same F1 w1).set (.inl hb1) v, fun k hk => .inl ?_⟩
  rcases hk with rfl | hk
  · exact hb1
  · exact (he k).2 (.inl ((hFa k).2 hk))
set_option maxHeartbeats 6400000 in
theorem rdrop_calls (w : World) (b : Nat) (F : Nat → Prop) (a : Int) (L : List Ent) (h : lnP 47 b a L w F) (s : Int) (hL : L.length ≤ 1000000) :
    Calls Try.prog 27 #[.pointer (some ⟨b, 0, none⟩), .int .i64 s] w (fun e w' => unit_ e ∧ Step w F (lnP 47 b a (keepO L s)) w') := by
  have hu := Try.underlying47
  have hu2 := Try.underlying30
  have hu3 := Try.underlying25
  have S0 := Lib.hid (Step.nil_row 30 7 (Step.self h))
  have LS := Lib.hid (fun a => lnP_stable 47 b a L)
  have RS := Lib.hid rowP_stable
  clear h
  go_enter Try.func27, Try.ntmps27
  go_wp2_with fail
  go_loopw [4, 5] (fun v vi wr => ∃ k : Nat, k ≤ L.length ∧ vi = .int .i64 k ∧ Step w F (star (rowP 30 7 v (keepO (L.take k) s).length (ents (keepO (L.take k) s))) (lnP 47 b a L)) wr) (fun _ vi _ => L.length - (intOf vi).toNat)
  case atStart => exact ⟨0, by omega, by simp, S0.out⟩
  case round =>
    obtain ⟨k, hk, rfl, hs⟩ := hrel
    have ST := Lib.hid hs
    obtain ⟨F1, v1, hb1, hr1, hF1⟩ := hs.swap.get_left
    obtain ⟨A1, c1, rfl, _, _⟩ := hr1.form
    have R1 := Lib.hid hr1
    have cb1 := hb1.cell 1
    obtain ⟨_, hrow, _⟩ := hs.get_left
    obtain ⟨A3, c3, rfl, _, _⟩ := hrow.form
    have RW := Lib.hid hrow
    have BB := Lib.hid hb1
    have HK := Lib.hid (keepO_len L s k hk)
    clear hs hb1 hr1 hF1 hrow
    by_cases hlt : k < L.length
    · obtain ⟨ad, x, rfl, hx, he⟩ := ent_at R1.out.src hlt
      obtain ⟨d0, d1, d2, d3, d4, d5, d6⟩ := he
      have j1 : (k : Int) < L.length := by omega
      have g1 : decide (k < L.length) = true := decide_eq_true hlt
      cases ho : over s x with
      | true =>
        have KN := Lib.hid (keepO_in hx ho)
        clear hx
        have g2 : decide (s < x.a) = true := ho
        have R3 := Lib.hid (RW.out.alloc (.cells x.cs 30))
        have S4 := Lib.hid (ST.out.kept ((RS.out _ _ _ _ _).star (LS.out _)) ((Keep.same Nothing _).alloc (.cells x.cs 30)))
        have hkl := HK.out
        have hb1 : (keepO (L.take k) s).length + 1 ≤ maxLen := by unfold maxLen; omega
        have hb2 : ((keepO (L.take k) s).length + 1) * 64 ≤ 140737488355328 := by omega
        clear ho
        go_wp2_with (at_builtin; refine wpList_app _ rfl EE (.tmp 25) (.tmp 33) rfl R3.out (Src.fresh _ x.cs 30 7 1 rfl) 1 rfl (by simp [Act.eval]) (by simp [Value.oneCell']) hb1 hb2 ?_)
        intro v' w' hr hg hloc
        have S5 := Lib.hid (show Step w F (star (rowP 30 7 v' (keepO (L.take (k + 1)) s).length (ents (keepO (L.take (k + 1)) s))) (lnP 47 b a L)) w' by
          rw [KN.out, ents_app, ents_one1, List.length_append]
          exact S4.out.grew (LS.out _) hr hg (by simpa using hloc))
        clear hr hg hloc d0 d1 d2 d3 d4 d5 d6 cb1
        go_wp2_with fail
        go_roundw
        case rel => exact ⟨k + 1, by omega, by go_num, S5.out⟩
        case measure => simp [intOf]; omega
      | false =>
        have KN := Lib.hid (keepO_out hx ho)
        clear hx
        have g2 : decide (s < x.a) = false := ho
        have S5 := Lib.hid (show Step w F (star (rowP 30 7 (.slice A3 (keepO (L.take k) s).length c3) (keepO (L.take (k + 1)) s).length (ents (keepO (L.take (k + 1)) s))) (lnP 47 b a L)) wr by
          rw [KN.out]
          exact ST.out)
        clear ho
        go_wp2_with fail
        go_roundw
        case rel => exact ⟨k + 1, by omega, by go_num, S5.out⟩
        case measure => simp [intOf]; omega
    · obtain rfl : k = L.length := by omega
      have g1 : decide (L.length < L.length) = false := decide_eq_false (by omega)
      rw [List.take_length] at *
      obtain ⟨hfz, _, hst⟩ := ln_take ST.out (by decide)
      have S6 := Lib.hid hst
      clear hst
      go_wp2_with fail
      go_end0
      exact ⟨rfl, S6.out⟩
theorem forget_calls (w : World) (b : Nat) (F : Nat → Prop) (a : Int) (L : List Ent) (h : lnP 51 b a L w F) (s : Int) :
    Calls Try.prog 18 #[.pointer (some ⟨b, 0, none⟩), .int .i64 s] w (fun e w' => unit_ e ∧ Step w F (lnP 51 b a (keepO L (min s a))) w') := by
  have hu := Try.underlying51
  have DC := Lib.hid (fun s => drop_calls w b F a L h s)
  obtain ⟨v, hb, hr, hF⟩ := h
  have c0 := hb.cell 0
  clear hb hr hF
  by_cases hsa : s ≤ a
  · have M := Lib.hid (show min s a = s by omega)
    have h2 : ¬ a < s := by omega
    go_enter Try.func18, Try.ntmps18
    go_wp2_with fail
    refine (DC.out _).mono ?_
    rintro e w2 ⟨rfl, hs⟩
    have S := Lib.hid hs
    clear hs
    go_wp2_with fail
    go_end0
    exact ⟨rfl, by rw [M.out]; exact S.out⟩
  · have M := Lib.hid (show min s a = a by omega)
    have h2 : a ≤ s := by omega
    have h3 : a < s := by omega
    go_enter Try.func18, Try.ntmps18
    go_wp2_with fail
    refine (DC.out _).mono ?_
    rintro e w2 ⟨rfl, hs⟩
    have S := Lib.hid hs
    clear hs
    go_wp2_with fail
    go_end0
    exact ⟨rfl, by rw [M.out]; exact S.out⟩
theorem rforget_calls (w : World) (b : Nat) (F : Nat → Prop) (a : Int) (L : List Ent) (h : lnP 47 b a L w F) (s : Int) (hL : L.length ≤ 1000000) :
    Calls Try.prog 19 #[.pointer (some ⟨b, 0, none⟩), .int .i64 s] w (fun e w' => unit_ e ∧ Step w F (lnP 47 b a (keepO L (min s a))) w') := by
  have hu := Try.underlying47
  have DC := Lib.hid (fun s => rdrop_calls w b F a L h s hL)
  obtain ⟨v, hb, hr, hF⟩ := h
  have c0 := hb.cell 0
  clear hb hr hF
  by_cases hsa : s ≤ a
  · have M := Lib.hid (show min s a = s by omega)
    have h2 : ¬ a < s := by omega
    go_enter Try.func19, Try.ntmps19
    go_wp2_with fail
    refine (DC.out _).mono ?_
    rintro e w2 ⟨rfl, hs⟩
    have S := Lib.hid hs
    clear hs
    go_wp2_with fail
    go_end0
    exact ⟨rfl, by rw [M.out]; exact S.out⟩
  · have M := Lib.hid (show min s a = a by omega)
    have h2 : a ≤ s := by omega
    have h3 : a < s := by omega
    go_enter Try.func19, Try.ntmps19
    go_wp2_with fail
    refine (DC.out _).mono ?_
    rintro e w2 ⟨rfl, hs⟩
    have S := Lib.hid hs
    clear hs
    go_wp2_with fail
    go_end0
    exact ⟨rfl, by rw [M.out]; exact S.out⟩
end Go.Proofs.Ytcbjmmjjohigmaa.A
