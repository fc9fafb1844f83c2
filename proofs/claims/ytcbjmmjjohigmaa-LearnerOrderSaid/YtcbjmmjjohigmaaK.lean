/-
  The reference's Learn; Jump, the reference's.
-/
import Derived.Test.YtcbjmmjjohigmaaG
namespace Go.Proofs.Ytcbjmmjjohigmaa.A
open Go.RowKit Go.Proofs.Ytcbjmmjjohigmaa.U
set_option linter.unusedVariables false
set_option linter.unusedSimpArgs false
set_option maxRecDepth 100000

/-- How things stand while the reference's Learn makes its new row. -/
structure OkW (w : World) (F : Nat → Prop) (b g : Nat) (a : Int) (L : List Ent) (x : Ent) (v : Value) (V : World) : Prop where
  B : Blk V b 47 #[.int .i64 a, v]
  R : Row V 30 7 v L.length (ents L)
  K : Keep F w V
  D : Blk V g 30 x.cs
section
variable {w : World} {F : Nat → Prop} {b g : Nat} {a : Int} {L : List Ent} {x : Ent} {v v8 : Value} {V V' : World}
theorem OkW.kept (h : OkW w F b g a L x v V) (hk : Keep Nothing V V') : OkW w F b g a L x v V' :=
  ⟨h.B.keep hk (fun h => h), h.R.keep hk (fun _ _ h => h), h.K.then (hk.wider (fun i h => h.elim)), h.D.keep hk (fun h => h)⟩
theorem OkW.new (h : OkW w F b g a L x v V) (hF : ∀ k, F k ↔ k = b ∨ v.ownBlock = some k) (hk : Keep Nothing V V') (hf : ∀ k, v8.ownBlock = some k → V.heap.size ≤ k) (hr : Row V' 30 7 v8 (L.length + 1) (ents L ++ x.cl)) :
    V'.frozen? ⟨b, 1, none⟩ = false ∧ V'.cell? ⟨b, 1, none⟩ = some v ∧ Step w F (lnP 47 b a (L ++ [x])) (V'.setCell ⟨b, 1, none⟩ v8) := by
  have hb := h.B.keep hk (fun h => h)
  refine ⟨hb.free 1, hb.cell 1, fun k => k = b ∨ v8.ownBlock = some k, ⟨v8, hb.put 1 v8, ?_, fun k => Iff.rfl⟩, ?_, fun k hk' => ?_⟩
  · rw [ents_app, ents_one1, List.length_append]
    exact hr.far (p := ⟨b, 1, none⟩) (hr.apart hb (by decide)) v8
  · exact (h.kept hk).K.set (.inl ((hF b).2 (.inl rfl))) v8
  · rcases hk' with rfl | hk'
    · exact .inl ((hF k).2 (.inl rfl))
    · have h1 := hf k hk'
      have h2 := h.K.size
      exact .inr (by omega)
end
set_option maxHeartbeats 12800000 in
theorem rlearn_calls (w : World) (b : Nat) (F : Nat → Prop) (a : Int) (L : List Ent) (x : Ent) (h : lnP 47 b a L w F) (ha0 : -9223372036854775808 ≤ a) (ha1 : a ≤ 9223372036854775807) (hL : L.length ≤ 900000) :
    Calls Try.prog 13 #[.pointer (some ⟨b, 0, none⟩), x.val] w (Gives w F (lnP 47 b (lnR L a x).1 (lnL L a x)) (lnR L a x).2) := by
  have hu := Try.underlying47
  have hu2 := Try.underlying30
  have hu3 := Try.underlying25
  have LS := Lib.hid (fun a L => lnP_stable 47 b a L)
  have S0 := Lib.hid ((Step.self h).kept (LS.out _ _) ((Keep.same Nothing w).alloc (.cells x.cs 30)))
  obtain ⟨v, hb, hr, hF⟩ := h
  obtain ⟨A0, c0, rfl, _, _⟩ := hr.form
  have OK := Lib.hid (show OkW w F b w.heap.size a L x (.slice A0 L.length c0) (w.alloc (.cells x.cs 30)) from ⟨hb.alloc _, hr.alloc _, (Keep.same F w).alloc _, Blk.fresh w 30 x.cs⟩)
  have FF := Lib.hid hF
  have b0 := OK.out.B.cell 0
  have x0 := OK.out.D.cell 0
  clear hb hr hF
  unfold Ent.val
  by_cases hxa : x.a ≤ a
  · have g1 : decide (x.a ≤ a) = true := decide_eq_true hxa
    obtain ⟨e1, e2⟩ := skip_yes (L := L) (a := a) (x := x) (by unfold skip; rw [g1]; rfl)
    have E1 := Lib.hid e1
    have E2 := Lib.hid e2
    clear e1 e2
    go_enter Try.func13, Try.ntmps13
    go_wp2_with fail
    go_quiet (fail)
    go_wp2_with fail
    go_ret
    rw [E1.out, E2.out]
    exact gives_nil (S0.out.kept (LS.out _ _) ((Keep.same Nothing _).drewN _))
  · have g1 : decide (x.a ≤ a) = false := decide_eq_false hxa
    have SQ := Lib.hid (fun q => S0.out.kept (LS.out _ _) ((Keep.same Nothing _).drewN q))
    have FX := Lib.hid (fun q => by
      obtain ⟨F1, h1⟩ := (S0.out.kept (LS.out _ _) ((Keep.same Nothing _).drewN q)).get
      exact rfind_calls ((w.alloc (.cells x.cs 30)).drewN q) b F1 a L h1 x.a)
    go_enter Try.func13, Try.ntmps13
    go_wp2_with fail
    go_region_held3 (fun w' => w'.cell? ⟨b, 0, none⟩ = some (.int .i64 a) ∧ w'.cell? ⟨w.heap.size, 0, none⟩ = some (.int .i64 x.a)) (first | exact ⟨b0, x0⟩ | go_keep) ((first | (go_at_call 24; refine (FX.out _).mono ?_; rintro e w5 ⟨i, rfl, hi, rfl⟩)))
    rcases hi with ⟨rfl, hn⟩ | ⟨k, y, rfl, hy, hs⟩
    · obtain ⟨e1, e2⟩ := skip_no (L := L) (a := a) (x := x) (by unfold skip; rw [hn, g1]; rfl)
      have E1 := Lib.hid e1
      have E2 := Lib.hid e2
      clear e1 e2 hn
      have OQ := Lib.hid (OK.out.kept ((Keep.same Nothing _).drewN 1))
      clear b0 x0
      go_wp2_with fail
      generalize (w.alloc (.cells x.cs 30)).drewN 1 = W at *
      have OK0 := Lib.hid (OQ.out.kept (Keep.same Nothing W).drew)
      have OK1 := Lib.hid (OQ.out.kept ((Keep.same Nothing W).alloc (.cells x.cs 30)).drew)
      have SX := Lib.hid (show Src (W.alloc (.cells x.cs 30)).drew _ 7 1 x.cs.toList from Src.fresh W x.cs 30 7 1 rfl)
      have b1 := OQ.out.B.cell 1
      have b1' := (OQ.out.B.alloc (.cells x.cs 30)).cell 1
      have e0 := OQ.out.D.cell 0
      have e1 := OQ.out.D.cell 1
      have e2 := OQ.out.D.cell 2
      have e3 := OQ.out.D.cell 3
      have e4 := OQ.out.D.cell 4
      have e5 := OQ.out.D.cell 5
      have e6 := OQ.out.D.cell 6
      have O1 := Lib.hid (ents_one L)
      have hb0 : 0 + L.length ≤ maxLen := by unfold maxLen; omega
      have hb00 : (0 + L.length) * 64 ≤ 140737488355328 := by omega
      have hb1 : L.length + 1 ≤ maxLen := by unfold maxLen; omega
      have hb2 : (L.length + 1) * 64 ≤ 140737488355328 := by omega
      go_region_law (first | (refine step_app _ (by rfl) EE (.const (.slice none 0 0)) (.tmp 23) (by rfl) (Row.nil _ 30 7) (by first | exact OK0.out.R.src | exact OK1.out.R.src) c0 (by simp [Act.eval, Act.put]) (by simp [Act.eval, Act.put]) O1.out hb0 hb00 ?_; intro A7 c7 w7 hr7 hg7 hl7; (try simp only [Nat.zero_add, List.nil_append] at hr7 hl7); have K7 := Lib.hid ((Keep.same Nothing _).grown hg7 (fun i hi => by simp [Value.ownBlock] at hi)); have R7 := Lib.hid hr7; have Y7 := Lib.hid (show (Value.slice A7 L.length c7).ownBlock = none ∨ _ from hl7.imp_left fun h => h); have O7 := Lib.hid (OkW.kept (by first | exact OK0.out | exact OK1.out) K7.out); have z0 := O7.out.D.cell 0; have z1 := O7.out.D.cell 1; have z2 := O7.out.D.cell 2; have z3 := O7.out.D.cell 3; have z4 := O7.out.D.cell 4; have z5 := O7.out.D.cell 5; have z6 := O7.out.D.cell 6; clear hr7 hg7 hl7) | (refine step_app _ (by rfl) EE (.tmp 24) (.tmp 26) (by rfl) R7.out (by exact ⟨SX.out.1, fun h0 => by obtain ⟨ad, e, hc⟩ := SX.out.2 h0; exact ⟨ad, e, fun j u hu => K7.out.cell (hc j u hu) (fun h => h)⟩⟩) 1 (by simp [Act.eval, Act.put]) (by simp [Act.eval, Act.put]) (by simp [Value.oneCell']) hb1 hb2 ?_; intro A8 c8 w8 hr8 hg8 hl8; have T8 := two_fresh K7.out Y7.out hg8 hl8; have PX := OkW.new (by first | exact OK0.out | exact OK1.out) FF.out T8.1 T8.2 hr8; have hfz := PX.1; have f1 := PX.2.1; have S3 := Lib.hid PX.2.2; clear hr8 hg8 hl8 T8 PX) | (refine step_app _ (by rfl) EE (.tmp 24) (.tmp 26) (by rfl) (R7.out.alloc _) (Src.fresh _ x.cs 30 7 1 rfl) 1 (by simp [Act.eval, Act.put]) (by simp [Act.eval, Act.put]) (by simp [Value.oneCell']) hb1 hb2 ?_; intro A8 c8 w8 hr8 hg8 hl8; have T8 := two_fresh (K7.out.alloc (.cells x.cs 30)) Y7.out hg8 hl8; have PX := OkW.new (by first | exact OK0.out | exact OK1.out) FF.out T8.1 T8.2 hr8; have hfz := PX.1; have f1 := PX.2.1; have S3 := Lib.hid PX.2.2; clear hr8 hg8 hl8 T8 PX))
      all_goals (obtain ⟨F3, h3, k3, n3⟩ := S3.out)
      all_goals have FL := Lib.hid (rfollow_calls _ b F3 a (L ++ [x]) h3 ha0 ha1 (by rw [List.length_append]; simp only [List.length_cons, List.length_nil]; omega))
      all_goals have K3 := Lib.hid k3
      all_goals have N3 := Lib.hid n3
      all_goals clear h3 k3 n3 e0 e1 e2 e3 e4 e5 e6 b1 b1' z0 z1 z2 z3 z4 z5 z6
      all_goals go_wp2_with fail
      all_goals refine FL.out.mono ?_
      all_goals rintro e w3 hgv
      all_goals have GV := Lib.hid hgv
      all_goals obtain ⟨v3, rfl, _⟩ := hgv
      all_goals go_wp2_with fail
      all_goals go_ret
      all_goals rw [E1.out, E2.out]
      all_goals exact gives_after K3.out N3.out GV.out
    · obtain ⟨e1, e2⟩ := skip_yes (L := L) (a := a) (x := x) (by unfold skip; rw [hs, g1]; rfl)
      have E1 := Lib.hid e1
      have E2 := Lib.hid e2
      clear e1 e2 hs hy
      go_wp2_with fail
      go_ret
      rw [E1.out, E2.out]
      exact gives_nil (SQ.out _)
end Go.Proofs.Ytcbjmmjjohigmaa.A
