/-
  Contracts of the reference's Write, of Held.
-/
import Derived.Test.YtgjkbhhlgcjlgaaC
namespace Go.Proofs.Ytgjkbhhlgcjlgaa.A
open Go.RowKit Go.Proofs.Ytgjkbhhlgcjlgaa.U
set_option linter.unusedVariables false
set_option linter.unusedSimpArgs false

def RFoot (b : Nat) (v : Value) : Nat → Prop := fun k => k = b ∨ v.ownBlock = some k
def RDid (w : World) (b : Nat) (v : Value) (L : List Wr) (r : Value) (e : Ending) (w' : World) : Prop :=
  e = .returned r ∧ ∃ v', RefAt w' b v' L ∧ Keep (RFoot b v) w w' ∧ ∀ k, v'.ownBlock = some k → v.ownBlock = some k ∨ w.heap.size ≤ k
theorem RDid.none_ {w w' : World} {b : Nat} {v : Value} {L : List Wr} {r : Value} (h : RefAt w b v L) (hd : Drew w w') : RDid w b v L r (.returned r) w' := by
  obtain ⟨n, rfl⟩ := hd.out
  exact ⟨rfl, v, ⟨h.blk.drewN n, h.row.drewN n⟩, (Keep.same _ _).drewN n, fun k hk => .inl hk⟩

def wrR (L : List Wr) (s : ByteArray) (t : Int) : Int := if s.size < 1 ∨ 64 < s.size then 1 else if t < seenL L s then 18 else 0
def wrL (L : List Wr) (s : ByteArray) (t : Int) : List Wr := if s.size < 1 ∨ 64 < s.size then L else if t < seenL L s then L else L ++ [(s, t)]

set_option maxHeartbeats 800000 in
set_option maxRecDepth 100000 in
theorem rwrite_ok (w : World) (b : Nat) (v : Value) (L : List Wr) (s : ByteArray) (t : Int) (h : RefAt w b v L) (hL : L.length ≤ 100000) (hs1 : 1 ≤ s.size) (hs2 : s.size ≤ 64) (ht : seenL L s ≤ t) :
    Calls Try.prog 9 #[.pointer (some ⟨b, 0, none⟩), .string s, .int .u64 t] w (RDid w b v (L ++ [(s, t)]) (.int .i64 0)) := by
  have H := Lib.hid h
  obtain ⟨A, c, rfl, hc1, hc2⟩ := h.row.form
  have hcell : w.cell? ⟨b, 0, none⟩ = some (.slice A L.length c) := h.blk.cell 0
  have hu := Try.underlying27
  have hu32 := Try.underlying32
  clear h
  have g1 : decide ((s.size : Int) < 1) = false := decide_eq_false (by omega)
  have g2 : decide ((64 : Int) < s.size) = false := decide_eq_false (by omega)
  have g3 : decide (t < seenL L s) = false := decide_eq_false (by omega)
  go_enter Try.func9, Try.ntmps9
  go_wp2_with fail
  refine (rseen_calls _ _ _ _ s H.out hL).mono ?_
  rintro e w0 ⟨rfl, ⟨nd, rfl⟩⟩
  go_wp2_with (at_builtin; refine wpList_app _ rfl E22 (.const (.slice none 0 0)) (.tmp 24) rfl (Row.nil _ 32 3) (H.out.row.drewN nd).src c rfl rfl (cells_one L) (by unfold maxLen; omega) (by omega) ?_)
  intro v1 w1 hrow1 hgrow1 hloc1
  obtain ⟨A1, c1, rfl, _, _⟩ := hrow1.form
  have hk1 := Lib.hid (((Keep.same Nothing w).drewN nd).grown hgrow1 (fun i hi => by simp [Value.ownBlock] at hi))
  have hb1 := H.out.blk.keep hk1.out (fun h => h)
  have hcell1 := hb1.cell 0
  have L1 := Lib.hid hloc1
  have HB1 := Lib.hid hb1
  have R1 := Lib.hid hrow1
  clear hgrow1 hloc1 hb1 hrow1 hcell
  go_wp2_with (at_builtin; refine wpList_app _ rfl E22 (.tmp 25) (.tmp 29) rfl (R1.out.alloc _) (Src.fresh w1 #[.string s, .bool false, .int .u64 t] 32 3 1 rfl) 1 (by simp [Act.eval]) rfl (by simp [Value.oneCell']) (by unfold maxLen; omega) (by omega) ?_)
  intro v2 w2 hrow2 hgrow2 hloc2
  obtain ⟨A2, c2, rfl, _, _⟩ := hrow2.form
  have hne : (Value.slice A1 L.length c1).ownBlock ≠ some b := (R1.out.apart HB1.out (by decide))
  have hb2 := (HB1.out.alloc (.cells #[.string s, .bool false, .int .u64 t] 32)).grown hgrow2 hne
  have hcell2 := hb2.cell 0
  have hfree2 := hb2.free 0
  have R := Lib.hid hrow2
  have T := Lib.hid (two_fresh (hk1.out.alloc (.cells #[.string s, .bool false, .int .u64 t] 32)) (L1.out.imp_left fun h => h) hgrow2 (hloc2.imp_right fun h => by rw [h]; simp))
  have HB2 := Lib.hid hb2
  clear hrow2 hgrow2 hloc2 hb2 hne
  go_wp2
  go_ret
  have hp := HB2.out.put 0 (.slice A2 (L.length + 1) c2)
  have e1 : cells (L ++ [(s, t)]) = cells L ++ [.string s, .bool false, .int .u64 t] := by rw [cells_append]; rfl
  have e2 : (L ++ [(s, t)]).length = L.length + 1 := by simp
  refine ⟨rfl, _, ⟨by simpa using hp, ?_⟩, ((T.out.1.wider (S' := RFoot b (.slice A L.length c)) (fun _ h => h.elim))).set (.inl (.inl rfl)) _, fun k hk => .inr (T.out.2 k hk)⟩
  rw [e1, e2]
  exact R.out.far (p := ⟨b, 0, none⟩) (R.out.apart HB2.out (by decide)) (.slice A2 (L.length + 1) c2)
theorem rwrite_bad (w : World) (pb : Option Addr) (s : ByteArray) (t : Int) (hs : s.size < 1 ∨ 64 < s.size) : Calls Try.prog 9 #[.pointer pb, .string s, .int .u64 t] w (Pure w (.int .i64 1)) := by
  rcases hs with hs | hs
  · have g1 : decide ((s.size : Int) < 1) = true := decide_eq_true (by omega)
    go_enter Try.func9, Try.ntmps9
    go_wp2
    go_ret
    exact ⟨rfl, Drew.same _⟩
  · have g1 : decide ((s.size : Int) < 1) = false := decide_eq_false (by omega)
    have g2 : decide ((64 : Int) < s.size) = true := decide_eq_true (by omega)
    go_enter Try.func9, Try.ntmps9
    go_wp2
    go_ret
    exact ⟨rfl, Drew.same _⟩
theorem rwrite_stale (w : World) (b : Nat) (v : Value) (L : List Wr) (s : ByteArray) (t : Int) (h : RefAt w b v L) (hL : L.length ≤ 100000) (hs1 : 1 ≤ s.size) (hs2 : s.size ≤ 64) (ht : t < seenL L s) :
    Calls Try.prog 9 #[.pointer (some ⟨b, 0, none⟩), .string s, .int .u64 t] w (Pure w (.int .i64 18)) := by
  have H := Lib.hid h
  clear h
  have g1 : decide ((s.size : Int) < 1) = false := decide_eq_false (by omega)
  have g2 : decide ((64 : Int) < s.size) = false := decide_eq_false (by omega)
  have g3 : decide (t < seenL L s) = true := decide_eq_true (by omega)
  go_enter Try.func9, Try.ntmps9
  go_wp2_with fail
  refine (rseen_calls _ _ _ _ s H.out hL).mono ?_
  rintro e w0 ⟨rfl, ⟨nd, rfl⟩⟩
  go_wp2
  go_ret
  exact ⟨rfl, (Drew.same _).more _⟩
theorem rwrite_any (w : World) (b : Nat) (v : Value) (L : List Wr) (s : ByteArray) (t : Int) (h : RefAt w b v L) (hL : L.length ≤ 100000) :
    Calls Try.prog 9 #[.pointer (some ⟨b, 0, none⟩), .string s, .int .u64 t] w (RDid w b v (wrL L s t) (.int .i64 (wrR L s t))) := by
  unfold wrL wrR
  by_cases hs : s.size < 1 ∨ 64 < s.size
  · simp only [if_pos hs]
    refine (rwrite_bad w _ s t hs).mono ?_
    rintro e w' ⟨rfl, hd⟩
    exact RDid.none_ h hd
  · simp only [if_neg hs]
    by_cases ht : t < seenL L s
    · simp only [if_pos ht]
      refine (rwrite_stale w b v L s t h hL (by omega) (by omega) ht).mono ?_
      rintro e w' ⟨rfl, hd⟩
      exact RDid.none_ h hd
    · simp only [if_neg ht]
      exact rwrite_ok w b v L s t h hL (by omega) (by omega) (by omega)

/-! ### Held: two logs alike -/
theorem neq32 (w : World) (s s' : ByteArray) (x x' : Int) : (binOp .neq 32 (.agg #[.string s, .bool false, .int .u64 x]) (.agg #[.string s', .bool false, .int .u64 x'])).run Try.prog w = .ok (.bool (!(decide (s = s') && decide (x = x')))) w := by
  have hu32 := Try.underlying32
  have hu9 := Try.underlying9
  have hu30 := Try.underlying30
  have hu4 := Try.underlying4
  have hf : Try.prog.underlying 32 = some (.struct (Try.prog.fieldsOf 32)) := by kernel_rfl
  have hh : Try.prog.stoodInHeld 32 = false := by kernel_rfl
  rw [run_neq_struct, run_equalIn_agg w 9999 32 _ _ hf hh]
  have hfl : (Try.prog.fieldsOf 32).toList = (match Try.prog.underlying 32 with | some (.struct fs) => fs.toList | _ => []) := by kernel_rfl
  rw [hfl, hu32]
  simp [Op.eqFields, run_equalIn_string, run_equalIn_int, run_equalIn_bool', hu9, hu30, hu4, toList_eq]
  have p9 : ∀ (a : Value) (b c : Value) (W : World), (part 9 #[a, b, c] 0).run Try.prog W = .ok a W := fun a b c W => by rfl
  have p4 : ∀ (a : Value) (b c : Value) (W : World), (part 4 #[a, b, c] 1).run Try.prog W = .ok b W := fun a b c W => by rfl
  have p30 : ∀ (a : Value) (b c : Value) (W : World), (part 30 #[a, b, c] 2).run Try.prog W = .ok c W := fun a b c W => by rfl
  have q9 := run_equalIn_string (P := Try.prog) w 9998 9 s s' hu9
  have q4 := run_equalIn_bool' (P := Try.prog) w 9998 4 false false hu4
  have q30 := run_equalIn_int (P := Try.prog) w 9998 30 .u64 .u64 x x' hu30
  simp only [Nat.reduceAdd] at q9 q4 q30
  rw [toList_eq] at q9
  simp [p9, p4, p30, q9, q4, q30]
  by_cases hs : s = s' <;> by_cases hx : x = x' <;> simp [hs, hx, Result.andThen, q4, q30, p4, p30]
theorem held_calls (w : World) (A A' : Option Addr) (c c' : Nat) (L L' : List Wr) (n n' : Nat) (hn : n = L.length) (hn' : n' = L'.length) (h : Src w A 3 n (cells L)) (h' : Src w A' 3 n' (cells L')) (hb : n ≤ 100000) :
    Calls Try.prog 12 #[.slice A n c, .slice A' n' c'] w (Pure w (.bool (decide (L = L')))) := by
  by_cases hl : n = n'
  · subst hl
    have H := Lib.hid h
    have H' := Lib.hid h'
    have N1 := Lib.hid hn
    have N2 := Lib.hid hn'
    have hu := Try.underlying32
    clear h h' hn hn'
    go_enter Try.func12, Try.ntmps12
    go_wp2_with fail
    go_loopw [5] (fun i wr => ∃ k : Nat, k ≤ n ∧ i = .int .i64 k ∧ Drew w wr ∧ L.take k = L'.take k) (fun i _ => n - (intOf i).toNat)
    case atStart => exact ⟨0, Nat.zero_le _, rfl, Drew.same _, rfl⟩
    case round =>
      obtain ⟨k, hk, rfl, ⟨nd, rfl⟩, ht⟩ := hrel
      have HT := Lib.hid ht
      clear ht
      by_cases hlt : k < n
      · obtain ⟨p, hp⟩ : ∃ p, L[k]? = some p := ⟨_, List.getElem?_eq_getElem (by have := N1.out; omega)⟩
        obtain ⟨p', hp'⟩ : ∃ p, L'[k]? = some p := ⟨_, List.getElem?_eq_getElem (by have := N2.out; omega)⟩
        obtain ⟨ad, rfl, h0, h1, h2⟩ := held_at H.out hp
        obtain ⟨ad', rfl, h0', h1', h2'⟩ := held_at H'.out hp'
        have P1 := Lib.hid hp
        have P2 := Lib.hid hp'
        clear hp hp'
        obtain ⟨s, x⟩ := p
        obtain ⟨s', x'⟩ := p'
        simp only at h0 h2 h0' h2'
        by_cases he : s = s' ∧ x = x'
        · obtain ⟨rfl, rfl⟩ := he
          have hq := fun w => neq32 w s s x x
          simp only [decide_true, Bool.and_self, Bool.not_true] at hq
          go_wp2_with fail
          go_quiet (fail)
          go_wp2
          go_roundw
          case rel => 
            refine ⟨k + 1, by omega, by go_num, (Drew.same _).more _, ?_⟩
            have e1 := List.getElem?_eq_some_iff.1 P1.out
            have e2 := List.getElem?_eq_some_iff.1 P2.out
            obtain ⟨l1, e1⟩ := e1
            obtain ⟨l2, e2⟩ := e2
            rw [List.take_succ_eq_append_getElem l1, List.take_succ_eq_append_getElem l2, e1, e2, HT.out]
          case measure => simp [intOf]; omega
        · have hd : (decide (s = s') && decide (x = x')) = false := by
            rw [Bool.and_eq_false_iff]
            by_cases hs : s = s'
            · exact .inr (decide_eq_false (fun hx => he ⟨hs, hx⟩))
            · exact .inl (decide_eq_false hs)
          have hne : decide (L = L') = false := decide_eq_false fun e => he (by
            have a := P1.out
            rw [e, P2.out] at a
            injection a with a
            injection a with a1 a2
            exact ⟨a1.symm, a2.symm⟩)
          have HN := Lib.hid hne
          have hq := fun w => neq32 w s s' x x'
          simp only [hd, Bool.not_false] at hq
          clear hne he hd
          go_wp2_with fail
          go_quiet (fail)
          go_wp2
          go_ret
          exact ⟨by rw [HN.out]; rfl, ((Drew.same _).more _).more _⟩
      · have e : L = L' := by
          have a := HT.out
          rwa [List.take_of_length_le (by have := N1.out; omega), List.take_of_length_le (by have := N2.out; omega)] at a
        have HE := Lib.hid (decide_eq_true e)
        clear e
        go_wp2
        go_ret
        exact ⟨by rw [HE.out]; rfl, (Drew.same _).more _⟩
  · have hne : decide (L = L') = false := decide_eq_false fun e => hl (by rw [hn, hn', e])
    have HN := Lib.hid hne
    have g1 : ((n : Int) == (n' : Int)) = false := by rw [beq_eq_false_iff_ne]; omega
    clear h h' hn hn' hl hne
    go_enter Try.func12, Try.ntmps12
    go_wp2
    go_ret
    exact ⟨by rw [HN.out]; rfl, Drew.same _⟩
end Go.Proofs.Ytgjkbhhlgcjlgaa.A
