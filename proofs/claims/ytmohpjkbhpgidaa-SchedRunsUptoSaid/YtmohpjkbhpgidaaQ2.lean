/-
  The queue: join, front, leave.
-/
import Derived.Test.YtmohpjkbhpgidaaP
namespace Go.Proofs.Ytmohpjkbhpgidaa.A
open Go.RowKit Go.Proofs.Ytmohpjkbhpgidaa.U
set_option linter.unusedVariables false
set_option linter.unusedSimpArgs false
set_option maxRecDepth 100000

/-- What a call makes of the queue in a block's first cell. -/
def QPost (w : World) (t b : Nat) (cs : Array Value) (v : Value) (L : List Wt) (a : Value) (e : Ending) (w' : World) : Prop :=
  e = .returned a ∧ ∃ v', Blk w' b t (cs.setIfInBounds 0 v') ∧ Row w' 119 3 v' L.length (wts L) ∧ Keep (fun k => k = b ∨ v.ownBlock = some k) w w' ∧ ∀ k, v'.ownBlock = some k → v.ownBlock = some k ∨ w.heap.size ≤ k
theorem join_calls (w : World) (b t : Nat) (cs : Array Value) (v : Value) (L : List Wt) (ht : t ≠ 119) (hb : Blk w b t cs) (hv : cs[0]? = some v) (hr : Row w 119 3 v L.length (wts L)) (hL : L.length ≤ 1000000) (x : Int) (r : Bool) :
    Calls Try.prog 81 #[.pointer (some ⟨b, 0, none⟩), .int .i64 x, .bool r] w (QPost w t b cs v (L ++ [⟨x, r, true⟩]) (.tuple #[])) := by
  have hu := Try.underlying113
  have hu2 := Try.underlying119
  obtain ⟨A, c, rfl, hnc, hcm⟩ := hr.form
  have hc := hb.cell 0
  rw [hv] at hc
  have hc0 := (hb.alloc (.cells #[.int .i64 x, .bool r, .bool true] 119)).cell 0
  rw [hv] at hc0
  have B := Lib.hid hb
  have HV := Lib.hid hv
  have R := Lib.hid hr
  have AP := Lib.hid (hr.apart hb (fun e => ht e.symm))
  have SRC := Lib.hid (U.Src.fresh w #[.int .i64 x, .bool r, .bool true] 119 3 1 rfl)
  have HM := Lib.hid hcm
  clear hb hv hr hcm
  go_enter Try.func81, Try.ntmps81
  go_wp2_with (at_builtin; refine wpList_app _ rfl EW (.tmp 10) (.tmp 14) rfl (R.out.alloc _) SRC.out 1 rfl rfl (by simp [Value.oneCell']) (by unfold maxLen; omega) (by omega) ?_)
  intro v2 w2 hr2 hg2 hl2
  obtain ⟨A2, c2, rfl, _, _⟩ := hr2.form
  have B2 := Lib.hid ((B.out.alloc (.cells #[.int .i64 x, .bool r, .bool true] 119)).grown hg2 AP.out)
  have hcell2 := B2.out.cell 0
  rw [HV.out] at hcell2
  have hfree2 := B2.out.free 0
  have R2 := Lib.hid hr2
  have G2 := Lib.hid hg2
  have L2 := Lib.hid hl2
  clear hr2 hg2 hl2
  go_wp2_with fail
  go_end0
  have hne : (Value.slice A2 (L.length + 1) c2).ownBlock ≠ some b := by
    rcases L2.out with h | h
    · rw [h]; exact AP.out
    · rw [h]; intro e; injection e with e; have := B.out.lt; omega
  refine ⟨rfl, _, B2.out.put 0 _, ?_, ?_, ?_⟩
  · have := R2.out.far (p := ⟨b, 0, none⟩) hne (.slice A2 (L.length + 1) c2)
    rw [wts_app, List.length_append]
    exact this
  · exact (((Keep.same _ w).alloc _).grown G2.out (fun i hi => .inl (.inr hi))).set (.inl (.inl rfl)) _
  · intro k hk
    rcases L2.out with h | h
    · exact .inl (by rw [← h]; exact hk)
    · right
      rw [h] at hk
      injection hk with hk
      omega
theorem clonew_calls (w : World) (A : Option Addr) (n c : Nat) (L : List Wt) (h : U.Src w A 3 n (wts L)) (hn : n ≤ 1000000) :
    Calls Try.prog 83 #[.slice A n c] w (fun e w' => ∃ A' c', e = .returned (.slice A' n c') ∧ Row w' 119 3 (.slice A' n c') n (wts L) ∧ Keep Nothing w w' ∧ ∀ k, (Value.slice A' n c').ownBlock = some k → w.heap.size ≤ k) := by
  have hL := wsrc_len h
  have H := Lib.hid h
  have hu26 := Try.underlying27
  have hz := fun (A : Option Addr) (n c : Nat) w => Lib.run_eql_slice_nil (P := Try.prog) w 27 119 A n c 0 0 Try.underlying27
  clear h
  cases A with
  | none =>
    have h0 : n = 0 := by
      rcases Nat.eq_zero_or_pos n with h | h
      · exact h
      · obtain ⟨ad, e, _⟩ := H.out.2 h
        cases e
    subst h0
    obtain rfl : L = [] := List.eq_nil_of_length_eq_zero hL
    go_enter Try.func83, Try.ntmps83
    go_wp2_with fail
    go_ret
    exact ⟨none, 0, rfl, Row.nil _ 119 3, Keep.same _ _, fun k hk => by simp [Value.ownBlock] at hk⟩
  | some ad =>
    have H2 := Lib.hid (show U.Src (w.alloc (.cells #[] 119)) (some ad) 3 n (wts L) from ⟨H.out.1, fun hn => by
      obtain ⟨ad', e, hc⟩ := H.out.2 hn
      exact ⟨ad', e, fun j u hu => ((Keep.same Nothing w).alloc _).cell (hc j u hu) (fun h => h)⟩⟩)
    have R0 := Lib.hid (Row.fresh w 119 3 0 #[] rfl (by unfold maxLen; omega))
    have h1 := wts_one L
    have O1 := Lib.hid h1
    clear h1
    go_enter Try.func83, Try.ntmps83
    go_wp2_with (at_builtin; refine wpList_app _ rfl EW (.tmp 5) (.tmp 6) rfl R0.out H2.out c rfl rfl O1.out (by unfold maxLen; omega) (by omega) ?_)
    intro v' w' hr hg hl
    obtain ⟨A', c', rfl, _, _⟩ := hr.form
    have R1 := Lib.hid hr
    have K1 := Lib.hid (((Keep.same Nothing w).alloc (.cells #[] 119)).grown hg (fun i hi => .inr (by simp [Value.ownBlock] at hi; omega)))
    have O := Lib.hid (show ∀ k, (Value.slice A' n c').ownBlock = some k → w.heap.size ≤ k by
      intro k hk
      rcases hl with h | h
      · rw [h] at hk; simp [Value.ownBlock] at hk; omega
      · rw [h] at hk; injection hk with hk; omega)
    clear hr hg hl
    try rw [List.nil_append] at R1
    go_wp2_with fail
    go_ret
    exact ⟨_, _, by simp, R1.out, K1.out, O.out⟩
theorem results_cell_row2 {P : Program} {fn : Func} {p u : Tmp} {ty : TypeId} (h : fn.results = #[.cell p ty, .tmp u]) (tmps : Array Value) (w : World) (g : Nat) (t : TypeId) (cs : Array Value) (fr : Nat × Nat) (d : TypeDesc)
    (hp : tmps.getD p undef = .pointer (some ⟨g, 0, none⟩)) (hg : w.heap[g]? = some (.cells cs t fr))
    (hu : P.underlying ty = some d) (hd : (match d with | .struct _ | .array _ _ => true | _ => false) = true) (hi : (P.info? ty).map (·.size) = some cs.size) :
    (results fn tmps).run P w = .ok (.tuple #[.agg cs, tmps.getD u undef]) w := by
  have hp' : tmps[p]?.getD undef = .pointer (some ⟨g, 0, none⟩) := by simpa using hp
  simp [results, h, hp', asAddr, run_loadVar_row w g t ty cs fr d hg hu hd hi]
def headW (L : List Wt) : Wt := L.headD ⟨0, false, false⟩
theorem front_calls (w : World) (b t : Nat) (cs : Array Value) (v : Value) (L : List Wt) (hb : Blk w b t cs) (hv : cs[0]? = some v) (hr : Row w 119 3 v L.length (wts L)) :
    Calls Try.prog 72 #[.pointer (some ⟨b, 0, none⟩)] w (fun e w' => e = .returned (.tuple #[(headW L).val, .bool (!L.isEmpty)]) ∧ Keep Nothing w w') := by
  have hu := Try.underlying113
  have hu2 := Try.underlying119
  obtain ⟨A, c, rfl, hnc, hcm⟩ := hr.form
  have hlen := hr.len
  unfold maxLen at hlen
  have hc := (hb.alloc (.cells #[.int .i64 0, .bool false, .bool false] 119)).cell 0
  rw [hv] at hc
  cases L with
  | nil =>
    clear hb hv hr hcm
    go_enter Try.func72, Try.ntmps72
    go_wp2_with fail
    refine bodyPost_ret (results_cell_row2 rfl _ _ w.heap.size 119 (Wt.cs ⟨0, false, false⟩) (0, 0) _ rfl (Blk.fresh w 119 _) hu2 rfl (by kernel_rfl)) rfl ?_
    exact ⟨rfl, (Keep.same Nothing w).alloc _⟩
  | cons y L =>
    obtain ⟨ad, y', rfl, hy, he⟩ := wt_at hr.src (k := 0) (by simp)
    simp at hy
    subst hy
    obtain ⟨c0, c1, c2⟩ := he.keep ((Keep.same Nothing w).alloc (.cells #[.int .i64 0, .bool false, .bool false] 119)) (fun h => h)
    simp only [Nat.zero_mul] at c0 c1 c2
    have e0 : ad.add 0 = ad := by unfold Addr.add; simp
    rw [e0] at c0 c1 c2
    clear hb hv hr hcm he
    go_enter Try.func72, Try.ntmps72
    go_wp2_with fail
    refine bodyPost_ret (results_cell_row2 rfl _ _ w.heap.size 119 y.cs (0, 0) _ rfl (Blk.fresh w 119 _) hu2 rfl (by kernel_rfl)) rfl ?_
    exact ⟨rfl, (Keep.same Nothing w).alloc _⟩
theorem leave_calls (w : World) (b t : Nat) (cs : Array Value) (v : Value) (L : List Wt) (ht : t ≠ 119) (hb : Blk w b t cs) (hv : cs[0]? = some v) (hr : Row w 119 3 v L.length (wts L)) (hL : L.length ≤ 1000000) (h0 : 0 < L.length) :
    Calls Try.prog 74 #[.pointer (some ⟨b, 0, none⟩)] w (QPost w t b cs v (L.drop 1) (.tuple #[])) := by
  have hu := Try.underlying113
  obtain ⟨A, c, rfl, hnc, hcm⟩ := hr.form
  have hc := hb.cell 0
  rw [hv] at hc
  have B := Lib.hid hb
  have HV := Lib.hid hv
  have R := Lib.hid hr
  have hd := hr.drop_ (k := 1) (by omega)
  rw [show 1 * 3 = 3 from rfl, ← Nat.one_mul 3, wts_drop] at hd
  obtain ⟨A1, hA1, hs1⟩ : ∃ A1 : Option Addr, A1 = (if c = 1 then A else A.map (·.add (1 * 3))) ∧ ∀ w : World, (Instr.slice 27 (.slice A L.length c) (some (.int .i64 1)) none none).run Try.prog w = .ok (.slice A1 (L.length - 1) (c - 1)) w := ⟨_, rfl, fun w => run_from (P := Try.prog) w EW A L.length c 1 1 rfl (by omega)⟩
  rw [← hA1] at hd
  have HC := Lib.hid (clonew_calls w A1 (L.length - 1) (c - 1) (L.drop 1) hd.src (by omega))
  clear hA1 hd hb hv hr hcm
  go_enter Try.func74, Try.ntmps74
  go_wp2_with fail
  refine HC.out.mono ?_
  rintro e w2 ⟨A2, c2, rfl, hr2, hk2, ho2⟩
  have R2 := Lib.hid hr2
  have K2 := Lib.hid hk2
  have O2 := Lib.hid ho2
  have B2 := Lib.hid (B.out.keep hk2 (fun h => h))
  have hcell2 := B2.out.cell 0
  rw [HV.out] at hcell2
  have hfree2 := B2.out.free 0
  clear hr2 hk2 ho2
  go_wp2_with fail
  go_end0
  have hne : (Value.slice A2 (L.length - 1) c2).ownBlock ≠ some b := fun e => by have := O2.out b e; have := B.out.lt; omega
  refine ⟨rfl, _, B2.out.put 0 _, ?_, ?_, ?_⟩
  · have := R2.out.far (p := ⟨b, 0, none⟩) hne (.slice A2 (L.length - 1) c2)
    rw [List.length_drop]
    exact this
  · exact (K2.out.wider (fun i h => h.elim)).set (.inl (.inl rfl)) _
  · exact fun k hk => .inr (O2.out k hk)
end Go.Proofs.Ytmohpjkbhpgidaa.A
