/-
  The reference's rwlock: fits, give, Lock.
-/
import Derived.Test.YtmohpjkbhpgidaaRL
namespace Go.Proofs.Ytmohpjkbhpgidaa.A
open Go.RowKit Go.Proofs.Ytmohpjkbhpgidaa.U
set_option linter.unusedVariables false
set_option linter.unusedSimpArgs false
set_option maxRecDepth 100000

def rrP (b : Nat) (W : List Int) (wb : Bool) (L : List Wt) : SP := fun w F => ∃ u v, Blk w b 29 #[u, .bool wb, v] ∧ Row w 119 3 v L.length (wts L) ∧ Row w 3 1 u W.length (ints W) ∧ ∀ k, F k ↔ k = b ∨ v.ownBlock = some k ∨ u.ownBlock = some k
theorem rrP_stable (b : Nat) (W : List Int) (wb : Bool) (L : List Wt) : Stable (rrP b W wb L) where
  keep := fun ⟨u, v, hb, hr, hs, hF⟩ hk hn => ⟨u, v, hb.keep hk (hn b ((hF b).2 (.inl rfl))), hr.keep hk (fun g hg => hn g ((hF g).2 (.inr (.inl hg)))), hs.keep hk (fun g hg => hn g ((hF g).2 (.inr (.inr hg)))), hF⟩
  lt := fun ⟨u, v, hb, hr, hs, hF⟩ hk => by
    rcases (hF _).1 hk with h | h | h
    · rw [h]; exact hb.lt
    · exact hr.lt _ h
    · exact hs.lt _ h
theorem rrP_new (w : World) : rrP w.heap.size [] false [] (w.alloc (.cells #[.slice none 0 0, .bool false, .slice none 0 0] 29)) (fun k => k = w.heap.size) :=
  ⟨.slice none 0 0, .slice none 0 0, Blk.fresh w 29 _, Row.nil _ 119 3, Row.nil _ 3 1, fun k => by simp [Value.ownBlock]⟩
theorem rrP_step {w w' : World} {b : Nat} {W' : List Int} {wb' : Bool} {L' : List Wt} {v u v' u' : Value} {F : Nat → Prop} (hF : ∀ k, F k ↔ k = b ∨ v.ownBlock = some k ∨ u.ownBlock = some k)
    (hk : Keep (fun k => k = b ∨ v.ownBlock = some k ∨ u.ownBlock = some k) w w') (hb : Blk w' b 29 #[u', .bool wb', v']) (hr : Row w' 119 3 v' L'.length (wts L')) (hs : Row w' 3 1 u' W'.length (ints W'))
    (ho : ∀ k, v'.ownBlock = some k → v.ownBlock = some k ∨ w.heap.size ≤ k) (hp : ∀ k, u'.ownBlock = some k → u.ownBlock = some k ∨ w.heap.size ≤ k) : Step w F (rrP b W' wb' L') w' :=
  ⟨fun k => k = b ∨ v'.ownBlock = some k ∨ u'.ownBlock = some k, ⟨u', v', hb, hr, hs, fun _ => Iff.rfl⟩, hk.wider (fun i hi => .inl ((hF i).2 hi)), fun k hk => by
    rcases hk with h | h | h
    · exact .inl ((hF k).2 (.inl h))
    · exact (ho k h).imp (fun h => (hF k).2 (.inr (.inl h))) id
    · exact (hp k h).imp (fun h => (hF k).2 (.inr (.inr h))) id⟩
theorem fits_calls (w : World) (b : Nat) (v u : Value) (W : List Int) (wb : Bool) (hb : Blk w b 29 #[u, .bool wb, v]) (hs : Row w 3 1 u W.length (ints W)) (r : Bool) :
    Calls Try.prog 77 #[.pointer (some ⟨b, 0, none⟩), .bool r] w (fun e w' => e = .returned (.bool (openB W wb r)) ∧ w' = w) := by
  have hu := Try.underlying29
  obtain ⟨A, c, rfl, _, _⟩ := hs.form
  have hc0 := hb.cell 0
  have hc1 := hb.cell 1
  clear hb hs
  cases W with
  | nil =>
    go_enter Try.func77, Try.ntmps77
    go_wp2_with fail
    go_ret
    exact ⟨rfl, rfl⟩
  | cons y W =>
    have g0 : (((W.length + 1 : Nat) : Int) == 0) = false := by rw [beq_eq_false_iff_ne]; omega
    cases r with
    | false =>
      go_enter Try.func77, Try.ntmps77
      go_wp2_with fail
      go_ret
      exact ⟨rfl, rfl⟩
    | true =>
      go_enter Try.func77, Try.ntmps77
      go_wp2_with fail
      go_ret
      exact ⟨by cases wb <;> rfl, rfl⟩
theorem rgive_calls (w : World) (b : Nat) (F : Nat → Prop) (W : List Int) (wb : Bool) (L : List Wt) (hm : rrP b W wb L w F) (hW : W.length ≤ 1000000) (x : Int) (r : Bool) :
    Calls Try.prog 78 #[.pointer (some ⟨b, 0, none⟩), .int .i64 x, .bool r] w (fun e w' => e = .returned (.tuple #[]) ∧ Step w F (rrP b (putI W x) (!r) L) w') := by
  have hu := Try.underlying29
  obtain ⟨u, v, hb, hr, hs, hF⟩ := hm
  obtain ⟨A, c, rfl, hcc, _⟩ := hs.form
  have hc0 := hb.cell 0
  have B := Lib.hid hb
  have S := Lib.hid hs
  have R := Lib.hid hr
  have FF := Lib.hid hF
  have AP := Lib.hid (hr.apart hb (by decide))
  have HP := Lib.hid (put_calls w A W.length c W x hs.src hW hcc)
  clear hb hs hr hF
  go_enter Try.func78, Try.ntmps78
  go_wp2_with fail
  refine HP.out.mono ?_
  rintro e w1 ⟨A1, c1, rfl, hr1, hk1, ho1⟩
  have R1 := Lib.hid hr1
  have K1 := Lib.hid hk1
  have O1 := Lib.hid ho1
  have B1 := Lib.hid (B.out.keep hk1 (fun h => h))
  have f0 := B1.out.free 0
  have e0 := B1.out.cell 0
  have B2 := Lib.hid (B1.out.put 0 (.slice A1 (putI W x).length c1))
  have f1 := B2.out.free 1
  have d1 := B2.out.cell 1
  clear hr1 hk1 ho1 hc0
  go_wp2_with fail
  go_end0
  have hne : (Value.slice A1 (putI W x).length c1).ownBlock ≠ some b := fun e => by
    have := O1.out b e
    have := B.out.lt
    omega
  refine ⟨rfl, rrP_step FF.out ?_ (B2.out.put 1 _) ?_ ?_ (fun k hk => .inl hk) (fun k hk => .inr (O1.out k hk))⟩
  · exact ((K1.out.wider (fun i h => h.elim)).set (p := ⟨b, 0, none⟩) (.inl (.inl rfl)) _).set (p := ⟨b, 1, none⟩) (.inl (.inl rfl)) _
  · exact ((R.out.keep K1.out (fun _ _ h => h)).far (p := ⟨b, 0, none⟩) AP.out _).far (p := ⟨b, 1, none⟩) AP.out _
  · exact (R1.out.far (p := ⟨b, 0, none⟩) hne _).far (p := ⟨b, 1, none⟩) hne _
theorem hasW_take {L : List Wt} {k : Nat} {y : Wt} (h : L[k]? = some y) (x : Int) : hasW (L.take (k + 1)) x = (hasW (L.take k) x || y.t == x) := by
  unfold hasW
  rw [List.take_add_one, h, List.any_append]
  simp
theorem cap16 {n : Nat} (h : n ≤ 1000000) : (n + 1) * 16 ≤ 140737488355328 := by omega
theorem capL {n : Nat} (h : n ≤ 1000000) : n + 1 ≤ maxLen := by unfold maxLen; omega
set_option maxHeartbeats 6400000 in
theorem rlock_calls (w : World) (b : Nat) (F : Nat → Prop) (W : List Int) (wb : Bool) (L : List Wt) (hm : rrP b W wb L w F) (hL : L.length ≤ 1000000) (hW : W.length ≤ 1000000) (x : Int) (r : Bool) :
    Calls Try.prog 24 #[.pointer (some ⟨b, 0, none⟩), .int .i64 x, .bool r] w (fun e w' => e = .returned (.tuple #[.bool (rwLock W wb L x r).1, .int .i64 (rwLock W wb L x r).2.1]) ∧ Step w F (rrP b (rwLock W wb L x r).2.2.1 (rwLock W wb L x r).2.2.2.1 (rwLock W wb L x r).2.2.2.2) w') := by
  have hu := Try.underlying29
  have hu2 := Try.underlying119
  have HM := Lib.hid hm
  obtain ⟨u, v, hb, hr, hs, hF⟩ := hm
  obtain ⟨A, c, rfl, hcc, _⟩ := hs.form
  obtain ⟨A', c', rfl, hcc', _⟩ := hr.form
  have B := Lib.hid hb
  have R := Lib.hid hr
  have S := Lib.hid hs
  have FF := Lib.hid hF
  have AP := Lib.hid (hr.apart hb (by decide))
  have AQ := Lib.hid (hs.apart hb (by decide))
  have HC := Lib.hid (has_calls w A W.length c W x hs.src hW)
  have hc0 := hb.cell 0
  have hc1 := hb.cell 1
  have hc2 := hb.cell 2
  have hf2 := hb.free 2
  clear hb hr hs hF
  by_cases hx : x < 0
  · have E := Lib.hid (show rwLock W wb L x r = (false, 1, W, wb, L) by unfold rwLock; rw [if_pos hx])
    go_enter Try.func24, Try.ntmps24
    go_wp2_with fail
    go_ret2
    rw [E.out]
    exact ⟨rfl, Step.none_ (rrP_stable b W wb L) HM.out (Keep.same _ _)⟩
  · have g0 : decide (x < 0) = false := decide_eq_false hx
    have E1 := Lib.hid (show (decide (x ∈ W) || hasW L x) = true → rwLock W wb L x r = (false, 12, W, wb, L) from fun h => by unfold rwLock; rw [if_neg hx, h]; rfl)
    have E2 := Lib.hid (show (decide (x ∈ W) || hasW L x) = false → rwLock W wb L x r = if !L.isEmpty || !openB W wb r then (false, 0, W, wb, L ++ [⟨x, r, true⟩]) else (true, 0, putI W x, !r, L) from fun h => by unfold rwLock; rw [if_neg hx, h]; rfl)
    clear hx
    go_enter Try.func24, Try.ntmps24
    go_wp2_with fail
    refine HC.out.mono ?_
    rintro e w1 ⟨rfl, rfl⟩
    go_wp2_with fail
    go_loopw [8, 9] (fun v8 v9 wr2 => wr2 = w1 ∧ ∃ k : Nat, k ≤ L.length ∧ v9 = .int .i64 k ∧ v8 = .bool (decide (x ∈ W) || hasW (L.take k) x)) (fun _ v9 _ => L.length - (intOf v9).toNat)
    case atStart => exact ⟨by trivial, 0, by omega, by simp, by simp [hasW]⟩
    case round =>
      obtain ⟨rfl, k, hk, rfl, rfl⟩ := hrel
      by_cases hlt : k < L.length
      · obtain ⟨ad, y, rfl, hy, he⟩ := wt_at R.out.src hlt
        obtain ⟨c0, c1, c2'⟩ := he
        have HT := Lib.hid (hasW_take hy x)
        clear hy
        cases hh : (decide (x ∈ W) || hasW (L.take k) x) with
        | true =>
          have HH := Lib.hid hh
          clear hh
          go_wp2_with fail
          go_roundw
          case rel => exact ⟨by trivial, k + 1, by omega, by go_num, by rw [HT.out, ← Bool.or_assoc, HH.out]; rfl⟩
          case measure => simp [intOf]; omega
        | false =>
          have HH := Lib.hid hh
          clear hh
          go_wp2_with fail
          go_roundw
          case rel => exact ⟨by trivial, k + 1, by omega, by go_num, by rw [HT.out, ← Bool.or_assoc, HH.out]; rfl⟩
          case measure => simp [intOf]; omega
      · obtain rfl : k = L.length := by omega
        rw [List.take_length]
        cases hh : (decide (x ∈ W) || hasW L x) with
        | true =>
          have E := Lib.hid (E1.out hh)
          clear hh
          go_wp2_with fail
          go_ret2
          rw [E.out]
          exact ⟨rfl, Step.none_ (rrP_stable b W wb L) HM.out (Keep.same _ _)⟩
        | false =>
          have E := Lib.hid (E2.out hh)
          clear hh
          cases L with
          | cons y l =>
            have hL' : l.length + 1 ≤ 1000000 := by simpa using hL
            have E' := Lib.hid (show rwLock W wb (y :: l) x r = (false, 0, W, wb, (y :: l) ++ [⟨x, r, true⟩]) from E.out)
            have O1 := Lib.hid (wts_one (y :: l))
            have O2 := Lib.hid (wts_one [⟨x, r, true⟩])
            have RR := Lib.hid (show U.Src wr A' 3 (y :: l).length (wts (y :: l)) from R.out.src)
            have d1 : 0 + (y :: l).length ≤ maxLen := by unfold maxLen; omega
            have d2 : (0 + (y :: l).length) * 16 ≤ 140737488355328 := by omega
            go_wp2_with (at_builtin; refine wpList_app _ rfl EW (.const (.slice none 0 0)) (.tmp 60) rfl (Row.nil wr 119 3) RR.out c' rfl rfl O1.out d1 d2 ?_)
            intro v1 w5 hr1 hg1 hl1
            obtain ⟨A1, c1, rfl, _, _⟩ := hr1.form
            have R1 := Lib.hid hr1
            have FG1 := Lib.hid (fresh_grew (A2 := none) (k := 0) (c2 := 0) (A3 := A1) (c3 := c1) (Keep.same Nothing wr) (fun g hg => by simp [Value.ownBlock] at hg) hg1 hl1)
            have e3 : l.length + 1 + 1 ≤ maxLen := capL hL'
            have e4 : (l.length + 1 + 1) * 16 ≤ 140737488355328 := cap16 hL'
            have SRC := Lib.hid (U.Src.fresh w5 #[.int .i64 x, .bool r, .bool true] 119 3 1 rfl)
            clear hr1 hg1 hl1
            go_wp2_with (at_builtin; refine wpList_app _ rfl EW (.tmp 61) (.tmp 65) rfl (R1.out.alloc _) SRC.out 1 rfl rfl (by simp [Value.oneCell']) e3 e4 ?_)
            intro v2 w6 hr2 hg2 hl2
            obtain ⟨A2, c2, rfl, _, _⟩ := hr2.form
            have R2 := Lib.hid hr2
            have FG2 := Lib.hid (fresh_grew (FG1.out.1.alloc (.cells #[.int .i64 x, .bool r, .bool true] 119)) FG1.out.2 hg2 (by simpa using hl2))
            have B2 := Lib.hid (B.out.keep FG2.out.1 (fun h => h))
            have f2 := B2.out.free 2
            have e2 := B2.out.cell 2
            clear hr2 hg2 hl2
            go_wp2_with fail
            go_ret2
            rw [E'.out]
            have hne : ∀ g, (Value.slice A2 ((l.length + 1) + 1) c2).ownBlock = some g → g ≠ b := fun g hg e => by
              have := FG2.out.2 g hg
              have := B.out.lt
              omega
            refine ⟨rfl, rrP_step FF.out ((FG2.out.1.wider (fun i h => h.elim)).set (p := ⟨b, 2, none⟩) (.inl (.inl rfl)) _) (B2.out.put 2 _) ?_ ?_ (fun k hk => .inr (FG2.out.2 k hk)) (fun k hk => .inl hk)⟩
            · have := R2.out.far (p := ⟨b, 2, none⟩) (fun e => hne b e rfl) (.slice A2 ((l.length + 1) + 1) c2)
              rw [List.length_append, wts_app]
              exact this
            · exact (S.out.keep FG2.out.1 (fun _ _ h => h)).far (p := ⟨b, 2, none⟩) AQ.out _
          | nil =>
            have HF := Lib.hid (fits_calls wr b (.slice A' 0 c') (.slice A W.length c) W wb B.out S.out r)
            cases hop : openB W wb r with
            | true =>
              rw [hop] at HF E
              have HG := Lib.hid (rgive_calls wr b F W wb [] HM.out hW x r)
              clear hop
              go_wp2_with fail
              refine HF.out.mono ?_
              rintro e w2 ⟨rfl, rfl⟩
              go_wp2_with fail
              refine HG.out.mono ?_
              rintro e w3 ⟨rfl, hst⟩
              have ST := Lib.hid hst
              clear hst
              go_wp2_with fail
              go_ret2
              rw [E.out]
              exact ⟨rfl, ST.out⟩
            | false =>
              rw [hop] at HF E
              clear hop
              go_wp2_with fail
              refine HF.out.mono ?_
              rintro e w2 ⟨rfl, rfl⟩
              have E' := Lib.hid (show rwLock W wb ([] : List Wt) x r = (false, 0, W, wb, ([] : List Wt) ++ [⟨x, r, true⟩]) from E.out)
              have O1 := Lib.hid (wts_one ([] : List Wt))
              have O2 := Lib.hid (wts_one [⟨x, r, true⟩])
              have RR := Lib.hid (show U.Src w2 A' 3 ([] : List Wt).length (wts ([] : List Wt)) from R.out.src)
              have d1 : 0 + ([] : List Wt).length ≤ maxLen := by simp
              have d2 : (0 + ([] : List Wt).length) * 16 ≤ 140737488355328 := by simp
              go_wp2_with (at_builtin; refine wpList_app _ rfl EW (.const (.slice none 0 0)) (.tmp 60) rfl (Row.nil w2 119 3) RR.out c' rfl rfl O1.out d1 d2 ?_)
              intro v1 w5 hr1 hg1 hl1
              obtain ⟨A1, c1, rfl, _, _⟩ := hr1.form
              have R1 := Lib.hid hr1
              have FG1 := Lib.hid (fresh_grew (A2 := none) (k := 0) (c2 := 0) (A3 := A1) (c3 := c1) (Keep.same Nothing w2) (fun g hg => by simp [Value.ownBlock] at hg) hg1 hl1)
              have e3 : 0 + 1 ≤ maxLen := by simp [maxLen]
              have e4 : (0 + 1) * 16 ≤ 140737488355328 := by omega
              have SRC := Lib.hid (U.Src.fresh w5 #[.int .i64 x, .bool r, .bool true] 119 3 1 rfl)
              clear hr1 hg1 hl1
              go_wp2_with (at_builtin; refine wpList_app _ rfl EW (.tmp 61) (.tmp 65) rfl (R1.out.alloc _) SRC.out 1 rfl rfl (by simp [Value.oneCell']) e3 e4 ?_)
              intro v2 w6 hr2 hg2 hl2
              obtain ⟨A2, c2, rfl, _, _⟩ := hr2.form
              have R2 := Lib.hid hr2
              have FG2 := Lib.hid (fresh_grew (FG1.out.1.alloc (.cells #[.int .i64 x, .bool r, .bool true] 119)) FG1.out.2 hg2 (by simpa using hl2))
              have B2 := Lib.hid (B.out.keep FG2.out.1 (fun h => h))
              have f2 := B2.out.free 2
              have e2 := B2.out.cell 2
              clear hr2 hg2 hl2
              go_wp2_with fail
              go_ret2
              rw [E'.out]
              have hne : ∀ g, (Value.slice A2 (0 + 1) c2).ownBlock = some g → g ≠ b := fun g hg e => by
                have := FG2.out.2 g hg
                have := B.out.lt
                omega
              refine ⟨rfl, rrP_step FF.out ((FG2.out.1.wider (fun i h => h.elim)).set (p := ⟨b, 2, none⟩) (.inl (.inl rfl)) _) (B2.out.put 2 _) ?_ ?_ (fun k hk => .inr (FG2.out.2 k hk)) (fun k hk => .inl hk)⟩
              · have := R2.out.far (p := ⟨b, 2, none⟩) (fun e => hne b e rfl) (.slice A2 (0 + 1) c2)
                rw [List.length_append, wts_app]
                exact this
              · exact (S.out.keep FG2.out.1 (fun _ _ h => h)).far (p := ⟨b, 2, none⟩) AQ.out _
end Go.Proofs.Ytmohpjkbhpgidaa.A
