/-
  The waitgroup's others, the reference's waitgroup.
-/
import Derived.Test.YtmohpjkbhpgidaaB
namespace Go.Proofs.Ytmohpjkbhpgidaa.A
open Go.RowKit Go.Proofs.Ytmohpjkbhpgidaa.U
set_option linter.unusedVariables false
set_option linter.unusedSimpArgs false
set_option maxRecDepth 100000

theorem gnew_calls (w : World) : Calls Try.prog 46 #[] w (fun e w' => e = .returned (.pointer (some ⟨w.heap.size, 0, none⟩)) ∧ w' = w.alloc (.cells #[.int .i64 0, .slice none 0 0] 135)) := by
  go_enter Try.func46, Try.ntmps46
  go_wp2_with fail
  go_ret
  exact ⟨rfl, rfl⟩
/-- Numbers are put behind those of a row. -/
theorem q_push {w w1 w2 : World} {t b o : Nat} {cs cs' : List Value} {L : List Int} {x : Int} {v v' : Value} {n : Nat} {F : Nat → Prop} (ht : t ≠ 3) (hn : n = L.length) (hl : cs'.length = cs.length) (ho : o = cs.length) (hb : Blk w b t (cs ++ [v]).toArray) (hr : Row w 3 1 v n (ints L)) (hF : ∀ k, F k ↔ k = b ∨ v.ownBlock = some k)
    (h1 : Keep Nothing w w1) (hg : w1.grownBy w2 v.ownBlock) (hlo : v'.ownBlock = v.ownBlock ∨ ∃ k, v'.ownBlock = some k ∧ w.heap.size ≤ k) (hr' : Row w2 3 1 v' (n + 1) (ints L ++ [.int .i64 x])) :
    Step w F (qP t b cs (L ++ [x])) (w2.setCell ⟨b, o, none⟩ v') := by
  subst hn
  have hb1 := hb.keep h1 (fun h => h)
  have hr1 := hr.keep h1 (fun _ _ h => h)
  have hb2 := hb1.grown hg (hr1.apart hb1 (fun e => ht e.symm))
  have hne := hr'.apart hb2 (fun e => ht e.symm)
  have hb3 := hb2.put o v'
  have hsz := h1.size
  have hset : (cs ++ [v]).toArray.setIfInBounds o v' = (cs ++ [v']).toArray := by
    subst ho
    simp [List.set_append_right]
  rw [hset] at hb3
  refine ⟨fun k => k = b ∨ v'.ownBlock = some k, ⟨v', hb3, ?_, fun _ => Iff.rfl⟩, ?_, fun k hk => ?_⟩
  · rw [List.length_append, ints_app]
    exact hr'.keep ((Keep.same (fun i => i = b) w2).set (p := ⟨b, o, none⟩) (.inl rfl) v') (fun g hg e => hne (by rw [hg, e]))
  · exact ((((Keep.same F w).trans h1 (fun _ h => h.elim)).grown hg (fun i hi => .inl ((hF i).2 (.inr hi)))).set (p := ⟨b, o, none⟩) (.inl ((hF b).2 (.inl rfl))) v')
  · rcases hk with hk | hk
    · exact .inl ((hF k).2 (.inl hk))
    · rcases hlo with h | ⟨g, h, hg⟩
      · exact .inl ((hF k).2 (.inr (h ▸ hk)))
      · rw [h] at hk; injection hk with hk; right; omega
theorem lhas_calls (w : World) (b o : Nat) (t : Nat) (cs : Array Value) (A : Option Addr) (n c : Nat) (L : List Int) (x : Int) (hb : Blk w b t cs) (hv : cs[o]? = some (.slice A n c)) (hr : Src w A 1 n (ints L)) (hn : n ≤ 1000000) :
    Calls Try.prog 86 #[.pointer (some ⟨b, o, none⟩), .int .i64 x] w (fun e w' => e = .returned (.bool (decide (x ∈ L))) ∧ w' = w) := by
  have hu := Try.underlying130
  have hc := hb.cell o
  rw [hv] at hc
  have H := Lib.hid (contains_calls w A n c L x hr hn)
  clear hb hr
  go_enter Try.func86, Try.ntmps86
  go_wp2_with fail
  refine H.out.mono ?_
  rintro e w' ⟨rfl, rfl⟩
  go_wp2_with fail
  go_ret
  exact ⟨rfl, rfl⟩
theorem ladd_calls (w : World) (t b o : Nat) (cs : List Value) (L : List Int) (x : Int) (F : Nat → Prop) (h : qP t b cs L w F) (ht : t ≠ 3) (ho : o = cs.length) (hL : L.length ≤ 1000000) :
    Calls Try.prog 87 #[.pointer (some ⟨b, o, none⟩), .int .i64 x] w (fun e w' => e = .returned (.tuple #[]) ∧ Step w F (qP t b cs (L ++ [x])) w') := by
  have hu := Try.underlying130
  obtain ⟨v, hb, hr, hF⟩ := h
  obtain ⟨A, c, rfl, _, _⟩ := hr.form
  have hc := hb.cell o
  rw [show (cs ++ [Value.slice A L.length c]).toArray[o]? = some (.slice A L.length c) by subst ho; simp] at hc
  have B := Lib.hid hb
  have R := Lib.hid hr
  have FF := Lib.hid hF
  have HO := Lib.hid ho
  clear hb hr hF ho
  go_enter Try.func87, Try.ntmps87
  go_wp2_with (at_builtin; refine wpList_app _ rfl E26 (.tmp 8) (.tmp 10) rfl (R.out.alloc _) (Src.one w (.int .i64 x) 3) 1 rfl rfl (by simp [Value.oneCell']) (by unfold maxLen; omega) (by omega) ?_)
  intro v2 w2 hr2 hg2 hl2
  obtain ⟨A2, c2, rfl, _, _⟩ := hr2.form
  have B2 := Lib.hid ((B.out.alloc _).grown hg2 (R.out.apart B.out (fun e => ht e.symm)))
  have hcell2 := B2.out.cell o
  rw [show (cs ++ [Value.slice A L.length c]).toArray[o]? = some (.slice A L.length c) by have := HO.out; subst this; simp] at hcell2
  have hfree2 := B2.out.free o
  have P2 := Lib.hid (q_push (o := o) (cs' := cs) ht rfl rfl HO.out B.out R.out FF.out ((Keep.same _ _).alloc _) hg2 (hl2.imp id (fun h => ⟨_, h, by omega⟩)) hr2)
  clear hr2 hg2 hl2
  go_wp2_with fail
  go_end0
  exact ⟨rfl, P2.out⟩
/-! ### Wait -/
def wB (n : Int) (L : List Int) (x : Int) : Bool := decide (0 ≤ x) && !decide (x ∈ L) && decide (n = 0)
def wE (L : List Int) (x : Int) : Int := if x < 0 then 1 else if x ∈ L then 12 else 0
def wL (n : Int) (L : List Int) (x : Int) : List Int := if x < 0 ∨ x ∈ L ∨ n = 0 then L else L ++ [x]
def WaitPost (w : World) (F : Nat → Prop) (t b : Nat) (n x : Int) (L : List Int) (e : Ending) (w' : World) : Prop :=
  e = .returned (.tuple #[.bool (wB n L x), .int .i64 (wE L x)]) ∧ Step w F (qP t b [.int .i64 n] (wL n L x)) w'
set_option maxHeartbeats 800000 in
theorem wait_calls (w : World) (b : Nat) (F : Nat → Prop) (n x : Int) (L : List Int) (h : qP 135 b [.int .i64 n] L w F) (hL : L.length ≤ 1000000) :
    Calls Try.prog 47 #[.pointer (some ⟨b, 0, none⟩), .int .i64 x] w (WaitPost w F 135 b n x L) := by
  have hu := Try.underlying135
  have hu2 := Try.underlying130
  have HA := Lib.hid (ladd_calls w 135 b 1 [.int .i64 n] L x F h (by decide) rfl hL)
  have HS := Lib.hid (Step.none_ (qP_stable 135 b [.int .i64 n] L) h (Keep.same _ w))
  obtain ⟨v, hb, hr, hF⟩ := h
  obtain ⟨A, c, rfl, _, _⟩ := hr.form
  have HH := Lib.hid (lhas_calls w b 1 135 _ A L.length c L x hb rfl hr.src hL)
  have hc0 := hb.cell 0
  clear hb hr hF
  by_cases hx : x < 0
  · have E := Lib.hid (show wE L x = 1 by unfold wE; rw [if_pos hx])
    have EB := Lib.hid (show wB n L x = false by unfold wB; rw [decide_eq_false (by omega)]; rfl)
    have EL := Lib.hid (show wL n L x = L by unfold wL; rw [if_pos (.inl hx)])
    go_enter Try.func47, Try.ntmps47
    go_wp2_with fail
    go_ret2
    exact ⟨by rw [E.out, EB.out]; rfl, by rw [EL.out]; exact HS.out⟩
  · by_cases hm : x ∈ L
    · have E := Lib.hid (show wE L x = 12 by unfold wE; rw [if_neg hx, if_pos hm])
      have EB := Lib.hid (show wB n L x = false by unfold wB; rw [decide_eq_true hm]; simp)
      have EL := Lib.hid (show wL n L x = L by unfold wL; rw [if_pos (.inr (.inl hm))])
      rw [decide_eq_true hm] at HH
      have g0 : decide (x < 0) = false := decide_eq_false hx
      clear hm
      go_enter Try.func47, Try.ntmps47
      go_wp2_with fail
      refine HH.out.mono ?_
      rintro e w' ⟨rfl, rfl⟩
      go_wp2_with fail
      go_ret2
      exact ⟨by rw [E.out, EB.out]; rfl, by rw [EL.out]; exact HS.out⟩
    · have E := Lib.hid (show wE L x = 0 by unfold wE; rw [if_neg hx, if_neg hm])
      rw [decide_eq_false hm] at HH
      have g0 : decide (x < 0) = false := decide_eq_false hx
      by_cases hn : n = 0
      · have EB := Lib.hid (show wB n L x = true by unfold wB; rw [decide_eq_false hm, decide_eq_true hn, decide_eq_true (by omega)]; rfl)
        have EL := Lib.hid (show wL n L x = L by unfold wL; rw [if_pos (.inr (.inr hn))])
        have g1 : (n == 0) = true := by rw [beq_iff_eq]; exact hn
        clear hm hn
        go_enter Try.func47, Try.ntmps47
        go_wp2_with fail
        refine HH.out.mono ?_
        rintro e w' ⟨rfl, rfl⟩
        go_wp2_with fail
        go_ret2
        exact ⟨by rw [E.out, EB.out]; rfl, by rw [EL.out]; exact HS.out⟩
      · have EB := Lib.hid (show wB n L x = false by unfold wB; rw [decide_eq_false hn]; simp)
        have EL := Lib.hid (show wL n L x = L ++ [x] by unfold wL; rw [if_neg (by rintro (h | h | h); exact hx h; exact hm h; exact hn h)])
        have g1 : (n == 0) = false := by rw [beq_eq_false_iff_ne]; exact hn
        clear hm hn
        go_enter Try.func47, Try.ntmps47
        go_wp2_with fail
        refine HH.out.mono ?_
        rintro e w' ⟨rfl, rfl⟩
        go_wp2_with fail
        refine HA.out.mono ?_
        rintro e w2 ⟨rfl, hs⟩
        have S := Lib.hid hs
        clear hs
        go_wp2_with fail
        go_ret2
        exact ⟨by rw [E.out, EB.out]; rfl, by rw [EL.out]; exact S.out⟩
theorem count_calls (w : World) (b : Nat) (F : Nat → Prop) (n : Int) (L : List Int) (h : qP 135 b [.int .i64 n] L w F) :
    Calls Try.prog 51 #[.pointer (some ⟨b, 0, none⟩)] w (fun e w' => e = .returned (.int .i64 n) ∧ w' = w) := by
  have hu := Try.underlying135
  obtain ⟨v, hb, hr, hF⟩ := h
  have hc0 := hb.cell 0
  clear hb hr hF
  go_enter Try.func51, Try.ntmps51
  go_wp2_with fail
  go_ret
  exact ⟨rfl, rfl⟩
theorem queue_calls (w : World) (b : Nat) (F : Nat → Prop) (n : Int) (L : List Int) (h : qP 135 b [.int .i64 n] L w F) (hL : L.length ≤ 1000000) :
    Calls Try.prog 52 #[.pointer (some ⟨b, 0, none⟩)] w (fun e w' => ∃ A c, e = .returned (.slice A L.length c) ∧ Row w' 3 1 (.slice A L.length c) L.length (ints L) ∧ Keep Nothing w w' ∧ ∀ k, (Value.slice A L.length c).ownBlock = some k → w.heap.size ≤ k) := by
  have hu := Try.underlying135
  have hu2 := Try.underlying130
  obtain ⟨v, hb, hr, hF⟩ := h
  obtain ⟨A, c, rfl, _, _⟩ := hr.form
  have H := Lib.hid (clone_calls w A L.length c L hr.src hL)
  have hc := hb.cell 1
  clear hb hr hF
  go_enter Try.func52, Try.ntmps52
  go_wp2_with fail
  refine H.out.mono ?_
  rintro e w' ⟨A', c', rfl, h1, h2, h3⟩
  have H1 := Lib.hid h1
  have H2 := Lib.hid h2
  have H3 := Lib.hid h3
  clear h1 h2 h3
  go_wp2_with fail
  go_ret
  exact ⟨_, _, rfl, H1.out, H2.out, H3.out⟩
end Go.Proofs.Ytmohpjkbhpgidaa.A
