/-
  The waitgroup.
-/
import Derived.Test.YtmohpjkbhpgidaaA
namespace Go.Proofs.Ytmohpjkbhpgidaa.A
open Go.RowKit Go.Proofs.Ytmohpjkbhpgidaa.U
set_option linter.unusedVariables false
set_option linter.unusedSimpArgs false
set_option maxRecDepth 100000

/-- A call on the left thing that makes of it a thing that hangs on what it answers. -/
theorem Holds.on_left_ex {B : Nat} {w0 w : World} {P Q : SP} {α : Type} {P' : α → SP} (h : Holds B w0 w (star P Q)) (hQ : Stable Q) {p : Program} {f : FuncId} {args : Array Value} {post : α → Ending → Prop}
    (c : ∀ F, P w F → Calls p f args w fun e w' => ∃ a, post a e ∧ Step w F (P' a) w') : Calls p f args w fun e w' => ∃ a, post a e ∧ Holds B w0 w' (star (P' a) Q) := by
  obtain ⟨F, ⟨F1, F2, h1, h2, h3, h4⟩, hb, hB, hF⟩ := h
  refine (c F1 h1).mono fun e w' ⟨a, he, hs⟩ => ⟨a, he, ?_⟩
  have H0 : Holds B w0 w (star P Q) := ⟨F, ⟨F1, F2, h1, h2, h3, h4⟩, hb, hB, hF⟩
  exact H0.step (fun k hk => hF k ((h4 k).2 hk)) (hs.star hQ h2 h3)
theorem Holds.assoc {B : Nat} {w0 w : World} {P Q R : SP} (h : Holds B w0 w (star (star P Q) R)) : Holds B w0 w (star P (star Q R)) :=
  h.imp fun F ⟨F1, F2, ⟨F3, F4, h5, h6, h7, h8⟩, h2, h3, h4⟩ =>
    ⟨F3, fun k => F4 k ∨ F2 k, h5, ⟨F4, F2, h6, h2, fun k hk hk' => h3 k ((h8 k).2 (.inr hk)) hk', fun _ => Iff.rfl⟩,
      fun k hk hk' => by rcases hk' with h | h; exact h7 k hk h; exact h3 k ((h8 k).2 (.inl hk)) h,
      fun k => by rw [h4, h8]; exact or_assoc⟩
/-- A block of type t with some cells ahead and a slice of numbers behind. -/
def qP (t b : Nat) (cs : List Value) (L : List Int) : SP := fun w F => ∃ v, Blk w b t (cs ++ [v]).toArray ∧ Row w 3 1 v L.length (ints L) ∧ ∀ k, F k ↔ k = b ∨ v.ownBlock = some k
theorem qP_stable (t b : Nat) (cs : List Value) (L : List Int) : Stable (qP t b cs L) where
  keep := fun ⟨v, hb, hr, hF⟩ hk hn => ⟨v, hb.keep hk (hn b ((hF b).2 (.inl rfl))), hr.keep hk (fun g hg => hn g ((hF g).2 (.inr hg))), hF⟩
  lt := fun ⟨v, hb, hr, hF⟩ hk => by
    rcases (hF _).1 hk with h | h
    · rw [h]; exact hb.lt
    · exact hr.lt _ h
theorem q_new (w : World) (t : Nat) (cs : List Value) : qP t w.heap.size cs [] (w.alloc (.cells (cs ++ [Value.slice none 0 0]).toArray t)) (fun k => k = w.heap.size) :=
  ⟨.slice none 0 0, Blk.fresh w t _, Row.nil _ 3 1, fun k => by simp [Value.ownBlock]⟩
theorem Holds.newQ {B : Nat} {w0 w : World} {Q : SP} (h : Holds B w0 w Q) (hQ : Stable Q) (t : Nat) (cs : List Value) : Holds B w0 (w.alloc (.cells (cs ++ [Value.slice none 0 0]).toArray t)) (star (qP t w.heap.size cs []) Q) :=
  h.more hQ (q_new w t cs) ((Keep.same _ _).alloc _) (fun k hk => by omega)
/-- Nothing is done to it. -/
theorem Step.none_ {w w' : World} {P : SP} (hP : Stable P) {F : Nat → Prop} (h : P w F) (hk : Keep Nothing w w') : Step w F P w' :=
  ⟨F, hP.keep h hk (fun _ _ h => h), hk.wider (fun _ h => h.elim), fun k hk => .inl hk⟩
/-- The slice leaves it, and a nil one stands there. -/
theorem q_leaves {w : World} {t b : Nat} {cs cs' : List Value} {L : List Int} {A : Option Addr} {c : Nat} {F : Nat → Prop} (ht : t ≠ 3) (hl : cs'.length = cs.length) (hb : Blk w b t (cs ++ [Value.slice A L.length c]).toArray) (hr : Row w 3 1 (.slice A L.length c) L.length (ints L)) (hF : ∀ k, F k ↔ k = b ∨ (Value.slice A L.length c).ownBlock = some k)
    {w' : World} (hb' : Blk w' b t (cs' ++ [Value.slice none 0 0]).toArray) (hk : Keep (fun k => k = b) w w') : Step w F (star (rowP 3 1 (.slice A L.length c) L.length (ints L)) (qP t b cs' [])) w' := by
  have hne := hr.apart hb (fun e => ht e.symm)
  refine ⟨fun k => (Value.slice A L.length c).ownBlock = some k ∨ k = b, ⟨fun k => (Value.slice A L.length c).ownBlock = some k, fun k => k = b, ⟨hr.keep hk (fun g hg e => hne (by rw [hg, e])), fun _ => Iff.rfl⟩, ⟨_, hb', Row.nil _ 3 1, fun k => by simp [Value.ownBlock]⟩, fun k h1 h2 => hne (by rw [h1, h2]), fun _ => Iff.rfl⟩, hk.wider (fun k h => .inl ((hF k).2 (.inl h))), fun k hk => .inl ((hF k).2 hk.symm)⟩
/-- .. nothing leaves it. -/
theorem q_stays {w : World} {t b : Nat} {cs cs' : List Value} {L : List Int} {v : Value} {F : Nat → Prop} (ht : t ≠ 3) (hb : Blk w b t (cs ++ [v]).toArray) (hr : Row w 3 1 v L.length (ints L)) (hF : ∀ k, F k ↔ k = b ∨ v.ownBlock = some k)
    {w' : World} (hb' : Blk w' b t (cs' ++ [v]).toArray) (hk : Keep (fun k => k = b) w w') : Step w F (star (rowP 3 1 (.slice none 0 0) 0 []) (qP t b cs' L)) w' := by
  have hne := hr.apart hb (fun e => ht e.symm)
  exact ⟨F, ⟨fun _ => False, F, rowP_nil _ 3 1, ⟨v, hb', hr.keep hk (fun g hg e => hne (by rw [hg, e])), hF⟩, fun _ h => h.elim, fun k => by simp⟩, hk.wider (fun k h => .inl ((hF k).2 (.inl h))), fun k hk => .inl hk⟩

/-! ### What is answered -/
def gE (n d : Int) : Int := if 1073741824 - n < d ∨ d < -1073741824 then 15 else if d < -n then 14 else 0
def gN (n d : Int) : Int := if gE n d = 0 then n + d else n
def gR (n d : Int) (L : List Int) : List Int := if gE n d = 0 ∧ n + d = 0 then L else []
def gL (n d : Int) (L : List Int) : List Int := if gE n d = 0 ∧ n + d = 0 then [] else L
/-- What Add gives: err, and who goes on. -/
def AddPost (w : World) (F : Nat → Prop) (t b : Nat) (n d : Int) (L : List Int) (e : Ending) (w' : World) : Prop :=
  ∃ a : Option Addr × Nat, e = .returned (.tuple #[Value.slice a.1 (gR n d L).length a.2, .int .i64 (gE n d)]) ∧ Step w F (star (rowP 3 1 (.slice a.1 (gR n d L).length a.2) (gR n d L).length (ints (gR n d L))) (qP t b [.int .i64 (gN n d)] (gL n d L))) w'
theorem all_calls (w : World) (b o : Nat) (t : Nat) (cs : Array Value) (v : Value) (hb : Blk w b t cs) (hv : cs[o]? = some v) : Calls Try.prog 85 #[.pointer (some ⟨b, o, none⟩)] w (fun e w' => e = .returned v ∧ w' = w.setCell ⟨b, o, none⟩ (.slice none 0 0)) := by
  have hu := Try.underlying130
  have hc := hb.cell o
  rw [hv] at hc
  have hf := hb.free o
  clear hb
  go_enter Try.func85, Try.ntmps85
  go_wp2_with fail
  go_ret
  exact ⟨rfl, rfl⟩
set_option maxHeartbeats 800000 in
theorem add_calls (w : World) (b : Nat) (F : Nat → Prop) (n d : Int) (L : List Int) (h : qP 135 b [.int .i64 n] L w F) (hn : 0 ≤ n) (hm : n ≤ 1073741824) (hd : -9223372036854775808 ≤ d) (hd' : d ≤ 9223372036854775807) :
    Calls Try.prog 49 #[.pointer (some ⟨b, 0, none⟩), .int .i64 d] w (AddPost w F 135 b n d L) := by
  have hu := Try.underlying135
  have hu2 := Try.underlying130
  obtain ⟨v, hb, hr, hF⟩ := h
  obtain ⟨A, c, rfl, _, _⟩ := hr.form
  have hc0 := hb.cell 0
  have hf0 := hb.free 0
  have B := Lib.hid hb
  have R := Lib.hid hr
  have FF := Lib.hid hF
  have w1 : IntKind.i64.wrap (1073741824 - n) = 1073741824 - n := by rw [IntKind.wrap_i64]; omega
  have w2 : IntKind.i64.wrap (-n) = -n := by rw [IntKind.wrap_i64]; omega
  clear hb hr hF
  by_cases h1 : 1073741824 - n < d ∨ d < -1073741824
  · have E := Lib.hid (show gE n d = 15 by unfold gE; rw [if_pos h1])
    have ER := Lib.hid (show gR n d L = [] by unfold gR; rw [E.out, if_neg (by omega)])
    have EL := Lib.hid (show gL n d L = L by unfold gL; rw [E.out, if_neg (by omega)])
    have EN := Lib.hid (show gN n d = n by unfold gN; rw [E.out, if_neg (by omega)])
    rcases (show 1073741824 - n < d ∨ (¬ 1073741824 - n < d ∧ d < -1073741824) by omega) with h2 | ⟨h2, h3⟩
    all_goals go_enter Try.func49, Try.ntmps49
    all_goals go_wp2_with fail
    all_goals go_ret2
    all_goals exact ⟨(none, 0), by rw [E.out, ER.out]; rfl, by rw [ER.out, EL.out, EN.out]; exact q_stays (by decide) B.out R.out FF.out B.out (Keep.same _ _)⟩
  · by_cases h2 : d < -n
    · have E := Lib.hid (show gE n d = 14 by unfold gE; rw [if_neg h1, if_pos h2])
      have ER := Lib.hid (show gR n d L = [] by unfold gR; rw [E.out, if_neg (by omega)])
      have EL := Lib.hid (show gL n d L = L by unfold gL; rw [E.out, if_neg (by omega)])
      have EN := Lib.hid (show gN n d = n by unfold gN; rw [E.out, if_neg (by omega)])
      have g1 : decide (1073741824 - n < d) = false := decide_eq_false (by omega)
      have g2 : decide (d < -1073741824) = false := decide_eq_false (by omega)
      go_enter Try.func49, Try.ntmps49
      go_wp2_with fail
      go_ret2
      exact ⟨(none, 0), by rw [E.out, ER.out]; rfl, by rw [ER.out, EL.out, EN.out]; exact q_stays (by decide) B.out R.out FF.out B.out (Keep.same _ _)⟩
    · have E := Lib.hid (show gE n d = 0 by unfold gE; rw [if_neg h1, if_neg h2])
      have EN := Lib.hid (show gN n d = n + d by unfold gN; rw [E.out, if_pos rfl])
      have g1 : decide (1073741824 - n < d) = false := decide_eq_false (by omega)
      have g2 : decide (d < -1073741824) = false := decide_eq_false (by omega)
      have g3 : decide (d < -n) = false := decide_eq_false (by omega)
      have w3 : IntKind.i64.wrap (n + d) = n + d := by rw [IntKind.wrap_i64]; omega
      have B1 := Lib.hid (B.out.put 0 (.int .i64 (n + d)))
      by_cases h3 : n + d = 0
      · have ER := Lib.hid (show gR n d L = L by unfold gR; rw [E.out, if_pos ⟨rfl, h3⟩])
        have EL := Lib.hid (show gL n d L = [] by unfold gL; rw [E.out, if_pos ⟨rfl, h3⟩])
        have hall := all_calls _ b 1 135 _ (.slice A L.length c) B1.out rfl
        have HALL := Lib.hid hall
        have g4 : decide ((0 : Int) < n + d) = false := decide_eq_false (by omega)
        have B2 := Lib.hid (B1.out.put 1 (.slice none 0 0))
        clear hall h3
        go_enter Try.func49, Try.ntmps49
        go_wp2_with fail
        refine HALL.out.mono ?_
        rintro e w' ⟨rfl, hw⟩
        have W := Lib.hid hw
        clear hw
        go_wp2_with fail
        go_ret2
        refine ⟨(A, c), by rw [E.out, ER.out]; rfl, ?_⟩
        rw [ER.out, EL.out, EN.out, W.out]
        exact q_leaves (cs := [.int .i64 n]) (cs' := [.int .i64 (n + d)]) (by decide) rfl B.out R.out FF.out (by simpa using B2.out) (((Keep.same (fun k => k = b) w).set (p := ⟨b, 0, none⟩) (.inl rfl) _).set (p := ⟨b, 1, none⟩) (.inl rfl) _)
      · have ER := Lib.hid (show gR n d L = [] by unfold gR; rw [if_neg (fun h => h3 h.2)])
        have EL := Lib.hid (show gL n d L = L by unfold gL; rw [if_neg (fun h => h3 h.2)])
        have g4 : decide ((0 : Int) < n + d) = true := decide_eq_true (by omega)
        clear h3
        go_enter Try.func49, Try.ntmps49
        go_wp2_with fail
        go_ret2
        refine ⟨(none, 0), by rw [E.out, ER.out]; rfl, ?_⟩
        rw [ER.out, EL.out, EN.out]
        exact q_stays (by decide) B.out R.out FF.out (by simpa using B1.out) ((Keep.same (fun k => k = b) w).set (p := ⟨b, 0, none⟩) (.inl rfl) _)
end Go.Proofs.Ytmohpjkbhpgidaa.A
