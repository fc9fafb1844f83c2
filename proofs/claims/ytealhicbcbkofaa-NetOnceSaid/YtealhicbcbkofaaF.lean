/-
  The nets as things apart; awake; NetNone.
-/
import Derived.Test.YtealhicbcbkofaaD
import Derived.Test.YtealhicbcbkofaaS
namespace Go.Proofs.Ytealhicbcbkofaa.A
open Go.RowKit Go.Proofs.Ytealhicbcbkofaa.U
set_option linter.unusedVariables false
set_option linter.unusedSimpArgs false

def netP (t b : Nat) (L : List ByteArray) : SP := fun w F => ∃ v, NetAt w t b v L ∧ ∀ k, F k ↔ Foot b v k
theorem netP_stable (t b : Nat) (L : List ByteArray) : Stable (netP t b L) :=
  ⟨fun ⟨v, h, hf⟩ hk hn => ⟨v, ⟨h.blk.keep hk (hn b ((hf b).2 (.inl rfl))), h.row.keep hk (fun g hg => hn g ((hf g).2 (.inr hg))), h.few⟩, hf⟩,
   fun ⟨v, h, hf⟩ hk => by rcases (hf _).1 hk with h1 | h1; (rw [h1]; exact h.blk.lt); exact h.row.lt _ h1⟩
theorem Did.step {w w' : World} {t b : Nat} {v : Value} {L' : List ByteArray} {r : Value} {e : Ending} {F : Nat → Prop} (h : Did w t b v L' r e w') (hF : ∀ k, F k ↔ Foot b v k) : e = .returned r ∧ Step w F (netP t b L') w' := by
  obtain ⟨he, v', hn, hk, ho⟩ := h
  refine ⟨he, Foot b v', ⟨v', hn, fun _ => Iff.rfl⟩, hk.wider (fun i hi => .inl ((hF i).2 hi)), fun k hk' => ?_⟩
  rcases hk' with h | h
  · exact .inl ((hF k).2 (.inl h))
  · rcases ho k h with h1 | h1
    · exact .inl ((hF k).2 (.inr h1))
    · exact .inr h1
section
variable {B : Nat} {w0 w : World} {Q : SP} {b : Nat} {L : List ByteArray}
theorem x_send (h : Holds B w0 w (star (netP 50 b L) Q)) (hQ : Stable Q) (s : ByteArray) : Calls Try.prog 8 #[.pointer (some ⟨b, 0, none⟩), .string s] w fun e w' => e = .returned (.int .i64 (sendR L s)) ∧ Holds B w0 w' (star (netP 50 b (sendL L s)) Q) :=
  h.on_left hQ fun F ⟨v, hn, hF⟩ => (send_any w b v L s hn).mono fun e w' hd => hd.step hF
theorem x_take (h : Holds B w0 w (star (netP 50 b L) Q)) (hQ : Stable Q) (n : Int) : Calls Try.prog 10 #[.pointer (some ⟨b, 0, none⟩), .int .i64 n] w fun e w' => e = .returned (.tuple #[.string (peekS L n), .int .i64 (peekR L n)]) ∧ Holds B w0 w' (star (netP 50 b (takeL L n)) Q) :=
  h.on_left hQ fun F ⟨v, hn, hF⟩ => (take_calls w b v L n hn).mono fun e w' hd => hd.step hF
theorem x_double (h : Holds B w0 w (star (netP 50 b L) Q)) (hQ : Stable Q) (n : Int) : Calls Try.prog 14 #[.pointer (some ⟨b, 0, none⟩), .int .i64 n] w fun e w' => e = .returned (.int .i64 (dblR L n)) ∧ Holds B w0 w' (star (netP 50 b (dblL L n)) Q) :=
  h.on_left hQ fun F ⟨v, hn, hF⟩ => (double_calls w b v L n hn).mono fun e w' hd => hd.step hF
theorem x_peek (h : Holds B w0 w (star (netP 50 b L) Q)) (n : Int) : Calls Try.prog 12 #[.pointer (some ⟨b, 0, none⟩), .int .i64 n] w (Pure w (.tuple #[.string (peekS L n), .int .i64 (peekR L n)])) := by
  obtain ⟨F, v, hn, hF⟩ := h.left
  exact peek_calls w b v L n hn
theorem x_len (h : Holds B w0 w (star (netP 50 b L) Q)) : Calls Try.prog 16 #[.pointer (some ⟨b, 0, none⟩)] w (Pure w (.int .i64 L.length)) := by
  obtain ⟨F, v, hn, hF⟩ := h.left
  exact len_calls w b v L hn
theorem x_all (h : Holds B w0 w (star (netP 50 b L) Q)) (hQ : Stable Q) : Calls Try.prog 18 #[.pointer (some ⟨b, 0, none⟩)] w (fun e w' => ∃ A c, e = .returned (.slice A L.length c) ∧ Row w' 9 1 (.slice A L.length c) L.length (strs L) ∧ Keep Nothing w w' ∧ Holds B w0 w' (star (netP 50 b L) Q)) := by
  have h0 := h
  obtain ⟨F, v, hn, hF⟩ := h.left
  exact (all_calls w b v L hn).mono fun e w' ⟨A, c, h1, h2, h3⟩ => ⟨A, c, h1, h2, h3, h0.kept ((netP_stable 50 b L).star hQ) h3⟩
theorem y_send (h : Holds B w0 w (star (netP 28 b L) Q)) (hQ : Stable Q) (s : ByteArray) : Calls Try.prog 9 #[.pointer (some ⟨b, 0, none⟩), .string s] w fun e w' => e = .returned (.int .i64 (sendR L s)) ∧ Holds B w0 w' (star (netP 28 b (sendL L s)) Q) :=
  h.on_left hQ fun F ⟨v, hn, hF⟩ => (rsend_any w b v L s hn).mono fun e w' hd => hd.step hF
theorem y_take (h : Holds B w0 w (star (netP 28 b L) Q)) (hQ : Stable Q) (n : Int) : Calls Try.prog 11 #[.pointer (some ⟨b, 0, none⟩), .int .i64 n] w fun e w' => e = .returned (.tuple #[.string (peekS L n), .int .i64 (peekR L n)]) ∧ Holds B w0 w' (star (netP 28 b (takeL L n)) Q) :=
  h.on_left hQ fun F ⟨v, hn, hF⟩ => (rtake_calls w b v L n hn).mono fun e w' hd => hd.step hF
theorem y_double (h : Holds B w0 w (star (netP 28 b L) Q)) (hQ : Stable Q) (n : Int) : Calls Try.prog 15 #[.pointer (some ⟨b, 0, none⟩), .int .i64 n] w fun e w' => e = .returned (.int .i64 (dblR L n)) ∧ Holds B w0 w' (star (netP 28 b (dblL L n)) Q) :=
  h.on_left hQ fun F ⟨v, hn, hF⟩ => (rdouble_calls w b v L n hn).mono fun e w' hd => hd.step hF
theorem y_peek (h : Holds B w0 w (star (netP 28 b L) Q)) (n : Int) : Calls Try.prog 13 #[.pointer (some ⟨b, 0, none⟩), .int .i64 n] w (Pure w (.tuple #[.string (peekS L n), .int .i64 (peekR L n)])) := by
  obtain ⟨F, v, hn, hF⟩ := h.left
  exact rpeek_calls w b v L n hn
end
theorem netP_new (w : World) : netP 50 w.heap.size [] (w.alloc (.cells #[.slice none 0 0] 50)) (fun k => k = w.heap.size) :=
  ⟨.slice none 0 0, ⟨Blk.fresh w 50 _, Row.nil _ 9 1, by simp⟩, fun k => by simp [Foot, Value.ownBlock]⟩
theorem x_new {B : Nat} {w0 w : World} {Q : SP} (h : Holds B w0 w Q) (hQ : Stable Q) : Calls Try.prog 7 #[] w fun e w' => ∃ b, e = .returned (.pointer (some ⟨b, 0, none⟩)) ∧ Holds B w0 w' (star (netP 50 b []) Q) :=
  (new_calls w).mono fun e w' ⟨he, hw⟩ => ⟨w.heap.size, he, by subst hw; exact h.more hQ (netP_new w) ((Keep.same _ _).alloc _) (fun k hk => by omega)⟩

def bA : ByteArray := ⟨#[97]⟩
def bB : ByteArray := ⟨#[98]⟩
theorem a1 : sendR [] bA = 0 ∧ sendL [] bA = [bA] := by decide
theorem a2 : sendR [bA] bB = 0 ∧ sendL [bA] bB = [bA, bB] := by decide
theorem a3 : peekS [bA, bB] 0 = bA ∧ peekR [bA, bB] 0 = 0 ∧ takeL [bA, bB] 0 = [bB] := by decide
theorem a4 : dblR [bB] 0 = 0 ∧ dblL [bB] 0 = [bB, bB] := by decide
theorem a5 : peekS [bB, bB] 2 = ByteArray.empty ∧ peekR [bB, bB] 2 = 1 ∧ takeL [bB, bB] 2 = [bB, bB] := by decide
theorem awake_calls (w : World) : Calls Try.prog 19 #[] w (fun e w' => e = .returned (.bool true) ∧ Below w.heap.size w w') := by
  have H0 := Holds.start w
  go_enter Try.func19, Try.ntmps19
  go_wp2_with fail
  refine (x_new H0 none_stable).mono ?_
  rintro e w1 ⟨b, rfl, H1⟩
  go_wp2_with fail
  refine (x_send H1 none_stable bA).mono ?_
  rw [a1.1, a1.2]
  rintro e w2 ⟨rfl, H2⟩
  go_wp2_with fail
  refine (x_send H2 none_stable bB).mono ?_
  rw [a2.1, a2.2]
  rintro e w3 ⟨rfl, H3⟩
  go_wp2_with fail
  refine (x_take H3 none_stable 0).mono ?_
  rw [a3.1, a3.2.1, a3.2.2]
  rintro e w4 ⟨rfl, H4⟩
  go_wp2_with fail
  refine (x_double H4 none_stable 0).mono ?_
  rw [a4.1, a4.2]
  rintro e w5 ⟨rfl, H5⟩
  go_wp2_with fail
  refine (x_take H5 none_stable 2).mono ?_
  rw [a5.1, a5.2.1, a5.2.2]
  rintro e w6 ⟨rfl, H6⟩
  have hA : (bA.toList == [97]) = true := by rw [ByteArray.toList_eq]; rfl
  go_wp2_with fail
  refine (x_len H6).mono ?_
  rintro e w7 ⟨rfl, ⟨n7, rfl⟩⟩
  have H7 := H6.drewN ((netP_stable 50 b [bB, bB]).star none_stable) n7
  go_wp2_with fail
  refine (x_all H7 none_stable).mono ?_
  rintro e w8 ⟨A, c, rfl, hr, hk, H8⟩
  go_wp2_with fail
  refine (texts_calls _ _ _ _ _ [bB, bB] [bB, bB] 2 2 rfl rfl (hr.alloc (.cells #[.string bB, .string bB] 9)).src (Src.fresh _ #[.string bB, .string bB] 9 1 2 rfl) (by omega) (by omega)).mono ?_
  rw [show decide ([bB, bB] = [bB, bB]) = true from decide_eq_true rfl]
  rintro e w9 ⟨rfl, ⟨n9, rfl⟩⟩
  go_wp2_with fail
  go_ret
  exact ⟨rfl, bDrewN (bAlloc H8.below _) _⟩

theorem none_calls (w : World) (kind n : Int) (s : ByteArray) : Calls Try.prog 6 #[.agg #[.int .i64 kind, .int .i64 n, .string s]] w (fun e w' => e = .returned (.bool true) ∧ Below w.heap.size w w') := by
  have hu := Try.underlying30
  go_enter Try.func6, Try.ntmps6
  go_wp2_with (first
    | (go_at_call 10; refine (take_nil _ _).mono ?_; rintro e w' ⟨rfl, ⟨nd, rfl⟩⟩)
    | (go_at_call 12; refine (peek_nil _ _).mono ?_; rintro e w' ⟨rfl, ⟨nd, rfl⟩⟩)
    | (go_at_call 8; refine (send_nil _ _).mono ?_; rintro e w' ⟨rfl, ⟨nd, rfl⟩⟩)
    | (go_at_call 14; refine (double_nil _ _).mono ?_; rintro e w' ⟨rfl, ⟨nd, rfl⟩⟩)
    | (go_at_call 16; refine (len_nil _).mono ?_; rintro e w' ⟨rfl, ⟨nd, rfl⟩⟩)
    | (go_at_call 18; refine (all_nil _).mono ?_; rintro e w' ⟨rfl, ⟨nd, rfl⟩⟩))
  refine (awake_calls _).mono ?_
  rintro e w' ⟨rfl, hb⟩
  go_wp2_with fail
  go_ret
  exact ⟨rfl, bThen (by repeat (first | exact Below.refl _ _ | apply bDrew | apply bDrewN | apply bAlloc)) hb⟩
end Go.Proofs.Ytealhicbcbkofaa.A
