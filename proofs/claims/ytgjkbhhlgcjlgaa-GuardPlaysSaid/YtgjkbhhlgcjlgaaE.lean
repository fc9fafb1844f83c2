/-
  The guard and the reference as things apart; awake; GuardNone.
-/
import Derived.Test.YtgjkbhhlgcjlgaaD
namespace Go.Proofs.Ytgjkbhhlgcjlgaa.A
open Go.RowKit Go.Proofs.Ytgjkbhhlgcjlgaa.U
set_option linter.unusedVariables false
set_option linter.unusedSimpArgs false

def guardP (b : Nat) (L : List Wr) : SP := fun w F => ∃ bm v, GuardAt w b bm v (seenL L) L ∧ ∀ k, F k ↔ Foot b bm v k
theorem guardP_stable (b : Nat) (L : List Wr) : Stable (guardP b L) :=
  ⟨fun ⟨bm, v, h, hf⟩ hk hn => ⟨bm, v, ⟨h.blk.keep hk (hn b ((hf b).2 (.inl rfl))), MapU.keep h.map hk (hn bm ((hf bm).2 (.inr (.inl rfl)))), h.row.keep hk (fun g hg => hn g ((hf g).2 (.inr (.inr hg))))⟩, hf⟩,
   fun ⟨bm, v, h, hf⟩ hk => by rcases (hf _).1 hk with h1 | h1 | h1; (rw [h1]; exact h.blk.lt); (rw [h1]; exact MapU.lt h.map); exact h.row.lt _ h1⟩
def refP (b : Nat) (L : List Wr) : SP := fun w F => ∃ v, RefAt w b v L ∧ ∀ k, F k ↔ RFoot b v k
theorem refP_stable (b : Nat) (L : List Wr) : Stable (refP b L) :=
  ⟨fun ⟨v, h, hf⟩ hk hn => ⟨v, ⟨h.blk.keep hk (hn b ((hf b).2 (.inl rfl))), h.row.keep hk (fun g hg => hn g ((hf g).2 (.inr hg)))⟩, hf⟩,
   fun ⟨v, h, hf⟩ hk => by rcases (hf _).1 hk with h1 | h1; (rw [h1]; exact h.blk.lt); exact h.row.lt _ h1⟩

theorem seenL_put (L : List Wr) (s : ByteArray) (t : Int) (h : seenL L s ≤ t) : (fun u => if u = s then t else seenL L u) = seenL (L ++ [(s, t)]) := by
  funext u
  rw [seenL_snoc]
  split
  · rename_i e; subst e; omega
  · rfl
section
variable {B : Nat} {w0 w : World} {Q : SP} {b : Nat} {L : List Wr}
theorem x_write (h : Holds B w0 w (star (guardP b L) Q)) (hQ : Stable Q) (hL : L.length ≤ 100000) (s : ByteArray) (t : Int) :
    Calls Try.prog 8 #[.pointer (some ⟨b, 0, none⟩), .string s, .int .u64 t] w fun e w' => e = .returned (.int .i64 (wrR L s t)) ∧ Holds B w0 w' (star (guardP b (wrL L s t)) Q) := by
  refine h.on_left hQ fun F ⟨bm, v, hn, hF⟩ => ?_
  have same : ∀ w', Keep Nothing w w' → Step w F (guardP b L) w' := fun w' hk => ⟨F, (guardP_stable b L).keep ⟨bm, v, hn, hF⟩ hk (fun _ _ h => h), hk.wider (fun _ h => h.elim), fun k hk => .inl hk⟩
  unfold wrR wrL
  by_cases hs : s.size < 1 ∨ 64 < s.size
  · simp only [if_pos hs]
    refine (write_bad w _ s t hs).mono ?_
    rintro e w' ⟨rfl, hk⟩
    exact ⟨rfl, same w' hk⟩
  · simp only [if_neg hs]
    by_cases ht : t < seenL L s
    · simp only [if_pos ht]
      refine (write_stale w b bm v _ L s t hn (by omega) (by omega) ht).mono ?_
      rintro e w' ⟨rfl, hk⟩
      exact ⟨rfl, same w' hk⟩
    · simp only [if_neg ht]
      refine (write_ok w b bm v _ L s t hn (by omega) (by omega) (by omega) hL).mono ?_
      rintro e w' ⟨rfl, v', hn', hk, hf⟩
      rw [seenL_put L s t (by omega)] at hn'
      refine ⟨rfl, Foot b bm v', ⟨bm, v', hn', fun _ => Iff.rfl⟩, hk.wider (fun i hi => .inl ((hF i).2 hi)), fun k hk' => ?_⟩
      rcases hk' with h | h | h
      · exact .inl ((hF k).2 (.inl h))
      · exact .inl ((hF k).2 (.inr (.inl h)))
      · rcases hf k h with h1 | h1
        · exact .inl ((hF k).2 (.inr (.inr h1)))
        · exact .inr h1
theorem x_seen (h : Holds B w0 w (star (guardP b L) Q)) (s : ByteArray) : Calls Try.prog 10 #[.pointer (some ⟨b, 0, none⟩), .string s] w (Pure w (.int .u64 (seenL L s))) := by
  obtain ⟨F, bm, v, hn, hF⟩ := h.left
  exact seen_calls w b bm v _ L s hn
theorem x_log (h : Holds B w0 w (star (guardP b L) Q)) (hQ : Stable Q) (hL : L.length ≤ 100000) :
    Calls Try.prog 13 #[.pointer (some ⟨b, 0, none⟩)] w (fun e w' => ∃ A c, e = .returned (.slice A L.length c) ∧ Row w' 32 3 (.slice A L.length c) L.length (cells L) ∧ Keep Nothing w w' ∧ Holds B w0 w' (star (guardP b L) Q)) := by
  have h0 := h
  obtain ⟨F, bm, v, hn, hF⟩ := h.left
  exact (log_calls w b bm v _ L hn hL).mono fun e w' ⟨A, c, h1, h2, h3⟩ => ⟨A, c, h1, h2, h3, h0.kept ((guardP_stable b L).star hQ) h3⟩
theorem y_write (h : Holds B w0 w (star (refP b L) Q)) (hQ : Stable Q) (hL : L.length ≤ 100000) (s : ByteArray) (t : Int) :
    Calls Try.prog 9 #[.pointer (some ⟨b, 0, none⟩), .string s, .int .u64 t] w fun e w' => e = .returned (.int .i64 (wrR L s t)) ∧ Holds B w0 w' (star (refP b (wrL L s t)) Q) :=
  h.on_left hQ fun F ⟨v, hn, hF⟩ => (rwrite_any w b v L s t hn hL).mono fun e w' ⟨he, v', hn', hk, hf⟩ =>
    ⟨he, RFoot b v', ⟨v', hn', fun _ => Iff.rfl⟩, hk.wider (fun i hi => .inl ((hF i).2 hi)), fun k hk' => by
      rcases hk' with h | h
      · exact .inl ((hF k).2 (.inl h))
      · rcases hf k h with h1 | h1
        · exact .inl ((hF k).2 (.inr h1))
        · exact .inr h1⟩
theorem y_seen (h : Holds B w0 w (star (refP b L) Q)) (hL : L.length ≤ 100000) (s : ByteArray) : Calls Try.prog 11 #[.pointer (some ⟨b, 0, none⟩), .string s] w (Pure w (.int .u64 (seenL L s))) := by
  obtain ⟨F, v, hn, hF⟩ := h.left
  exact rseen_calls w b v L s hn hL
theorem y_row (h : Holds B w0 w (star (refP b L) Q)) : ∃ v, RefAt w b v L := by
  obtain ⟨F, v, hn, hF⟩ := h.left
  exact ⟨v, hn⟩
theorem x_new (h : Holds B w0 w Q) (hQ : Stable Q) : Calls Try.prog 7 #[] w fun e w' => ∃ b, e = .returned (.pointer (some ⟨b, 0, none⟩)) ∧ Holds B w0 w' (star (guardP b []) Q) :=
  (new_calls w).mono fun e w' ⟨he, hw⟩ => ⟨w.heap.size + 1, he, by
    subst hw
    refine h.more hQ (F := fun k => k = w.heap.size + 1 ∨ k = w.heap.size) ⟨w.heap.size, .slice none 0 0, ⟨?_, ?_, Row.nil _ 32 3⟩, fun k => by simp [Foot, Value.ownBlock]⟩ (((Keep.same _ _).alloc _).alloc _) (fun k hk => by omega)
    · have := Blk.fresh (w.alloc (.map #[] 0)) 45 #[.map (some w.heap.size), .slice none 0 0]
      simpa using this
    · exact MapU.keep (MapU.fresh w 0) ((Keep.same Nothing _).alloc _) (fun h => h)⟩
end
theorem refP_new (w : World) : refP w.heap.size [] (w.alloc (.cells #[.slice none 0 0] 27)) (fun k => k = w.heap.size) :=
  ⟨.slice none 0 0, ⟨Blk.fresh w 27 _, Row.nil _ 32 3⟩, fun k => by simp [RFoot, Value.ownBlock]⟩

theorem wrL_length (L : List Wr) (s : ByteArray) (t : Int) : (wrL L s t).length ≤ L.length + 1 := by
  unfold wrL
  split
  · omega
  · split <;> simp

def bA : ByteArray := ⟨#[97]⟩
def bB : ByteArray := ⟨#[98]⟩
def bE : ByteArray := ⟨#[]⟩
theorem a1 : wrR [] bA 2 = 0 ∧ wrL [] bA 2 = [(bA, 2)] := by decide
theorem a2 : wrR [(bA, 2)] bA 1 = 18 ∧ wrL [(bA, 2)] bA 1 = [(bA, 2)] := by decide
theorem a3 : wrR [(bA, 2)] bB 1 = 0 ∧ wrL [(bA, 2)] bB 1 = [(bA, 2), (bB, 1)] := by decide
theorem a4 : wrR [(bA, 2), (bB, 1)] bE 1 = 1 ∧ wrL [(bA, 2), (bB, 1)] bE 1 = [(bA, 2), (bB, 1)] := by decide
theorem a5 : seenL [(bA, 2), (bB, 1)] bA = 2 := by decide

set_option maxHeartbeats 1600000 in
theorem awake_calls (w : World) : Calls Try.prog 14 #[] w (fun e w' => e = .returned (.bool true) ∧ Below w.heap.size w w') := by
  have H0 := Holds.start w
  go_enter Try.func14, Try.ntmps14
  go_wp2_with fail
  refine (x_new H0 none_stable).mono ?_
  rintro e w1 ⟨b, rfl, H1⟩
  go_wp2_with fail
  refine (x_write H1 none_stable (by simp) bA 2).mono ?_
  rw [a1.1, a1.2]
  rintro e w2 ⟨rfl, H2⟩
  go_wp2_with fail
  refine (x_write H2 none_stable (by simp) bA 1).mono ?_
  rw [a2.1, a2.2]
  rintro e w3 ⟨rfl, H3⟩
  go_wp2_with fail
  refine (x_write H3 none_stable (by simp) bB 1).mono ?_
  rw [a3.1, a3.2]
  rintro e w4 ⟨rfl, H4⟩
  go_wp2_with fail
  refine (x_write H4 none_stable (by simp) bE 1).mono ?_
  rw [a4.1, a4.2]
  rintro e w5 ⟨rfl, H5⟩
  go_wp2_with fail
  refine (x_log H5 none_stable (by simp)).mono ?_
  rintro e w6 ⟨A, c, rfl, hr, hk, H6⟩
  obtain ⟨ad, rfl, c0, c1, c2⟩ := held_at (p := (bB, 1)) (k := 1) hr.src rfl
  have hB : bB.toList = [98] := by rw [ByteArray.toList_eq]; rfl
  have hu32 := Try.underlying32
  simp [Addr.add] at c0 c1 c2
  clear hr hk
  go_wp2_with fail
  refine (x_seen H6 bA).mono ?_
  rw [a5]
  rintro e w7 ⟨rfl, ⟨nd, rfl⟩⟩
  go_wp2_with fail
  go_ret
  exact ⟨rfl, bDrewN H6.below _⟩

theorem none_calls (w : World) (s : ByteArray) (x : Value) (n : Int) : Calls Try.prog 6 #[.agg #[.string s, x, .int .u64 n]] w (fun e w' => e = .returned (.bool true) ∧ Below w.heap.size w w') := by
  have hu := Try.underlying32
  go_enter Try.func6, Try.ntmps6
  go_wp2_with fail
  refine (write_none _ _ _).mono ?_
  rintro e w1 ⟨rfl, hk⟩
  have Bk := (Blk.fresh w 32 #[.string s, x, .int .u64 n]).keep hk (fun h => h)
  have c0 := Bk.cell 0
  have K1 := Lib.hid hk
  clear hk Bk
  go_wp2_with fail
  refine (seen_none _ _).mono ?_
  rintro e w2 ⟨rfl, ⟨n2, rfl⟩⟩
  go_wp2_with fail
  refine (log_none _).mono ?_
  rintro e w2 ⟨rfl, ⟨n3, rfl⟩⟩
  go_wp2_with fail
  refine (awake_calls _).mono ?_
  rintro e w3 ⟨rfl, hb⟩
  go_wp2_with fail
  go_ret
  refine ⟨rfl, bThen ?_ hb⟩
  have K2 := (((Keep.same Nothing w).alloc (.cells #[.string s, x, .int .u64 n] 32)).then K1.out).drewN (n2 + n3)
  exact K2.below (Nat.le_refl _) (fun _ h => h.elim)
end Go.Proofs.Ytgjkbhhlgcjlgaa.A
