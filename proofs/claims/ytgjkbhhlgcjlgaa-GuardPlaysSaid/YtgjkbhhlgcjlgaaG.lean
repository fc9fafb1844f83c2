/-
  GuardFences.
-/
import Derived.Test.YtgjkbhhlgcjlgaaF
import Derived.Deep.RegionHeld3
import Derived.Deep.DeepCutAuto
import Derived.Deep.CutBlock
namespace Go.Proofs.Ytgjkbhhlgcjlgaa.A
open Go.RowKit Go.Proofs.Ytgjkbhhlgcjlgaa.U
set_option linter.unusedVariables false
set_option linter.unusedSimpArgs false

theorem guardP_iff (b : Nat) (L : List Wr) : ∀ w F F', guardP b L w F → (∀ k, F' k ↔ F k) → guardP b L w F' := fun _ _ _ ⟨bm, v, h, hF⟩ e => ⟨bm, v, h, fun k => (e k).trans (hF k)⟩
theorem fences_plain (L : List Wr) (s : ByteArray) (t u : Int) : True := trivial
theorem wr_ok {L : List Wr} {s : ByteArray} {t : Int} (h1 : 1 ≤ s.size) (h2 : s.size ≤ 64) (h3 : seenL L s ≤ t) : wrR L s t = 0 ∧ wrL L s t = L ++ [(s, t)] := by
  unfold wrR wrL
  simp only [if_neg (show ¬ (s.size < 1 ∨ 64 < s.size) by omega), if_neg (show ¬ t < seenL L s by omega), and_self]
theorem wr_bad {L : List Wr} {s : ByteArray} {t : Int} (h1 : s.size < 1 ∨ 64 < s.size) : wrR L s t = 1 ∧ wrL L s t = L := by
  unfold wrR wrL
  simp only [if_pos h1, and_self]
theorem wr_stale {L : List Wr} {s : ByteArray} {t : Int} (h1 : 1 ≤ s.size) (h2 : s.size ≤ 64) (h3 : t < seenL L s) : wrR L s t = 18 ∧ wrL L s t = L := by
  unfold wrR wrL
  simp only [if_neg (show ¬ (s.size < 1 ∨ 64 < s.size) by omega), if_pos h3, and_self]

theorem ask_all {w : World} {B : Nat} {A : Option Addr} {len : Nat} {l : List Ask} (h : R.Args w B A len 3 Ask.cells l) {k : Nat} (hk : k < len) :
    ∃ (ad : Addr) (s : ByteArray) (t : Int), A = some ad ∧ ∀ W, Below B w W → W.cell? (ad.add (k * 3)) = some (.string s) ∧ W.cell? ⟨(ad.add (k * 3)).block, (ad.add (k * 3)).off + 2, none⟩ = some (.int .u64 t) := by
  obtain ⟨ad, s, t, e, hB, h1, h2⟩ := ask_at h hk
  exact ⟨ad, s, t, e, fun W hW => ⟨(hW.cell (by rw [addBlock]; exact hB)).trans h1, (hW.cell (by rw [addBlock]; exact hB)).trans h2⟩⟩
set_option maxRecDepth 100000 in
set_option maxHeartbeats 3200000 in
theorem fences_calls (w : World) (A : Option Addr) (len cap : Nat) (l : List Ask) (name : ByteArray) (t u : Int) (hl : R.Args w w.heap.size A len 3 Ask.cells l) :
    Calls Try.prog 4 #[.slice A len cap, .string name, .agg #[.int .u64 t, .int .u64 u]] w (fun e w' => e = .returned (.bool true) ∧ Below w.heap.size w w') := by
  have H0 := Holds.start w
  have HL := Lib.hid hl
  clear hl
  have hu39 := Try.underlying39
  go_enter Try.func4, Try.ntmps4
  go_wp2_with fail
  go_quiet (fail)
  have H1 := H0.kept none_stable (((Keep.same Nothing w).alloc (.cells #[.int .u64 t, .int .u64 u] 39)).drewN nq)
  generalize (w.alloc (.cells #[.int .u64 t, .int .u64 u] 39)).drewN nq = w1 at *
  go_wp2_with fail
  refine (x_new H1 none_stable).mono ?_
  rintro e w2 ⟨b, rfl, H2⟩
  have hS : ∀ L, Stable (star (guardP b L) none_) := fun L => (guardP_stable _ _).star none_stable
  go_wp2_with fail
  go_loopw [10] (fun i wr => ∃ (k : Nat) (L : List Wr), k ≤ len ∧ k ≤ 200 ∧ L.length ≤ k ∧ i = .int .i64 k ∧ Holds w.heap.size w wr (star (guardP b L) none_)) (fun i _ => len - (intOf i).toNat)
  case atStart => exact ⟨0, [], Nat.zero_le _, by omega, by simp, by simp, H2⟩
  case round =>
    obtain ⟨k, L, hk, hk2, hkL, rfl, H3⟩ := hrel
    by_cases hlt : k < len ∧ k < 200
    · obtain ⟨hlt, h200⟩ := hlt
      obtain ⟨ad, s, x, rfl, hat⟩ := ask_all HL.out hlt
      have CC := Lib.hid hat
      clear hat
      have c00 := CC.out _ H3.below
      have T := Lib.hid (fun n => (x_write (H3.drewN (hS L) n) none_stable (by omega) s x))
      have hl' := wrL_length L s x
      go_wp2_with fail
      go_region_held3 (fun w' => w'.cell? (ad.add (k * 3)) = some (.string s) ∧ w'.cell? ⟨(ad.add (k * 3)).block, (ad.add (k * 3)).off + 2, none⟩ = some (.int .u64 x)) (first | exact c00 | exact c50 | go_keep) ((first | (go_at_call 8; refine (T.out _).mono ?_; rintro e w5 ⟨rfl, T5⟩; have c50 := CC.out _ T5.below)))
      go_wp2_with fail
      go_roundw
      case rel => exact ⟨k + 1, wrL L s x, by omega, by omega, by omega, by go_num, T5⟩
      case measure => simp [intOf]; omega
    · have hex : (k < len ∧ ¬ k < 200) ∨ ¬ k < len := by omega
      have HS := Lib.hid H3
      have hL : L.length ≤ 200 := by omega
      have HL2 := Lib.hid hL
      clear hlt H3 hkL hL
      rcases hex with ⟨h1, h2⟩ | h1
      all_goals go_wp2_with fail
      all_goals clear h1
      all_goals try clear h2
      all_goals
        rcases (show (name.size < 1 ∨ 64 < name.size) ∨ (1 ≤ name.size ∧ name.size ≤ 64 ∧ t < seenL L name) ∨ (1 ≤ name.size ∧ name.size ≤ 64 ∧ seenL L name ≤ t) by omega) with hb | ⟨n1, n2, hb⟩ | ⟨n1, n2, hb⟩
        · refine (x_write HS.out none_stable (by have := HL2.out; omega) name t).mono ?_
          rw [(wr_bad hb).1, (wr_bad hb).2]
          rintro e w5 ⟨rfl, T5⟩
          rcases hb with hb | hb
          · have g1 : decide ((name.size : Int) < 1) = true := decide_eq_true (by omega)
            go_wp2_with fail
            refine (awake_calls _).mono ?_
            rintro e w7 ⟨rfl, hb7⟩
            go_wp2_with fail
            go_ret
            exact ⟨rfl, bThen T5.below hb7⟩
          · have g1 : decide ((name.size : Int) < 1) = false := decide_eq_false (by omega)
            have g2 : decide (64 < (name.size : Int)) = true := decide_eq_true (by omega)
            go_wp2_with fail
            refine (awake_calls _).mono ?_
            rintro e w7 ⟨rfl, hb7⟩
            go_wp2_with fail
            go_ret
            exact ⟨rfl, bThen T5.below hb7⟩
        · refine (x_write HS.out none_stable (by have := HL2.out; omega) name t).mono ?_
          rw [(wr_stale n1 n2 hb).1, (wr_stale n1 n2 hb).2]
          rintro e w5 ⟨rfl, T5⟩
          have g1 : decide ((name.size : Int) < 1) = false := decide_eq_false (by omega)
          have g2 : decide (64 < (name.size : Int)) = false := decide_eq_false (by omega)
          have g3 : decide (t < seenL L name) = true := decide_eq_true hb
          go_wp2_with fail
          refine (x_seen T5 name).mono ?_
          rintro e w6 ⟨rfl, ⟨n6, rfl⟩⟩
          go_wp2_with fail
          refine (awake_calls _).mono ?_
          rintro e w7 ⟨rfl, hb7⟩
          go_wp2_with fail
          go_ret
          exact ⟨rfl, bThen (bDrewN T5.below _) hb7⟩
        · refine (x_write HS.out none_stable (by have := HL2.out; omega) name t).mono ?_
          rw [(wr_ok n1 n2 hb).1, (wr_ok n1 n2 hb).2]
          rintro e w5 ⟨rfl, T5⟩
          have e5 : seenL (L ++ [(name, t)]) name = t := by rw [seenL_snoc, if_pos rfl]; omega
          have l5 : (L ++ [(name, t)]).length ≤ 100000 := by have := HL2.out; simp; omega
          have E5 := Lib.hid e5
          clear e5 hb
          go_wp2_with fail
          rcases Int.lt_or_le u t with hu | hu
          · refine (x_write T5 none_stable l5 name u).mono ?_
            rw [(wr_stale n1 n2 (by rw [E5.out]; exact hu)).1, (wr_stale n1 n2 (by rw [E5.out]; exact hu)).2]
            rintro e w6 ⟨rfl, T6⟩
            have g1 : decide (t ≤ u) = false := decide_eq_false (by omega)
            have g2 : decide (u < t) = true := decide_eq_true hu
            go_wp2_with fail
            refine (awake_calls _).mono ?_
            rintro e w7 ⟨rfl, hb7⟩
            go_wp2_with fail
            go_ret
            exact ⟨rfl, bThen T6.below hb7⟩
          · refine (x_write T5 none_stable l5 name u).mono ?_
            rw [(wr_ok n1 n2 (by rw [E5.out]; exact hu)).1, (wr_ok n1 n2 (by rw [E5.out]; exact hu)).2]
            rintro e w6 ⟨rfl, T6⟩
            have g1 : decide (t ≤ u) = true := decide_eq_true hu
            have g2 : decide (u < t) = false := decide_eq_false (by omega)
            go_wp2_with fail
            refine (awake_calls _).mono ?_
            rintro e w7 ⟨rfl, hb7⟩
            go_wp2_with fail
            go_ret
            exact ⟨rfl, bThen T6.below hb7⟩

open Go.ChangeShapes Go.WideShapes Go.ChangeAt in
theorem fences_law : R.Law 4 Try.f4 R.any := by
  intro H enc W base args ds p hval hA hsz _ hlt
  rw [Try.params4] at hA hval
  obtain ⟨v0, vs0, d0, ds0, p0, q0, hargs, rfl, rfl, h0, r0⟩ := trodAll_cons hA
  obtain ⟨v1, vs1, d1, ds1, p1, q1, rfl, rfl, rfl, h1, r1⟩ := trodAll_cons r0
  obtain ⟨v2, vs2, d2, ds2, p2, q2, rfl, rfl, rfl, h2, r2⟩ := trodAll_cons r1
  obtain ⟨rfl, rfl, rfl⟩ := trodAll_nil r2
  obtain rfl : args = #[v0, v1, v2] := by cases args; simp_all
  obtain ⟨A, len, cap, l, rfl, hl⟩ := open_asks (hval 0 22 v0 rfl rfl) h0 (fun x hx => hlt x (List.mem_append_left _ hx))
  obtain ⟨fu, hf⟩ := h1
  obtain ⟨name, e1, _, _⟩ := DataW.trod_string Try.underlying9 hf
  obtain ⟨t, u, rfl⟩ := open_two (hval 2 39 v2 rfl rfl) h2
  have e1 := okWide_string Try.underlying9 (hval 1 9 v1 rfl rfl)
  obtain ⟨name', rfl, _⟩ := e1
  exact fences_calls W A len cap l name' t u hl
end Go.Proofs.Ytgjkbhhlgcjlgaa.A
