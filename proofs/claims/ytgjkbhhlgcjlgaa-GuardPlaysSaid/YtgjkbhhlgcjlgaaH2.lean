/-
  GuardApart.
-/
import Derived.Test.YtgjkbhhlgcjlgaaG
namespace Go.Proofs.Ytgjkbhhlgcjlgaa.A
open Go.RowKit Go.Proofs.Ytgjkbhhlgcjlgaa.U
set_option linter.unusedVariables false
set_option linter.unusedSimpArgs false

theorem wr_other {L : List Wr} {s name : ByteArray} {x : Int} (h : s ≠ name) : seenL (wrL L s x) name = seenL L name := by
  unfold wrL
  split
  · rfl
  · split
    · rfl
    · rw [seenL_snoc, if_neg (fun e => h e.symm)]
theorem wr_same {L M : List Wr} {name : ByteArray} {x : Int} (h : seenL L name = seenL M name) : wrR L name x = wrR M name x ∧ seenL (wrL L name x) name = seenL (wrL M name x) name := by
  unfold wrL wrR
  rw [h]
  refine ⟨rfl, ?_⟩
  split
  · exact h
  · split
    · exact h
    · rw [seenL_snoc, seenL_snoc, if_pos rfl, if_pos rfl, h]

set_option maxRecDepth 100000 in
set_option maxHeartbeats 3200000 in
theorem apart_calls (w : World) (A : Option Addr) (len cap : Nat) (l : List Ask) (name : ByteArray) (hl : R.Args w w.heap.size A len 3 Ask.cells l) :
    Calls Try.prog 5 #[.slice A len cap, .string name] w (fun e w' => e = .returned (.bool true) ∧ Below w.heap.size w w') := by
  have H0 := Holds.start w
  have HL := Lib.hid hl
  clear hl
  go_enter Try.func5, Try.ntmps5
  go_wp2_with fail
  refine (x_new H0 none_stable).mono ?_
  rintro e w1 ⟨b, rfl, H1⟩
  go_wp2_with fail
  refine (x_new (H1.lone (guardP_iff _ _)) (guardP_stable b [])).mono ?_
  rintro e w2 ⟨y, rfl, H2⟩
  have hS : ∀ L M, Stable (star (guardP y M) (guardP b L)) := fun L M => (guardP_stable _ _).star (guardP_stable _ _)
  go_wp2_with fail
  go_loopw [7] (fun i wr => ∃ (k : Nat) (L M : List Wr), k ≤ len ∧ k ≤ 200 ∧ L.length ≤ k ∧ M.length ≤ k ∧ seenL L name = seenL M name ∧ i = .int .i64 k ∧ Holds w.heap.size w wr (star (guardP y M) (guardP b L))) (fun i _ => len - (intOf i).toNat)
  case atStart => exact ⟨0, [], [], Nat.zero_le _, by omega, by simp, by simp, rfl, by simp, H2⟩
  case round =>
    obtain ⟨k, L, M, hk, hk2, hkL, hkM, hLM, rfl, H3⟩ := hrel
    by_cases hlt : k < len ∧ k < 200
    · obtain ⟨hlt, h200⟩ := hlt
      obtain ⟨ad, s, x, rfl, hat⟩ := ask_all HL.out hlt
      have CC := Lib.hid hat
      clear hat
      have c00 := CC.out _ H3.below
      have T := Lib.hid (fun n => (x_write (H3.swap.drewN ((guardP_stable _ _).star (guardP_stable _ _)) n) (guardP_stable _ _) (by omega) s x))
      have hl' := wrL_length L s x
      have hm' := wrL_length M s x
      go_wp2_with fail
      go_region_held3 (fun w' => w'.cell? (ad.add (k * 3)) = some (.string s) ∧ w'.cell? ⟨(ad.add (k * 3)).block, (ad.add (k * 3)).off + 2, none⟩ = some (.int .u64 x)) (first | exact c00 | exact c50 | go_keep) ((first | (go_at_call 8; refine (T.out _).mono ?_; rintro e w5 ⟨rfl, T5⟩; have c50 := CC.out _ T5.below)))
      obtain ⟨d0, d2⟩ := c50
      by_cases hs : s = name
      · subst hs
        obtain ⟨e1, e2⟩ := wr_same (x := x) hLM
        have g1 : (s.toList == s.toList) = true := by simp
        have g2 : (wrR M s x != wrR L s x) = false := by rw [e1]; simp
        have E1 := Lib.hid e1
        have E2 := Lib.hid e2
        clear e1 e2 hLM
        go_wp2_with fail
        refine (x_write T5.swap (guardP_stable _ _) (by omega) s x).mono ?_
        rintro e w6 ⟨rfl, T6⟩
        rw [E1.out]
        generalize wrR M s x = r at *
        go_wp2_with fail
        go_roundw
        case rel => exact ⟨k + 1, wrL L s x, wrL M s x, by omega, by omega, by omega, by omega, E2.out, by go_num, T6⟩
        case measure => simp [intOf]; omega
      · have g1 : (s.toList == name.toList) = false := by rw [toList_eq]; exact decide_eq_false hs
        have e2 : seenL (wrL L s x) name = seenL M name := (wr_other hs).trans hLM
        have E2 := Lib.hid e2
        clear e2 hs hLM
        go_wp2_with fail
        go_roundw
        case rel => exact ⟨k + 1, wrL L s x, M, by omega, by omega, by omega, by omega, E2.out, by go_num, T5.swap⟩
        case measure => simp [intOf]; omega
    · have hex : (k < len ∧ ¬ k < 200) ∨ ¬ k < len := by omega
      have HS := Lib.hid H3
      have E2 := Lib.hid hLM
      clear hlt H3 hkL hkM hLM
      rcases hex with ⟨h1, h2⟩ | h1
      all_goals go_wp2_with fail
      all_goals clear h1
      all_goals try clear h2
      all_goals
        refine (x_seen HS.out.swap name).mono ?_
        rintro e w6 ⟨rfl, ⟨n6, rfl⟩⟩
        go_wp2_with fail
        refine (x_seen (HS.out.drewN (hS _ _) n6) name).mono ?_
        rintro e w7 ⟨rfl, ⟨n7, rfl⟩⟩
        rw [E2.out]
        generalize seenL M name = r at *
        go_wp2_with fail
        refine (awake_calls _).mono ?_
        rintro e w7 ⟨rfl, hb7⟩
        go_wp2_with fail
        go_ret
        exact ⟨rfl, bThen (bDrewN HS.out.below _) hb7⟩

open Go.ChangeShapes Go.WideShapes Go.ChangeAt in
theorem apart_law : R.Law 5 Try.f5 R.any := by
  intro H enc W base args ds p hval hA hsz _ hlt
  rw [Try.params5] at hA hval
  obtain ⟨v0, vs0, d0, ds0, p0, q0, hargs, rfl, rfl, h0, r0⟩ := trodAll_cons hA
  obtain ⟨v1, vs1, d1, ds1, p1, q1, rfl, rfl, rfl, h1, r1⟩ := trodAll_cons r0
  obtain ⟨rfl, rfl, rfl⟩ := trodAll_nil r1
  obtain rfl : args = #[v0, v1] := by cases args; simp_all
  obtain ⟨A, len, cap, l, rfl, hl⟩ := open_asks (hval 0 22 v0 rfl rfl) h0 (fun x hx => hlt x (List.mem_append_left _ hx))
  obtain ⟨name, rfl⟩ := okWide_string Try.underlying9 (hval 1 9 v1 rfl rfl)
  exact apart_calls W A len cap l name hl
end Go.Proofs.Ytgjkbhhlgcjlgaa.A
