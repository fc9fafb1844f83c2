/-
  The readers' texts and ends.
-/
import Derived.Test.YtjojibgihoebaaaE
namespace Go.Proofs.Ytjojibgihoebaaa.A
open Go.RowKit Go.Proofs.Ytjojibgihoebaaa.U
set_option linter.unusedVariables false
set_option linter.unusedSimpArgs false

theorem t_bad {x : Rd} (h : (uN x).bad = true) : tV x = ByteArray.empty ∧ tN x = uN x := by unfold tV tN; rw [if_pos h, if_pos h]; exact ⟨rfl, rfl⟩
theorem t_big {x : Rd} (h : (uN x).bad = false) (hb : tooBig (uN x) (uV x)) : tV x = ByteArray.empty ∧ tN x = (uN x).no := by unfold tV tN; rw [h, if_pos hb, if_pos hb]; exact ⟨rfl, rfl⟩
theorem t_ok {x : Rd} (h : (uN x).bad = false) (hb : ¬ tooBig (uN x) (uV x)) : tV x = (uN x).s.extract 0 (uV x) ∧ tN x = (uN x).from_ (uV x) := by unfold tV tN; rw [h, if_neg hb, if_neg hb]; exact ⟨rfl, rfl⟩
set_option maxRecDepth 100000 in
set_option maxHeartbeats 800000 in
theorem rdt_calls (w : World) (b : Nat) (x : Rd) (h : Blk w b 97 x.cs) (hsz : x.s.size ≤ 9223372036854775807) : Calls Try.prog 29 #[.pointer (some ⟨b, 0, none⟩)] w (Turns w b 97 (.string (tV x)) (tN x).cs) := by
  have H := Lib.hid (rdu_calls w b x h)
  have hu := Try.underlying97
  have TB := Lib.hid (@t_bad x)
  have TG := Lib.hid (@t_big x)
  have TO := Lib.hid (@t_ok x)
  have hlt := uV_lt x
  have hys : (uN x).s.size ≤ 9223372036854775807 := by
    unfold uN
    split
    · exact hsz
    · split
      · simp only [Rd.from_, ByteArray.size_extract]; omega
      · exact hsz
  unfold tooBig at TG TO
  generalize uN x = y at *
  generalize uV x = n at *
  generalize tV x = T at *
  generalize tN x = z at *
  clear h hsz
  cases hbad : y.bad with
  | true =>
    obtain ⟨rfl, rfl⟩ := TB.out hbad
    have BD := Lib.hid hbad
    clear hbad
    go_enter Try.func29, Try.ntmps29
    go_wp2_with fail
    refine H.out.mono ?_
    rintro e w2 ⟨rfl, hb2, hk2⟩
    have hc1 := hb2.cell 1
    simp only [Rd.cs, BD.out] at hc1
    have B2 := Lib.hid hb2
    have K2 := Lib.hid hk2
    clear hb2 hk2
    go_wp2_with fail
    go_ret
    exact ⟨rfl, B2.out, K2.out⟩
  | false =>
    have BD := Lib.hid hbad
    clear TB hbad
    by_cases hbig : 524288 < n ∨ y.s.size < n
    · obtain ⟨rfl, rfl⟩ := TG.out BD.out hbig
      clear TG TO
      have HF := Lib.hid (fun w' hh => fail_calls w' b y hh)
      rcases (show 524288 < n ∨ (n ≤ 524288 ∧ y.s.size < n) by omega) with hb1 | ⟨hb1, hb2⟩
      all_goals go_enter Try.func29, Try.ntmps29
      all_goals go_wp2_with fail
      all_goals refine H.out.mono ?_
      all_goals rintro e w2 ⟨rfl, hbk, hk2⟩
      all_goals have hc1 := hbk.cell 1
      all_goals have hc0 := hbk.cell 0
      all_goals simp only [Rd.cs, BD.out] at hc1 hc0
      all_goals have B2 := Lib.hid hbk
      all_goals have K2 := Lib.hid hk2
      all_goals clear hbk hk2
      · go_wp2_with fail
        refine (HF.out _ B2.out).mono ?_
        rintro e w3 ⟨rfl, hb3, hk3⟩
        have B3 := Lib.hid hb3
        have K3 := Lib.hid hk3
        clear hb3 hk3
        go_wp2_with fail
        go_ret
        exact ⟨rfl, B3.out, K2.out.then K3.out⟩
      · have hcv : (y.s.size : Int) % 18446744073709551616 = y.s.size := by omega
        have g1 : decide ((524288 : Int) < (n : Int)) = false := decide_eq_false (by omega)
        have g2 : decide ((y.s.size : Int) < (n : Int)) = true := decide_eq_true (by omega)
        go_wp2_with fail
        refine (HF.out _ B2.out).mono ?_
        rintro e w3 ⟨rfl, hb3, hk3⟩
        have B3 := Lib.hid hb3
        have K3 := Lib.hid hk3
        clear hb3 hk3
        go_wp2_with fail
        go_ret
        exact ⟨rfl, B3.out, K2.out.then K3.out⟩
    · obtain ⟨rfl, rfl⟩ := TO.out BD.out hbig
      clear TG TO
      have hcv : (y.s.size : Int) % 18446744073709551616 = y.s.size := by omega
      have g1 : decide ((524288 : Int) < (n : Int)) = false := decide_eq_false (by omega)
      have g2 : decide ((y.s.size : Int) < (n : Int)) = false := decide_eq_false (by omega)
      have i1 : (n : Int) ≤ y.s.size := by omega
      have i2 : (0 : Int) ≤ n := by omega
      go_enter Try.func29, Try.ntmps29
      go_wp2_with fail
      refine H.out.mono ?_
      rintro e w2 ⟨rfl, hbk, hk2⟩
      have hc1 := hbk.cell 1
      have hc0 := hbk.cell 0
      have hf0 := hbk.free 0
      simp only [Rd.cs, BD.out] at hc1 hc0
      have B2 := Lib.hid hbk
      have K2 := Lib.hid hk2
      clear hbk hk2
      go_wp2_with fail
      go_ret
      refine ⟨rfl, ?_, K2.out.set (p := ⟨b, 0, none⟩) (.inl rfl) _⟩
      have := B2.out.put 0 (.string (y.s.extract n y.s.size))
      simpa [Rd.cs, Rd.from_, BD.out] using this
set_option maxRecDepth 100000 in
set_option maxHeartbeats 800000 in
theorem rrdt_calls (w : World) (b : Nat) (x : Rd) (h : Blk w b 44 x.cs) (hsz : x.s.size ≤ 9223372036854775807) : Calls Try.prog 30 #[.pointer (some ⟨b, 0, none⟩)] w (Turns w b 44 (.string (tV x)) (tN x).cs) := by
  have H := Lib.hid (rrdu_calls w b x h)
  have hu := Try.underlying44
  have TB := Lib.hid (@t_bad x)
  have TG := Lib.hid (@t_big x)
  have TO := Lib.hid (@t_ok x)
  have hlt := uV_lt x
  have hys : (uN x).s.size ≤ 9223372036854775807 := by
    unfold uN
    split
    · exact hsz
    · split
      · simp only [Rd.from_, ByteArray.size_extract]; omega
      · exact hsz
  unfold tooBig at TG TO
  generalize uN x = y at *
  generalize uV x = n at *
  generalize tV x = T at *
  generalize tN x = z at *
  clear h hsz
  have hcv : (y.s.size : Int) % 18446744073709551616 = y.s.size := by omega
  have bad : ∀ w2 : World, Blk w2 b 44 y.cs → Keep (fun k => k = b) w w2 → Blk (w2.setCell ⟨b, 1, none⟩ (.bool true)) b 44 y.no.cs ∧ Keep (fun k => k = b) w (w2.setCell ⟨b, 1, none⟩ (.bool true)) := fun w2 h hk =>
    ⟨by have := h.put 1 (.bool true); simpa [Rd.cs, Rd.no] using this, hk.set (p := ⟨b, 1, none⟩) (.inl rfl) _⟩
  have BAD := Lib.hid bad
  clear bad
  cases hbad : y.bad with
  | true =>
    obtain ⟨rfl, rfl⟩ := TB.out hbad
    have BD := Lib.hid hbad
    have BE := Lib.hid (show z.no = z by cases z; simp_all [Rd.no])
    clear hbad
    go_enter Try.func30, Try.ntmps30
    go_wp2_with fail
    refine H.out.mono ?_
    rintro e w2 ⟨rfl, hb2, hk2⟩
    have hc1 := hb2.cell 1
    have hf1 := hb2.free 1
    simp only [Rd.cs, BD.out] at hc1
    have B2 := Lib.hid hb2
    have K2 := Lib.hid hk2
    clear hb2 hk2
    go_wp2_with fail
    go_ret
    have := BAD.out _ B2.out K2.out
    rw [BE.out] at this
    exact ⟨rfl, this.1, this.2⟩
  | false =>
    have BD := Lib.hid hbad
    clear TB hbad
    by_cases hbig : 524288 < n ∨ y.s.size < n
    · obtain ⟨rfl, rfl⟩ := TG.out BD.out hbig
      clear TG TO
      rcases (show 524288 < n ∨ (n ≤ 524288 ∧ y.s.size < n) by omega) with hb1 | ⟨hb1, hb2⟩
      · have g1 : decide ((524288 : Int) < (n : Int)) = true := decide_eq_true (by omega)
        go_enter Try.func30, Try.ntmps30
        go_wp2_with fail
        refine H.out.mono ?_
        rintro e w2 ⟨rfl, hbk, hk2⟩
        have hc1 := hbk.cell 1
        have hc0 := hbk.cell 0
        have hf1 := hbk.free 1
        simp only [Rd.cs, BD.out] at hc1 hc0
        have B2 := Lib.hid hbk
        have K2 := Lib.hid hk2
        clear hbk hk2
        go_wp2_with fail
        go_ret
        exact ⟨rfl, BAD.out _ B2.out K2.out⟩
      · have g1 : decide ((524288 : Int) < (n : Int)) = false := decide_eq_false (by omega)
        have g2 : decide ((y.s.size : Int) < (n : Int)) = true := decide_eq_true (by omega)
        go_enter Try.func30, Try.ntmps30
        go_wp2_with fail
        refine H.out.mono ?_
        rintro e w2 ⟨rfl, hbk, hk2⟩
        have hc1 := hbk.cell 1
        have hc0 := hbk.cell 0
        have hf1 := hbk.free 1
        simp only [Rd.cs, BD.out] at hc1 hc0
        have B2 := Lib.hid hbk
        have K2 := Lib.hid hk2
        clear hbk hk2
        go_wp2_with fail
        go_ret
        exact ⟨rfl, BAD.out _ B2.out K2.out⟩
    · obtain ⟨rfl, rfl⟩ := TO.out BD.out hbig
      clear TG TO
      have g1 : decide ((524288 : Int) < (n : Int)) = false := decide_eq_false (by omega)
      have g2 : decide ((y.s.size : Int) < (n : Int)) = false := decide_eq_false (by omega)
      have i1 : (n : Int) ≤ y.s.size := by omega
      have i2 : (0 : Int) ≤ n := by omega
      go_enter Try.func30, Try.ntmps30
      go_wp2_with fail
      refine H.out.mono ?_
      rintro e w2 ⟨rfl, hbk, hk2⟩
      have hc1 := hbk.cell 1
      have hc0 := hbk.cell 0
      have hf0 := hbk.free 0
      simp only [Rd.cs, BD.out] at hc1 hc0
      have B2 := Lib.hid hbk
      have K2 := Lib.hid hk2
      clear hbk hk2
      go_wp2_with fail
      go_ret
      refine ⟨rfl, ?_, K2.out.set (p := ⟨b, 0, none⟩) (.inl rfl) _⟩
      have := B2.out.put 0 (.string (y.s.extract n y.s.size))
      simpa [Rd.cs, Rd.from_, BD.out] using this
theorem size0 {s : ByteArray} (h : s.size = 0) : s = ByteArray.empty := ByteArray.ext (Array.eq_empty_of_size_eq_zero h)
theorem list_ne {s : ByteArray} (h : s.size ≠ 0) : (s.toList == []) = false := by
  rw [beq_eq_false_iff_ne, ByteArray.toList_eq]
  intro e
  have := congrArg List.length e
  simp at this
  exact h (by rw [this]; rfl)
set_option maxRecDepth 100000 in
theorem rdd_calls (w : World) (b : Nat) (x : Rd) (h : Blk w b 97 x.cs) : Calls Try.prog 31 #[.pointer (some ⟨b, 0, none⟩)] w (fun e w' => e = .returned (.int .i64 (dV x)) ∧ w' = w) := by
  have hu := Try.underlying97
  have hc1 := h.cell 1
  have hc0 := h.cell 0
  simp only [Rd.cs] at hc1 hc0
  clear h
  cases hb : x.bad with
  | true =>
    have D := Lib.hid (show dV x = 2 by unfold dV; rw [if_pos hb])
    rw [hb] at hc1
    clear hb
    go_enter Try.func31, Try.ntmps31
    go_wp2_with fail
    go_ret
    exact ⟨by rw [D.out]; rfl, rfl⟩
  | false =>
    rw [hb] at hc1
    by_cases h0 : x.s.size = 0
    · have D := Lib.hid (show dV x = 0 by unfold dV; rw [hb, if_pos h0]; rfl)
      rw [size0 h0] at hc0
      clear hb h0
      go_enter Try.func31, Try.ntmps31
      go_wp2_with fail
      go_ret
      exact ⟨by rw [D.out]; rfl, rfl⟩
    · have D := Lib.hid (show dV x = 2 by unfold dV; rw [hb, if_neg h0]; rfl)
      have hne := list_ne h0
      clear hb h0
      go_enter Try.func31, Try.ntmps31
      go_wp2_with fail
      go_ret
      exact ⟨by rw [D.out]; rfl, rfl⟩
set_option maxRecDepth 100000 in
theorem rrdd_calls (w : World) (b : Nat) (x : Rd) (h : Blk w b 44 x.cs) : Calls Try.prog 32 #[.pointer (some ⟨b, 0, none⟩)] w (fun e w' => e = .returned (.int .i64 (dV x)) ∧ w' = w) := by
  have hu := Try.underlying44
  have hc1 := h.cell 1
  have hc0 := h.cell 0
  simp only [Rd.cs] at hc1 hc0
  clear h
  cases hb : x.bad with
  | true =>
    have D := Lib.hid (show dV x = 2 by unfold dV; rw [if_pos hb])
    rw [hb] at hc1
    clear hb
    go_enter Try.func32, Try.ntmps32
    go_wp2_with fail
    go_ret
    exact ⟨by rw [D.out]; rfl, rfl⟩
  | false =>
    rw [hb] at hc1
    by_cases h0 : x.s.size = 0
    · have D := Lib.hid (show dV x = 0 by unfold dV; rw [hb, if_pos h0]; rfl)
      rw [size0 h0] at hc0
      clear hb h0
      go_enter Try.func32, Try.ntmps32
      go_wp2_with fail
      go_ret
      exact ⟨by rw [D.out]; rfl, rfl⟩
    · have D := Lib.hid (show dV x = 2 by unfold dV; rw [hb, if_neg h0]; rfl)
      have hne := list_ne h0
      clear hb h0
      go_enter Try.func32, Try.ntmps32
      go_wp2_with fail
      go_ret
      exact ⟨by rw [D.out]; rfl, rfl⟩
end Go.Proofs.Ytjojibgihoebaaa.A
