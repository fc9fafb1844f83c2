/-
  Commands and entries: what was encoded is decoded as it was; what is decoded is encoded as that text.
-/
import Derived.Test.YtjojibgihoebaaaT9
import Derived.Test.YtjojibgihoebaaaJ
namespace Go.Proofs.Ytjojibgihoebaaa.A
open Go.RowKit Go.Proofs.Ytjojibgihoebaaa.U
set_option linter.unusedVariables false
set_option linter.unusedSimpArgs false

theorem dV_ok {x : Rd} (h : dV x = 0) : x.bad = false ∧ x.s.data.toList = [] := by
  unfold dV at h
  cases hb : x.bad
  · rw [hb] at h
    by_cases h0 : x.s.size = 0
    · exact ⟨rfl, List.eq_nil_of_length_eq_zero (by rw [size_list]; exact h0)⟩
    · simp [h0] at h
  · rw [hb] at h; simp at h
theorem dV_empty : dV ⟨ofL [], false⟩ = 0 := rfl
theorem from_list (x : Rd) (k : Nat) : (x.from_ k).s.data.toList = x.s.data.toList.drop k := by
  unfold Rd.from_
  rw [ByteArray.data_extract, Array.toList_extract]
  show List.take (x.s.size - k) (List.drop k x.s.data.toList) = _
  rw [List.take_of_length_le]
  rw [List.length_drop, size_list]
  omega
theorem uN_back {x : Rd} (h : (uN x).bad = false) : x.bad = false ∧ uV x < 18446744073709551616 ∧ x.s.data.toList = u64L (uV x) ++ (uN x).s.data.toList := by
  cases hb : x.bad
  · refine ⟨rfl, uV_lt x, ?_⟩
    cases hr : rdU x.s 0 0 with
    | none => rw [uN_none hb hr] at h; cases h
    | some p =>
      obtain ⟨n, k⟩ := p
      rw [uV_some hb hr, uN_some hb hr, from_list, (rdU_wrote hr).2, List.take_append_drop]
  · rw [uN_bad hb, hb] at h; cases h
theorem tN_back {x : Rd} (h : (tN x).bad = false) : x.bad = false ∧ (tV x).size ≤ 524288 ∧ x.s.data.toList = u64L (tV x).size ++ ((tV x).data.toList ++ (tN x).s.data.toList) := by
  cases hb : (uN x).bad
  · obtain ⟨h1, h2, h3⟩ := uN_back hb
    by_cases hg : tooBig (uN x) (uV x)
    · rw [(t_big hb hg).2] at h; cases h
    · obtain ⟨e1, e2⟩ := t_ok hb hg
      unfold tooBig at hg
      have hs : (tV x).size = uV x := by rw [e1, ByteArray.size_extract]; omega
      refine ⟨h1, by omega, ?_⟩
      rw [hs, h3, e2, from_list]
      congr 1
      rw [e1, ByteArray.data_extract, Array.toList_extract]
      show _ = List.take (uV x - 0) (List.drop 0 (uN x).s.data.toList) ++ _
      rw [List.drop_zero, Nat.sub_zero, List.take_append_drop]
  · rw [(t_bad hb).2] at h; rw [hb] at h; cases h
theorem i64_unzig {u : Nat} (h : u < 18446744073709551616) : I64 (unzig u) := by unfold unzig I64; split <;> omega
theorem iV_64 (x : Rd) : I64 (iV x) := i64_unzig (uV_lt x)
theorem zig_iV (x : Rd) : zig (iV x) = uV x := zig_unzig _
theorem encL_eq (c : Cmd) : encL c = u64L (zig c.k) ++ (u64L (zig c.s) ++ (u64L (zig c.q) ++ (u64L c.nm.size ++ (c.nm.data.toList ++ (u64L (zig c.n) ++ []))))) := by
  simp [encL]
theorem entL_eq (x : Ent) : entL x = u64L (zig x.a) ++ (u64L (zig x.b) ++ (u64L (encS x.c).size ++ ((encS x.c).data.toList ++ []))) := by
  simp [entL]
theorem encS_may {c : Cmd} (h : mayB c = true) : encS c = ofL (encL c) := by unfold encS; rw [if_pos h]
theorem decC_64 (s : ByteArray) : In64 (decC s) := ⟨iV_64 _, iV_64 _, iV_64 _, iV_64 _⟩
/-- What was encoded is decoded as it was. -/
theorem dec_enc {c : Cmd} (hc : In64 c) (h : mayB c = true) : decC (encS c) = c ∧ decOk (encS c) = true := by
  have hn := may_name h
  rw [encS_may h, encL_eq]
  generalize hL5 : u64L (zig c.n) ++ [] = L5
  have w5 := i_written c.n hc.n []
  rw [hL5] at w5
  have w4 := t_written c.nm (by omega) L5
  generalize hL4 : u64L c.nm.size ++ (c.nm.data.toList ++ L5) = L4 at *
  have w3 := i_written c.q hc.q L4
  generalize hL3 : u64L (zig c.q) ++ L4 = L3 at *
  have w2 := i_written c.s hc.s L3
  generalize hL2 : u64L (zig c.s) ++ L3 = L2 at *
  have w1 := i_written c.k hc.k L2
  generalize hL1 : u64L (zig c.k) ++ L2 = L1 at *
  have x1 : dx1 (ofL L1) = ⟨ofL L2, false⟩ := w1.2
  have x2 : dx2 (ofL L1) = ⟨ofL L3, false⟩ := by unfold dx2; rw [x1]; exact w2.2
  have x3 : dx3 (ofL L1) = ⟨ofL L4, false⟩ := by unfold dx3; rw [x2]; exact w3.2
  have x4 : dx4 (ofL L1) = ⟨ofL L5, false⟩ := by unfold dx4; rw [x3]; exact w4.2
  have x5 : dx5 (ofL L1) = ⟨ofL [], false⟩ := by unfold dx5; rw [x4]; exact w5.2
  have e : decC (ofL L1) = c := by
    unfold decC
    rw [x1, x2, x3, x4, w1.1, w2.1, w3.1, w4.1, w5.1]
  exact ⟨e, by unfold decOk; rw [x5, e, h]; rfl⟩
/-- What is decoded is encoded as that text. -/
theorem enc_dec {s : ByteArray} (h : decOk s = true) : mayB (decC s) = true ∧ encS (decC s) = s := by
  unfold decOk at h
  rw [Bool.and_eq_true] at h
  refine ⟨h.2, ?_⟩
  obtain ⟨b5, e5⟩ := dV_ok (of_decide_eq_true h.1)
  obtain ⟨b4, _, e4⟩ := uN_back (x := dx4 s) b5
  obtain ⟨b3, _, e3⟩ := tN_back (x := dx3 s) b4
  obtain ⟨b2, _, e2⟩ := uN_back (x := dx2 s) b3
  obtain ⟨b1, _, e1⟩ := uN_back (x := dx1 s) b2
  obtain ⟨_, _, e0⟩ := uN_back (x := ⟨s, false⟩) b1
  rw [encS_may h.2, encL_eq]
  show ofL (u64L (zig (iV ⟨s, false⟩)) ++ (u64L (zig (iV (dx1 s))) ++ (u64L (zig (iV (dx2 s))) ++ (u64L (tV (dx3 s)).size ++ ((tV (dx3 s)).data.toList ++ (u64L (zig (iV (dx4 s))) ++ [])))))) = s
  rw [zig_iV, zig_iV, zig_iV, zig_iV, ← e5]
  have a4 : u64L (uV (dx4 s)) ++ (dx5 s).s.data.toList = (dx4 s).s.data.toList := e4.symm
  have a3 : u64L (tV (dx3 s)).size ++ ((tV (dx3 s)).data.toList ++ (dx4 s).s.data.toList) = (dx3 s).s.data.toList := e3.symm
  have a2 : u64L (uV (dx2 s)) ++ (dx3 s).s.data.toList = (dx2 s).s.data.toList := e2.symm
  have a1 : u64L (uV (dx1 s)) ++ (dx2 s).s.data.toList = (dx1 s).s.data.toList := e1.symm
  have a0 : u64L (uV ⟨s, false⟩) ++ (dx1 s).s.data.toList = s.data.toList := e0.symm
  rw [a4, a3, a2, a1, a0, ofL_list]
theorem encS_inj {c d : Cmd} (hc : In64 c) (hd : In64 d) (h : mayB c = true) (h' : mayB d = true) (e : encS c = encS d) : c = d := by
  rw [← (dec_enc hc h).1, e, (dec_enc hd h').1]
theorem decR_ok {s : ByteArray} (h : decOk s = true) : decR s = decC s := by unfold decR; rw [if_pos h]
theorem entS_may {x : Ent} (h : entB x = true) : entS x = ofL (entL x) := by unfold entS; rw [if_pos h]
theorem edec_enc {x : Ent} (hx : EIn64 x) (h : entB x = true) : decE (entS x) = x ∧ eOk (entS x) = true := by
  have hm := ent_may h
  have hz := encS_size hx.c
  rw [entS_may h, entL_eq]
  have hd := dec_enc hx.c hm
  generalize hL0 : ([] : List UInt8) = L0
  have w3 := t_written (encS x.c) (by omega) L0
  generalize hL3 : u64L (encS x.c).size ++ ((encS x.c).data.toList ++ L0) = L3 at *
  have w2 := i_written x.b hx.b L3
  generalize hL2 : u64L (zig x.b) ++ L3 = L2 at *
  have w1 := i_written x.a hx.a L2
  generalize hL1 : u64L (zig x.a) ++ L2 = L1 at *
  have x1 : fx1 (ofL L1) = ⟨ofL L2, false⟩ := w1.2
  have x2 : fx2 (ofL L1) = ⟨ofL L3, false⟩ := by unfold fx2; rw [x1]; exact w2.2
  have x3 : fx3 (ofL L1) = ⟨ofL L0, false⟩ := by unfold fx3; rw [x2]; exact w3.2
  have t : decT (ofL L1) = encS x.c := by unfold decT; rw [x2]; exact w3.1
  have e : decE (ofL L1) = x := by
    unfold decE
    rw [x1, w1.1, w2.1, t, decR_ok hd.2, hd.1]
  refine ⟨e, ?_⟩
  unfold eOk
  rw [t, hd.2, x3, e, h, ← hL0]
  rfl
end Go.Proofs.Ytjojibgihoebaaa.A
