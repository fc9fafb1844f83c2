/-
  awake of the messages' laws.
-/
import Derived.Test.YtjojibgihoebaaaN12
import Derived.Test.YtjojibgihoebaaaV3
import Derived.Test.YtjojibgihoebaaaN7
namespace Go.Proofs.Ytjojibgihoebaaa.A
open Go.RowKit Go.Proofs.Ytjojibgihoebaaa.U
set_option linter.unusedVariables false
set_option linter.unusedSimpArgs false
set_option maxRecDepth 100000

theorem entsL_cons (x : Ent) (l : List Ent) : entsL (x :: l) = entL1 x ++ entsL l := rfl
theorem eenc_dec' {s : ByteArray} (h : eOk s = true) : entS (decE s) = s := by
  unfold eOk at h
  simp only [Bool.and_eq_true] at h
  obtain ⟨⟨h1, h2⟩, h3⟩ := h
  obtain ⟨b3, e3⟩ := dV_ok (of_decide_eq_true h2)
  obtain ⟨b2, _, e2⟩ := tN_back (x := fx2 s) b3
  obtain ⟨b1, _, e1⟩ := uN_back (x := fx1 s) b2
  obtain ⟨_, _, e0⟩ := uN_back (x := ⟨s, false⟩) b1
  have hd := (enc_dec h1).2
  rw [entS_may h3, entL_eq]
  show ofL (u64L (zig (iV ⟨s, false⟩)) ++ (u64L (zig (iV (fx1 s))) ++ (u64L (encS (decR (decT s))).size ++ ((encS (decR (decT s))).data.toList ++ [])))) = s
  rw [decR_ok h1, hd, zig_iV, zig_iV, ← e3]
  have a2 : u64L (decT s).size ++ ((decT s).data.toList ++ (fx3 s).s.data.toList) = (fx2 s).s.data.toList := e2.symm
  have a1 : u64L (uV (fx1 s)) ++ (fx2 s).s.data.toList = (fx1 s).s.data.toList := e1.symm
  have a0 : u64L (uV ⟨s, false⟩) ++ (fx1 s).s.data.toList = s.data.toList := e0.symm
  rw [a2, a1, a0, ofL_list]
theorem ex_succ' (x : Rd) : ∀ n, ex x (n + 1) = ex (tN x) n
  | 0 => rfl
  | n + 1 => by show tN (ex x (n + 1)) = tN (ex (tN x) n); rw [ex_succ' x n]
theorem ex_written (L : List UInt8) : ∀ (es : List Ent), (∀ x ∈ es, EIn64 x) → ∀ i, i ≤ es.length → ex ⟨ofL (entsL es ++ L), false⟩ i = ⟨ofL (entsL (es.drop i) ++ L), false⟩
  | es, h, 0, _ => rfl
  | [], h, i + 1, hi => absurd hi (by simp)
  | x :: l, h, i + 1, hi => by
    have hz := entS_size (h x (List.mem_cons_self ..))
    rw [ex_succ', entsL_cons, show entL1 x ++ entsL l ++ L = u64L (entS x).size ++ ((entS x).data.toList ++ (entsL l ++ L)) by unfold entL1; simp only [List.append_assoc]]
    rw [(t_written (entS x) (by omega) (entsL l ++ L)).2, ex_written L l (fun y hy => h y (List.mem_cons_of_mem _ hy)) i (by simp at hi; omega)]
    rfl
theorem tV_written {L : List UInt8} {es : List Ent} (h : ∀ x ∈ es, EIn64 x) {i : Nat} {x : Ent} (hx : es[i]? = some x) : tV (ex ⟨ofL (entsL es ++ L), false⟩ i) = entS x := by
  obtain ⟨hi, e⟩ := List.getElem?_eq_some_iff.1 hx
  have hz := entS_size (h x (List.mem_of_getElem? hx))
  rw [ex_written L es h i (by omega), List.drop_eq_getElem_cons hi, e, entsL_cons, show entL1 x ++ entsL (es.drop (i + 1)) ++ L = u64L (entS x).size ++ ((entS x).data.toList ++ (entsL (es.drop (i + 1)) ++ L)) by unfold entL1; simp only [List.append_assoc]]
  exact (t_written (entS x) (by omega) _).1
theorem es_back {L : List UInt8} {es : List Ent} (h : ∀ x ∈ es, EIn64 x) (hb : es.all entB = true) : esOk ⟨ofL (entsL es ++ L), false⟩ es.length = true ∧ esOf ⟨ofL (entsL es ++ L), false⟩ es.length = es := by
  have hat : ∀ i, i < es.length → ∃ x, es[i]? = some x ∧ eOk (tV (ex ⟨ofL (entsL es ++ L), false⟩ i)) = true ∧ eR (tV (ex ⟨ofL (entsL es ++ L), false⟩ i)) = x := fun i hi => by
    have hx : es[i]? = some (es[i]) := List.getElem?_eq_getElem hi
    have hm := List.mem_of_getElem? hx
    have he := edec_enc (h _ hm) (List.all_eq_true.1 hb _ hm)
    refine ⟨_, hx, ?_, ?_⟩
    · rw [tV_written h hx]; exact he.2
    · rw [tV_written h hx]
      unfold eR
      rw [if_pos he.2]
      exact he.1
  constructor
  · unfold esOk
    rw [List.all_eq_true]
    intro i hi
    obtain ⟨x, _, h2, _⟩ := hat i (List.mem_range.1 hi)
    exact h2
  · unfold esOf
    apply List.ext_getElem?
    intro i
    rw [List.getElem?_map]
    by_cases hi : i < es.length
    · obtain ⟨x, hx, _, h3⟩ := hat i hi
      rw [List.getElem?_range hi, hx]
      exact congrArg some h3
    · rw [List.getElem?_eq_none (by simp; omega), List.getElem?_eq_none (by omega)]
      rfl
/-- What was encoded is decoded as it was. -/
theorem mdec_enc {m : Msg} (hm : MIn m) (h : msgOk m = true) : mOk (msgS m) = true ∧ mR (msgS m) = m := by
  have hS : msgS m = ofL (msgL m) := by unfold msgS; rw [if_pos h]
  unfold msgOk at h
  simp only [Bool.and_eq_true, decide_eq_true_eq] at h
  obtain ⟨hmay, hlen⟩ := h
  have hmay0 := hmay
  unfold mayM at hmay
  simp only [Bool.and_eq_true, decide_eq_true_eq] at hmay
  obtain ⟨hsp, hrp, hx, hes, hc⟩ := hmay
  have hl4 := span_len hsp
  have hcz := encS_size hm.c
  have hce := dec_enc hm.c hc
  have I : ∀ n lo hi, (⟨n, lo, hi⟩ : Sp) ∈ spansL m → I64 n := fun n lo hi hh => hm.sp _ hh
  have IR : ∀ n lo hi, (⟨n, lo, hi⟩ : Sp) ∈ repliesL m.p → I64 n := fun n lo hi hh => hm.rp _ hh
  have hE := es_back (L := tlL m) hm.es hes
  rw [hS]
  have hML : msgL m = u64L (zig m.k) ++ (u64L (zig m.f) ++ (u64L (zig m.t) ++ (u64L (zig m.b) ++ (u64L (zig m.s) ++ (u64L (zig m.r) ++ (u64L (zig m.z) ++ (u64L (zig m.e) ++ (u64L (zig (m.es.length : Int)) ++ (entsL m.es ++ tlL m))))))))) := by
    unfold msgL hdL spansL
    simp only [List.flatMap_cons, List.flatMap_nil, List.append_nil, List.append_assoc]
  have hT := ex_written (tlL m) m.es hm.es m.es.length (Nat.le_refl _)
  rw [List.drop_length, show entsL [] = [] from rfl, List.nil_append] at hT
  -- the tail
  have hTL : tlL m = u64L (encS m.c).size ++ ((encS m.c).data.toList ++ (u64L (zig m.p.s) ++ (u64L (zig m.p.q) ++ (u64L (zig m.p.e) ++ (u64L m.p.k ++ (u64L (zig m.p.n) ++ (u64L m.x.size ++ (m.x.data.toList ++ [])))))))) := rfl
  generalize hQ0 : ([] : List UInt8) = Q0 at hTL
  have q6 := t_written m.x hx Q0
  generalize hQ6 : u64L m.x.size ++ (m.x.data.toList ++ Q0) = Q6 at *
  have q5 := i_written m.p.n (IR m.p.n 0 1073741824 (by simp [repliesL])) Q6
  generalize hQ5 : u64L (zig m.p.n) ++ Q6 = Q5 at *
  have q4 := u_written m.p.k hm.k Q5
  generalize hQ4 : u64L m.p.k ++ Q5 = Q4 at *
  have q3 := i_written m.p.e (IR m.p.e 0 255 (by simp [repliesL])) Q4
  generalize hQ3 : u64L (zig m.p.e) ++ Q4 = Q3 at *
  have q2 := i_written m.p.q (IR m.p.q 0 1073741824 (by simp [repliesL])) Q3
  generalize hQ2 : u64L (zig m.p.q) ++ Q3 = Q2 at *
  have q1 := i_written m.p.s (IR m.p.s 0 1073741824 (by simp [repliesL])) Q2
  generalize hQ1 : u64L (zig m.p.s) ++ Q2 = Q1 at *
  have q0 := t_written (encS m.c) (by omega) Q1
  rw [← hTL] at q0
  generalize hTT : tlL m = TT at *
  generalize hT9 : entsL m.es ++ TT = T9 at *
  have w8 := i_written (m.es.length : Int) (I _ 0 4096 (by simp [spansL])) T9
  generalize hT8 : u64L (zig (m.es.length : Int)) ++ T9 = T8 at *
  have w7 := i_written m.e (I _ 0 255 (by simp [spansL])) T8
  generalize hT7 : u64L (zig m.e) ++ T8 = T7 at *
  have w6 := i_written m.z (I _ 0 1073741824 (by simp [spansL])) T7
  generalize hT6 : u64L (zig m.z) ++ T7 = T6 at *
  have w5 := i_written m.r (I _ 0 1099511627776 (by simp [spansL])) T6
  generalize hT5 : u64L (zig m.r) ++ T6 = T5 at *
  have w4 := i_written m.s (I _ (-1) 1099511627776 (by simp [spansL])) T5
  generalize hT4 : u64L (zig m.s) ++ T5 = T4 at *
  have w3 := i_written m.b (I _ 0 1099511627776 (by simp [spansL])) T4
  generalize hT3 : u64L (zig m.b) ++ T4 = T3 at *
  have w2 := i_written m.t (I _ 0 12 (by simp [spansL])) T3
  generalize hT2 : u64L (zig m.t) ++ T3 = T2 at *
  have w1 := i_written m.f (I _ 0 12 (by simp [spansL])) T2
  generalize hT1 : u64L (zig m.f) ++ T2 = T1 at *
  have w0 := i_written m.k (I _ 1 15 (by simp [spansL])) T1
  rw [← hML] at w0
  generalize msgL m = T0 at *
  have x0 : mx (ofL T0) 0 = ⟨ofL T0, false⟩ := rfl
  have x1 : mx (ofL T0) 1 = ⟨ofL T1, false⟩ := w0.2
  have x2 : mx (ofL T0) 2 = ⟨ofL T2, false⟩ := by show uN (mx (ofL T0) 1) = _; rw [x1]; exact w1.2
  have x3 : mx (ofL T0) 3 = ⟨ofL T3, false⟩ := by show uN (mx (ofL T0) 2) = _; rw [x2]; exact w2.2
  have x4 : mx (ofL T0) 4 = ⟨ofL T4, false⟩ := by show uN (mx (ofL T0) 3) = _; rw [x3]; exact w3.2
  have x5 : mx (ofL T0) 5 = ⟨ofL T5, false⟩ := by show uN (mx (ofL T0) 4) = _; rw [x4]; exact w4.2
  have x6 : mx (ofL T0) 6 = ⟨ofL T6, false⟩ := by show uN (mx (ofL T0) 5) = _; rw [x5]; exact w5.2
  have x7 : mx (ofL T0) 7 = ⟨ofL T7, false⟩ := by show uN (mx (ofL T0) 6) = _; rw [x6]; exact w6.2
  have x8 : mx (ofL T0) 8 = ⟨ofL T8, false⟩ := by show uN (mx (ofL T0) 7) = _; rw [x7]; exact w7.2
  have x9 : mx (ofL T0) 9 = ⟨ofL T9, false⟩ := by show uN (mx (ofL T0) 8) = _; rw [x8]; exact w8.2
  have hn : mn (ofL T0) = (m.es.length : Int) := by unfold mn; rw [x8]; exact w8.1
  have hnn : (mn (ofL T0)).toNat = m.es.length := by rw [hn]; rfl
  have y0 : my0 (ofL T0) = ⟨ofL TT, false⟩ := by unfold my0; rw [x9, hnn]; exact hT
  have y1 : my1 (ofL T0) = ⟨ofL Q1, false⟩ := by unfold my1; rw [y0]; exact q0.2
  have y2 : my2 (ofL T0) = ⟨ofL Q2, false⟩ := by unfold my2; rw [y1]; exact q1.2
  have y3 : my3 (ofL T0) = ⟨ofL Q3, false⟩ := by unfold my3; rw [y2]; exact q2.2
  have y4 : my4 (ofL T0) = ⟨ofL Q4, false⟩ := by unfold my4; rw [y3]; exact q3.2
  have y5 : my5 (ofL T0) = ⟨ofL Q5, false⟩ := by unfold my5; rw [y4]; exact q4.2
  have y6 : my6 (ofL T0) = ⟨ofL Q6, false⟩ := by unfold my6; rw [y5]; exact q5.2
  have y7 : my7 (ofL T0) = ⟨ofL Q0, false⟩ := by unfold my7; rw [y6]; exact q6.2
  have hP : mP (ofL T0) = m.p := by
    unfold mP
    rw [y1, y2, y3, y4, y5, q1.1, q2.1, q3.1, q4.1, q5.1]
  have hD : mDec (ofL T0) = m := by
    unfold mDec
    rw [hP, x9, hnn, hE.2, y0, q0.1, decR_ok hce.2, hce.1, y6, q6.1, x0, x1, x2, x3, x4, x5, x6, x7, w0.1, w1.1, w2.1, w3.1, w4.1, w5.1, w6.1, w7.1]
  have hok : mOk (ofL T0) = true := by
    unfold mOk
    rw [hD, hP, hsp, hrp, x9, hnn, hE.1, y0, q0.1, hce.2, y7, ← hQ0]
    have h1 : decide ((ofL T0).size ≤ 524288) = true := decide_eq_true hlen
    have h2 : nOk (ofL T0) = true := by
      unfold nOk
      rw [hn, decide_eq_true (show (0 : Int) ≤ (m.es.length : Int) by omega), decide_eq_true (show (m.es.length : Int) ≤ 4096 by omega)]
      rfl
    rw [h1, h2]
    rfl
  exact ⟨hok, by rw [mR_ok hok, hD]⟩
theorem ex_back (x : Rd) : ∀ n, (ex x n).bad = false → esOk x n = true → x.bad = false ∧ x.s.data.toList = entsL (esOf x n) ++ (ex x n).s.data.toList
  | 0, h, _ => ⟨h, rfl⟩
  | n + 1, h, hk => by
    rw [esOk_next, Bool.and_eq_true] at hk
    obtain ⟨b, _, e⟩ := tN_back (x := ex x n) h
    obtain ⟨b0, e0⟩ := ex_back x n b hk.1
    refine ⟨b0, ?_⟩
    have he : eR (tV (ex x n)) = decE (tV (ex x n)) := by unfold eR; rw [if_pos hk.2]
    rw [e0, esOf_next, e]
    show _ = entsL (esOf x n ++ [eR (tV (ex x n))]) ++ (tN (ex x n)).s.data.toList
    rw [show entsL (esOf x n ++ [eR (tV (ex x n))]) = entsL (esOf x n) ++ entL1 (eR (tV (ex x n))) by unfold entsL; rw [List.flatMap_append]; simp]
    unfold entL1
    rw [he, eenc_dec' hk.2]
    simp only [List.append_assoc]
theorem decR_64 (t : ByteArray) : In64 (decR t) := by
  unfold decR
  split
  · exact decC_64 t
  · exact ⟨by decide, by decide, by decide, by decide⟩
theorem eR_64 (t : ByteArray) : EIn64 (eR t) := by
  unfold eR
  split
  · exact ⟨iV_64 _, iV_64 _, decR_64 _⟩
  · exact ⟨by decide, by decide, ⟨by decide, by decide, by decide, by decide⟩⟩
theorem mDec_in {s : ByteArray} (hn : nOk s = true) : MIn (mDec s) where
  sp := by
    unfold nOk at hn
    simp only [Bool.and_eq_true, decide_eq_true_eq] at hn
    intro x hx
    have hl : ((mDec s).es.length : Int) = mn s := by
      rw [show (mDec s).es.length = (mn s).toNat from esOf_len _ _]; omega
    simp only [spansL, List.mem_cons, List.not_mem_nil, or_false] at hx
    rcases hx with rfl | rfl | rfl | rfl | rfl | rfl | rfl | rfl | rfl
    · exact iV_64 _
    · exact iV_64 _
    · exact iV_64 _
    · exact iV_64 _
    · exact iV_64 _
    · exact iV_64 _
    · exact iV_64 _
    · exact iV_64 _
    · show I64 ((mDec s).es.length : Int); rw [hl]; exact iV_64 _
  rp := by
    intro x hx
    simp only [repliesL, List.mem_cons, List.not_mem_nil, or_false] at hx
    rcases hx with rfl | rfl | rfl | rfl
    · exact iV_64 _
    · exact iV_64 _
    · exact iV_64 _
    · exact iV_64 _
  k := uV_lt _
  c := decR_64 _
  es := by
    intro x hx
    obtain ⟨i, _, rfl⟩ := List.mem_map.1 (show x ∈ (List.range (mn s).toNat).map (fun i => eR (tV (ex (mx s 9) i))) from hx)
    exact eR_64 _
/-- What is decoded is encoded as that text. -/
theorem menc_dec {s : ByteArray} (h : mOk s = true) : msgOk (mDec s) = true ∧ msgS (mDec s) = s ∧ MIn (mDec s) := by
  unfold mOk at h
  simp only [Bool.and_eq_true, decide_eq_true_eq] at h
  obtain ⟨hsz, hn, hes, hd, hdv, hsp, hrp⟩ := h
  have hin := mDec_in hn
  have hmay : mayM (mDec s) = true := by rw [mayM_dec hes hd, hsp, hrp]; rfl
  obtain ⟨b7, e7⟩ := dV_ok hdv
  obtain ⟨b6, _, e6⟩ := tN_back (x := my6 s) b7
  obtain ⟨b5, _, e5⟩ := uN_back (x := my5 s) b6
  obtain ⟨b4, _, e4⟩ := uN_back (x := my4 s) b5
  obtain ⟨b3, _, e3⟩ := uN_back (x := my3 s) b4
  obtain ⟨b2, _, e2⟩ := uN_back (x := my2 s) b3
  obtain ⟨b1, _, e1⟩ := uN_back (x := my1 s) b2
  obtain ⟨b0, _, e0⟩ := tN_back (x := my0 s) b1
  obtain ⟨c9, e9⟩ := ex_back (mx s 9) (mn s).toNat b0 hes
  obtain ⟨c8, _, d8⟩ := uN_back (x := mx s 8) c9
  obtain ⟨c7, _, d7⟩ := uN_back (x := mx s 7) c8
  obtain ⟨c6, _, d6⟩ := uN_back (x := mx s 6) c7
  obtain ⟨c5, _, d5⟩ := uN_back (x := mx s 5) c6
  obtain ⟨c4, _, d4⟩ := uN_back (x := mx s 4) c5
  obtain ⟨c3, _, d3⟩ := uN_back (x := mx s 3) c4
  obtain ⟨c2, _, d2⟩ := uN_back (x := mx s 2) c3
  obtain ⟨c1, _, d1⟩ := uN_back (x := mx s 1) c2
  obtain ⟨_, _, d0⟩ := uN_back (x := mx s 0) c1
  have hnn : ((mDec s).es.length : Int) = iV (mx s 8) := by
    unfold nOk at hn
    simp only [Bool.and_eq_true, decide_eq_true_eq] at hn
    rw [show (mDec s).es.length = (mn s).toNat from esOf_len _ _]
    show ((mn s).toNat : Int) = mn s
    omega
  have hc : encS (mDec s).c = tV (my0 s) := by
    show encS (decR (tV (my0 s))) = _
    rw [decR_ok hd]; exact (enc_dec hd).2
  have f6 : u64L (tV (my6 s)).size ++ ((tV (my6 s)).data.toList ++ (my7 s).s.data.toList) = (my6 s).s.data.toList := e6.symm
  have f5 : u64L (uV (my5 s)) ++ (my6 s).s.data.toList = (my5 s).s.data.toList := e5.symm
  have f4 : u64L (uV (my4 s)) ++ (my5 s).s.data.toList = (my4 s).s.data.toList := e4.symm
  have f3 : u64L (uV (my3 s)) ++ (my4 s).s.data.toList = (my3 s).s.data.toList := e3.symm
  have f2 : u64L (uV (my2 s)) ++ (my3 s).s.data.toList = (my2 s).s.data.toList := e2.symm
  have f1 : u64L (uV (my1 s)) ++ (my2 s).s.data.toList = (my1 s).s.data.toList := e1.symm
  have f0 : u64L (tV (my0 s)).size ++ ((tV (my0 s)).data.toList ++ (my1 s).s.data.toList) = (my0 s).s.data.toList := e0.symm
  have f9 : entsL (esOf (mx s 9) (mn s).toNat) ++ (my0 s).s.data.toList = (mx s 9).s.data.toList := e9.symm
  have hTL : tlL (mDec s) = (my0 s).s.data.toList := by
    unfold tlL
    rw [hc]
    show u64L (tV (my0 s)).size ++ ((tV (my0 s)).data.toList ++ (u64L (zig (iV (my1 s))) ++ (u64L (zig (iV (my2 s))) ++ (u64L (zig (iV (my3 s))) ++ (u64L (uV (my4 s)) ++ (u64L (zig (iV (my5 s))) ++ (u64L (tV (my6 s)).size ++ ((tV (my6 s)).data.toList ++ [])))))))) = _
    rw [zig_iV, zig_iV, zig_iV, zig_iV, ← e7, f6, f5, f4, f3, f2, f1, f0]
  have hML : msgL (mDec s) = s.data.toList := by
    unfold msgL
    rw [hTL]
    show hdL (spansL (mDec s)) ++ (entsL (esOf (mx s 9) (mn s).toNat) ++ (my0 s).s.data.toList) = _
    rw [f9]
    unfold hdL spansL
    simp only [List.flatMap_cons, List.flatMap_nil, List.append_nil, List.append_assoc]
    rw [hnn]
    show u64L (zig (iV (mx s 0))) ++ (u64L (zig (iV (mx s 1))) ++ (u64L (zig (iV (mx s 2))) ++ (u64L (zig (iV (mx s 3))) ++ (u64L (zig (iV (mx s 4))) ++ (u64L (zig (iV (mx s 5))) ++ (u64L (zig (iV (mx s 6))) ++ (u64L (zig (iV (mx s 7))) ++ (u64L (zig (iV (mx s 8))) ++ (mx s 9).s.data.toList)))))))) = _
    simp only [zig_iV]
    have g8 : u64L (uV (mx s 8)) ++ (mx s 9).s.data.toList = (mx s 8).s.data.toList := d8.symm
    have g7 : u64L (uV (mx s 7)) ++ (mx s 8).s.data.toList = (mx s 7).s.data.toList := d7.symm
    have g6 : u64L (uV (mx s 6)) ++ (mx s 7).s.data.toList = (mx s 6).s.data.toList := d6.symm
    have g5 : u64L (uV (mx s 5)) ++ (mx s 6).s.data.toList = (mx s 5).s.data.toList := d5.symm
    have g4 : u64L (uV (mx s 4)) ++ (mx s 5).s.data.toList = (mx s 4).s.data.toList := d4.symm
    have g3 : u64L (uV (mx s 3)) ++ (mx s 4).s.data.toList = (mx s 3).s.data.toList := d3.symm
    have g2 : u64L (uV (mx s 2)) ++ (mx s 3).s.data.toList = (mx s 2).s.data.toList := d2.symm
    have g1 : u64L (uV (mx s 1)) ++ (mx s 2).s.data.toList = (mx s 1).s.data.toList := d1.symm
    have g0 : u64L (uV (mx s 0)) ++ (mx s 1).s.data.toList = s.data.toList := d0.symm
    rw [g8, g7, g6, g5, g4, g3, g2, g1, g0]
  have hok : msgOk (mDec s) = true := by
    unfold msgOk
    rw [hmay, hML, size_list, decide_eq_true hsz]
    rfl
  refine ⟨hok, ?_, hin⟩
  unfold msgS
  rw [if_pos hok, hML, ofL_list]
end Go.Proofs.Ytjojibgihoebaaa.A
namespace Go.Proofs.Ytjojibgihoebaaa.A
open Go.RowKit Go.Proofs.Ytjojibgihoebaaa.U
set_option linter.unusedVariables false
set_option linter.unusedSimpArgs false
set_option maxRecDepth 100000

def m0 : Msg := ⟨7, 1, 0, 9, 0, 2, 0, 0, [], zeroC, ⟨0, 0, 0, 0, 0⟩, ByteArray.empty⟩
theorem m0_in : MIn m0 where
  sp := by
    intro x hx
    simp only [spansL, List.mem_cons, List.not_mem_nil, or_false] at hx
    rcases hx with rfl | rfl | rfl | rfl | rfl | rfl | rfl | rfl | rfl <;> decide
  rp := by
    intro x hx
    simp only [repliesL, List.mem_cons, List.not_mem_nil, or_false] at hx
    rcases hx with rfl | rfl | rfl | rfl <;> decide
  k := by decide
  c := ⟨by decide, by decide, by decide, by decide⟩
  es := fun x hx => by cases hx
theorem z_in : MIn zeroM where
  sp := by
    intro x hx
    simp only [spansL, List.mem_cons, List.not_mem_nil, or_false] at hx
    rcases hx with rfl | rfl | rfl | rfl | rfl | rfl | rfl | rfl | rfl <;> decide
  rp := by
    intro x hx
    simp only [repliesL, List.mem_cons, List.not_mem_nil, or_false] at hx
    rcases hx with rfl | rfl | rfl | rfl <;> decide
  k := by decide
  c := ⟨by decide, by decide, by decide, by decide⟩
  es := fun x hx => by cases hx
theorem m0_L : msgL m0 = [14, 2, 0, 18, 0, 4, 0, 0, 0, 5, 0, 0, 0, 0, 0, 0, 0, 0, 0, 0, 0] := by
  have u (n : Nat) (h : n < 128) : u64L n = [UInt8.ofNat n] := u64L_small h
  unfold msgL hdL spansL tlL
  rw [show encS m0.c = ⟨#[0, 0, 0, 0, 0]⟩ from kZ]
  simp only [List.flatMap_cons, List.flatMap_nil]
  rw [u (zig m0.k) (by decide), u (zig m0.f) (by decide), u (zig m0.t) (by decide), u (zig m0.b) (by decide), u (zig m0.s) (by decide), u (zig m0.r) (by decide), u (zig m0.z) (by decide), u (zig m0.e) (by decide), u (zig (m0.es.length : Int)) (by decide),
    u (ByteArray.mk #[0, 0, 0, 0, 0]).size (by decide), u (zig m0.p.s) (by decide), u (zig m0.p.q) (by decide), u (zig m0.p.e) (by decide), u m0.p.k (by decide), u (zig m0.p.n) (by decide), u m0.x.size (by decide)]
  rfl
theorem m0_ok : msgOk m0 = true := by
  have h : mayM m0 = true := by
    unfold mayM
    rw [show mayB m0.c = true from zC_may]
    decide
  unfold msgOk
  rw [h, m0_L]
  rfl
theorem m0_S : msgS m0 = ⟨#[14, 2, 0, 18, 0, 4, 0, 0, 0, 5, 0, 0, 0, 0, 0, 0, 0, 0, 0, 0, 0]⟩ := by
  unfold msgS
  rw [if_pos m0_ok, m0_L]
  rfl
theorem z_no : msgOk zeroM = false ∧ msgS zeroM = ByteArray.empty := msgOk_f (by
  have h : (spansL zeroM).all Sp.ok = false := by decide
  unfold mayM
  rw [h]
  rfl)
theorem e_no : mOk ⟨#[]⟩ = false := by
  cases h : mOk ⟨#[]⟩ with
  | false => rfl
  | true =>
    exfalso
    obtain ⟨h1, h2, _⟩ := menc_dec h
    have h3 : msgS (mDec ⟨#[]⟩) = ofL (msgL (mDec ⟨#[]⟩)) := by unfold msgS; rw [if_pos h1]
    rw [h2] at h3
    have h4 := congrArg ByteArray.size h3
    rw [ofL_size] at h4
    unfold msgL hdL spansL at h4
    simp only [List.flatMap_cons, List.length_append] at h4
    have := u64L_pos (zig (mDec ⟨#[]⟩).k)
    have h5 : (ByteArray.mk #[]).size = 0 := rfl
    omega
set_option maxHeartbeats 6400000 in
theorem mawake_calls (w : World) : Calls Try.prog 46 #[] w (fun e w' => e = .returned (.bool true) ∧ Keep Nothing w w') := by
  have hu := Try.underlying79
  have hi79 : (Try.prog.info? 79).map (·.size) = some 20 := by kernel_rfl
  have hb : ∀ w', Below w.heap.size w w' → Keep Nothing w w' := fun w' h => Keep.of_below h _
  have hsrc : ∀ W A, U.Src W A 7 0 (ents []) := fun W A => ⟨by simp [ents], fun h => absurd h (by omega)⟩
  have E1 := Lib.hid (show ∀ w, Calls Try.prog 44 #[.agg #[.int .i64 7, .int .i64 1, .int .i64 0, .int .i64 9, .int .i64 0, .int .i64 2, .int .i64 0, .int .i64 0, .slice none 0 0, .int .i64 0, .int .i64 0, .int .i64 0, .string ⟨#[]⟩, .int .i64 0, .int .i64 0, .int .i64 0, .int .i64 0, .int .u64 0, .int .i64 0, .string ⟨#[]⟩]] w (fun e w' => e = .returned (.tuple #[.string ⟨#[14, 2, 0, 18, 0, 4, 0, 0, 0, 5, 0, 0, 0, 0, 0, 0, 0, 0, 0, 0, 0]⟩, .int .i64 0]) ∧ Keep Nothing w w') from fun w => by
    have h := menc_calls w m0 none 0 (hsrc _ _) m0_in
    rw [m0_S, m0_ok] at h
    exact h)
  have E2 := Lib.hid (show ∀ w, Calls Try.prog 47 #[.string ⟨#[14, 2, 0, 18, 0, 4, 0, 0, 0, 5, 0, 0, 0, 0, 0, 0, 0, 0, 0, 0, 0]⟩] w (fun e w' => ∃ A c, e = .returned (.tuple #[.agg #[.int .i64 7, .int .i64 1, .int .i64 0, .int .i64 9, .int .i64 0, .int .i64 2, .int .i64 0, .int .i64 0, .slice A 0 c, .int .i64 0, .int .i64 0, .int .i64 0, .string ⟨#[]⟩, .int .i64 0, .int .i64 0, .int .i64 0, .int .i64 0, .int .u64 0, .int .i64 0, .string ⟨#[]⟩], .int .i64 0]) ∧ Keep Nothing w w') from fun w => by
    have h := mdec_calls w (msgS m0) (by rw [m0_S]; decide)
    have h2 := mdec_enc m0_in m0_ok
    unfold DecPost at h
    rw [h2.2, h2.1, m0_S] at h
    exact h.mono fun e w' ⟨A, c, he, _, _, hk⟩ => ⟨A, c, he, hk⟩)
  have E3 := Lib.hid (show ∀ w, Calls Try.prog 47 #[.string ⟨#[]⟩] w (fun e w' => ∃ A c, e = .returned (.tuple #[.agg #[.int .i64 0, .int .i64 0, .int .i64 0, .int .i64 0, .int .i64 0, .int .i64 0, .int .i64 0, .int .i64 0, .slice A 0 c, .int .i64 0, .int .i64 0, .int .i64 0, .string ⟨#[]⟩, .int .i64 0, .int .i64 0, .int .i64 0, .int .i64 0, .int .u64 0, .int .i64 0, .string ⟨#[]⟩], .int .i64 2]) ∧ Keep Nothing w w') from fun w => by
    have h := mdec_calls w ⟨#[]⟩ (by decide)
    unfold DecPost at h
    rw [mR_no e_no, e_no] at h
    exact h.mono fun e w' ⟨A, c, he, _, _, hk⟩ => ⟨A, c, he, hk⟩)
  have E4 := Lib.hid (show ∀ w, Calls Try.prog 44 #[.agg zm] w (fun e w' => e = .returned (.tuple #[.string ⟨#[]⟩, .int .i64 1]) ∧ Keep Nothing w w') from fun w => by
    have h := menc_calls w zeroM none 0 (hsrc _ _) z_in
    rw [z_no.1, z_no.2] at h
    exact h)
  have E5 := Lib.hid (show ∀ w A c, Calls Try.prog 49 #[.agg #[.int .i64 7, .int .i64 1, .int .i64 0, .int .i64 9, .int .i64 0, .int .i64 2, .int .i64 0, .int .i64 0, .slice none 0 0, .int .i64 0, .int .i64 0, .int .i64 0, .string ⟨#[]⟩, .int .i64 0, .int .i64 0, .int .i64 0, .int .i64 0, .int .u64 0, .int .i64 0, .string ⟨#[]⟩], .agg #[.int .i64 7, .int .i64 1, .int .i64 0, .int .i64 9, .int .i64 0, .int .i64 2, .int .i64 0, .int .i64 0, .slice A 0 c, .int .i64 0, .int .i64 0, .int .i64 0, .string ⟨#[]⟩, .int .i64 0, .int .i64 0, .int .i64 0, .int .i64 0, .int .u64 0, .int .i64 0, .string ⟨#[]⟩]] w (fun e w' => e = .returned (.bool true) ∧ Keep Nothing w w') from fun w A c => by
    have h := same49 w m0 m0 none A 0 c (hsrc _ _) (hsrc _ _) (by decide)
    rw [eqM_same] at h
    exact h)
  have E6 := Lib.hid (show ∀ w, Calls Try.prog 50 #[.agg #[.int .i64 7, .int .i64 1, .int .i64 0, .int .i64 9, .int .i64 0, .int .i64 2, .int .i64 0, .int .i64 0, .slice none 0 0, .int .i64 0, .int .i64 0, .int .i64 0, .string ⟨#[]⟩, .int .i64 0, .int .i64 0, .int .i64 0, .int .i64 0, .int .u64 0, .int .i64 0, .string ⟨#[]⟩], .agg #[.int .i64 7, .int .i64 1, .int .i64 0, .int .i64 9, .int .i64 0, .int .i64 2, .int .i64 0, .int .i64 0, .slice none 0 0, .int .i64 0, .int .i64 0, .int .i64 0, .string ⟨#[]⟩, .int .i64 0, .int .i64 0, .int .i64 0, .int .i64 0, .int .u64 0, .int .i64 0, .string ⟨#[]⟩]] w (fun e w' => e = .returned (.bool true) ∧ Keep Nothing w w') from fun w => by
    have h := msame50 w m0 m0 none none 0 0 (hsrc _ _) (hsrc _ _) (by decide)
    rw [eqM_same] at h
    exact h)
  clear hsrc
  have Z1 := Lib.hid (Blk.fresh w 79 zm)
  have H1 := Lib.hid (held_row (Holds.newBlk (Holds.start w) none_stable 79 zm) none_stable #[.int .i64 7, .int .i64 1, .int .i64 0, .int .i64 9, .int .i64 0, .int .i64 2, .int .i64 0, .int .i64 0, .slice none 0 0, .int .i64 0, .int .i64 0, .int .i64 0, .string ⟨#[]⟩, .int .i64 0, .int .i64 0, .int .i64 0, .int .i64 0, .int .u64 0, .int .i64 0, .string ⟨#[]⟩])
  have B1 := Lib.hid (blk_atM H1.out)
  go_enter Try.func46, Try.ntmps46
  go_wp2_with (first | refine wpList_store_row (by rfl) 79 (.tmp 1) (.tmp 10) (by rfl) w.heap.size #[.int .i64 7, .int .i64 1, .int .i64 0, .int .i64 9, .int .i64 0, .int .i64 2, .int .i64 0, .int .i64 0, .slice none 0 0, .int .i64 0, .int .i64 0, .int .i64 0, .string ⟨#[]⟩, .int .i64 0, .int .i64 0, .int .i64 0, .int .i64 0, .int .u64 0, .int .i64 0, .string ⟨#[]⟩] (by rfl) (by rfl) 79 zm Z1.out hi79 rfl (by simp [Value.oneCell']) ?_ | refine wpList_load_row (by rfl) 79 (.tmp 1) (by rfl) w.heap.size (by rfl) 79 #[.int .i64 7, .int .i64 1, .int .i64 0, .int .i64 9, .int .i64 0, .int .i64 2, .int .i64 0, .int .i64 0, .slice none 0 0, .int .i64 0, .int .i64 0, .int .i64 0, .string ⟨#[]⟩, .int .i64 0, .int .i64 0, .int .i64 0, .int .i64 0, .int .u64 0, .int .i64 0, .string ⟨#[]⟩] (0, 0) _ B1.out hu rfl hi79 ?_)
  refine (E1.out _).mono ?_
  rintro e w1 ⟨rfl, hk1⟩
  have H2 := Lib.hid (H1.out.kept (by repeat (first | exact none_stable | exact wrP_stable _ _ | exact blkP_stable _ _ _ | exact rowP_stable _ _ _ _ _ | apply Stable.star)) hk1)
  clear hk1
  go_wp2_with fail
  refine (E2.out _).mono ?_
  rintro e w2 ⟨A, c, rfl, hk2⟩
  have Z2 := Lib.hid (Blk.fresh w2 79 zm)
  have H3 := Lib.hid (held_row (Holds.newBlk (H2.out.kept (by repeat (first | exact none_stable | exact wrP_stable _ _ | exact blkP_stable _ _ _ | exact rowP_stable _ _ _ _ _ | apply Stable.star)) hk2) (by repeat (first | exact none_stable | exact wrP_stable _ _ | exact blkP_stable _ _ _ | exact rowP_stable _ _ _ _ _ | apply Stable.star)) 79 zm) (by repeat (first | exact none_stable | exact wrP_stable _ _ | exact blkP_stable _ _ _ | exact rowP_stable _ _ _ _ _ | apply Stable.star)) #[.int .i64 7, .int .i64 1, .int .i64 0, .int .i64 9, .int .i64 0, .int .i64 2, .int .i64 0, .int .i64 0, .slice A 0 c, .int .i64 0, .int .i64 0, .int .i64 0, .string ⟨#[]⟩, .int .i64 0, .int .i64 0, .int .i64 0, .int .i64 0, .int .u64 0, .int .i64 0, .string ⟨#[]⟩])
  clear hk2
  go_wp2_with (refine wpList_store_row (by rfl) 79 (.tmp 4) (.tmp 19) (by rfl) w2.heap.size #[.int .i64 7, .int .i64 1, .int .i64 0, .int .i64 9, .int .i64 0, .int .i64 2, .int .i64 0, .int .i64 0, .slice A 0 c, .int .i64 0, .int .i64 0, .int .i64 0, .string ⟨#[]⟩, .int .i64 0, .int .i64 0, .int .i64 0, .int .i64 0, .int .u64 0, .int .i64 0, .string ⟨#[]⟩] (by rfl) (by rfl) 79 zm Z2.out hi79 rfl (by simp [Value.oneCell']) ?_)
  refine (E3.out _).mono ?_
  rintro e w3 ⟨A3, c3, rfl, hk3⟩
  have Z3 := Lib.hid (Blk.fresh w3 79 zm)
  have H4 := Lib.hid (held_row (Holds.newBlk (H3.out.kept (by repeat (first | exact none_stable | exact wrP_stable _ _ | exact blkP_stable _ _ _ | exact rowP_stable _ _ _ _ _ | apply Stable.star)) hk3) (by repeat (first | exact none_stable | exact wrP_stable _ _ | exact blkP_stable _ _ _ | exact rowP_stable _ _ _ _ _ | apply Stable.star)) 79 zm) (by repeat (first | exact none_stable | exact wrP_stable _ _ | exact blkP_stable _ _ _ | exact rowP_stable _ _ _ _ _ | apply Stable.star)) #[.int .i64 0, .int .i64 0, .int .i64 0, .int .i64 0, .int .i64 0, .int .i64 0, .int .i64 0, .int .i64 0, .slice A3 0 c3, .int .i64 0, .int .i64 0, .int .i64 0, .string ⟨#[]⟩, .int .i64 0, .int .i64 0, .int .i64 0, .int .i64 0, .int .u64 0, .int .i64 0, .string ⟨#[]⟩])
  clear hk3
  go_wp2_with (refine wpList_store_row (by rfl) 79 (.tmp 6) (.tmp 23) (by rfl) w3.heap.size #[.int .i64 0, .int .i64 0, .int .i64 0, .int .i64 0, .int .i64 0, .int .i64 0, .int .i64 0, .int .i64 0, .slice A3 0 c3, .int .i64 0, .int .i64 0, .int .i64 0, .string ⟨#[]⟩, .int .i64 0, .int .i64 0, .int .i64 0, .int .i64 0, .int .u64 0, .int .i64 0, .string ⟨#[]⟩] (by rfl) (by rfl) 79 zm Z3.out hi79 rfl (by simp [Value.oneCell']) ?_)
  refine (E4.out _).mono ?_
  rintro e w4 ⟨rfl, hk4⟩
  have H5 := Lib.hid (H4.out.kept (by repeat (first | exact none_stable | exact wrP_stable _ _ | exact blkP_stable _ _ _ | exact rowP_stable _ _ _ _ _ | apply Stable.star)) hk4)
  clear hk4
  have B5 := Lib.hid (blk_atM (H5.out.perm (show _ = star (blkP w.heap.size 79 #[.int .i64 7, .int .i64 1, .int .i64 0, .int .i64 9, .int .i64 0, .int .i64 2, .int .i64 0, .int .i64 0, .slice none 0 0, .int .i64 0, .int .i64 0, .int .i64 0, .string ⟨#[]⟩, .int .i64 0, .int .i64 0, .int .i64 0, .int .i64 0, .int .u64 0, .int .i64 0, .string ⟨#[]⟩]) (star (blkP w3.heap.size 79 #[.int .i64 0, .int .i64 0, .int .i64 0, .int .i64 0, .int .i64 0, .int .i64 0, .int .i64 0, .int .i64 0, .slice A3 0 c3, .int .i64 0, .int .i64 0, .int .i64 0, .string ⟨#[]⟩, .int .i64 0, .int .i64 0, .int .i64 0, .int .i64 0, .int .u64 0, .int .i64 0, .string ⟨#[]⟩]) (star (blkP w2.heap.size 79 #[.int .i64 7, .int .i64 1, .int .i64 0, .int .i64 9, .int .i64 0, .int .i64 2, .int .i64 0, .int .i64 0, .slice A 0 c, .int .i64 0, .int .i64 0, .int .i64 0, .string ⟨#[]⟩, .int .i64 0, .int .i64 0, .int .i64 0, .int .i64 0, .int .u64 0, .int .i64 0, .string ⟨#[]⟩]) none_)) by ac_rfl)))
  have B5' := Lib.hid (blk_atM (H5.out.perm (show _ = star (blkP w2.heap.size 79 #[.int .i64 7, .int .i64 1, .int .i64 0, .int .i64 9, .int .i64 0, .int .i64 2, .int .i64 0, .int .i64 0, .slice A 0 c, .int .i64 0, .int .i64 0, .int .i64 0, .string ⟨#[]⟩, .int .i64 0, .int .i64 0, .int .i64 0, .int .i64 0, .int .u64 0, .int .i64 0, .string ⟨#[]⟩]) (star (blkP w.heap.size 79 #[.int .i64 7, .int .i64 1, .int .i64 0, .int .i64 9, .int .i64 0, .int .i64 2, .int .i64 0, .int .i64 0, .slice none 0 0, .int .i64 0, .int .i64 0, .int .i64 0, .string ⟨#[]⟩, .int .i64 0, .int .i64 0, .int .i64 0, .int .i64 0, .int .u64 0, .int .i64 0, .string ⟨#[]⟩]) (star (blkP w3.heap.size 79 #[.int .i64 0, .int .i64 0, .int .i64 0, .int .i64 0, .int .i64 0, .int .i64 0, .int .i64 0, .int .i64 0, .slice A3 0 c3, .int .i64 0, .int .i64 0, .int .i64 0, .string ⟨#[]⟩, .int .i64 0, .int .i64 0, .int .i64 0, .int .i64 0, .int .u64 0, .int .i64 0, .string ⟨#[]⟩]) none_)) by ac_rfl)))
  go_wp2_with (first | refine wpList_load_guarded 79 (by rfl) (.tmp 1) (by rfl) w.heap.size (by rfl) 79 #[.int .i64 7, .int .i64 1, .int .i64 0, .int .i64 9, .int .i64 0, .int .i64 2, .int .i64 0, .int .i64 0, .slice none 0 0, .int .i64 0, .int .i64 0, .int .i64 0, .string ⟨#[]⟩, .int .i64 0, .int .i64 0, .int .i64 0, .int .i64 0, .int .u64 0, .int .i64 0, .string ⟨#[]⟩] (0, 0) _ B5.out hu rfl hi79 ?_ | refine wpList_load_guarded 79 (by rfl) (.tmp 4) (by rfl) w2.heap.size (by rfl) 79 #[.int .i64 7, .int .i64 1, .int .i64 0, .int .i64 9, .int .i64 0, .int .i64 2, .int .i64 0, .int .i64 0, .slice A 0 c, .int .i64 0, .int .i64 0, .int .i64 0, .string ⟨#[]⟩, .int .i64 0, .int .i64 0, .int .i64 0, .int .i64 0, .int .u64 0, .int .i64 0, .string ⟨#[]⟩] (0, 0) _ B5'.out hu rfl hi79 ?_)
  refine (E5.out _ A c).mono ?_
  rintro e w5 ⟨rfl, hk5⟩
  have H6 := Lib.hid (H5.out.kept (by repeat (first | exact none_stable | exact wrP_stable _ _ | exact blkP_stable _ _ _ | exact rowP_stable _ _ _ _ _ | apply Stable.star)) hk5)
  clear hk5
  have B6 := Lib.hid (blk_atM (H6.out.perm (show _ = star (blkP w.heap.size 79 #[.int .i64 7, .int .i64 1, .int .i64 0, .int .i64 9, .int .i64 0, .int .i64 2, .int .i64 0, .int .i64 0, .slice none 0 0, .int .i64 0, .int .i64 0, .int .i64 0, .string ⟨#[]⟩, .int .i64 0, .int .i64 0, .int .i64 0, .int .i64 0, .int .u64 0, .int .i64 0, .string ⟨#[]⟩]) (star (blkP w3.heap.size 79 #[.int .i64 0, .int .i64 0, .int .i64 0, .int .i64 0, .int .i64 0, .int .i64 0, .int .i64 0, .int .i64 0, .slice A3 0 c3, .int .i64 0, .int .i64 0, .int .i64 0, .string ⟨#[]⟩, .int .i64 0, .int .i64 0, .int .i64 0, .int .i64 0, .int .u64 0, .int .i64 0, .string ⟨#[]⟩]) (star (blkP w2.heap.size 79 #[.int .i64 7, .int .i64 1, .int .i64 0, .int .i64 9, .int .i64 0, .int .i64 2, .int .i64 0, .int .i64 0, .slice A 0 c, .int .i64 0, .int .i64 0, .int .i64 0, .string ⟨#[]⟩, .int .i64 0, .int .i64 0, .int .i64 0, .int .i64 0, .int .u64 0, .int .i64 0, .string ⟨#[]⟩]) none_)) by ac_rfl)))
  go_wp2_with (refine wpList_load_guarded 79 (by rfl) (.tmp 1) (by rfl) w.heap.size (by rfl) 79 #[.int .i64 7, .int .i64 1, .int .i64 0, .int .i64 9, .int .i64 0, .int .i64 2, .int .i64 0, .int .i64 0, .slice none 0 0, .int .i64 0, .int .i64 0, .int .i64 0, .string ⟨#[]⟩, .int .i64 0, .int .i64 0, .int .i64 0, .int .i64 0, .int .u64 0, .int .i64 0, .string ⟨#[]⟩] (0, 0) _ B6.out hu rfl hi79 ?_)
  refine (E6.out _).mono ?_
  rintro e w6 ⟨rfl, hk6⟩
  have H7 := Lib.hid (H6.out.kept (by repeat (first | exact none_stable | exact wrP_stable _ _ | exact blkP_stable _ _ _ | exact rowP_stable _ _ _ _ _ | apply Stable.star)) hk6)
  clear hk6
  go_wp2_with fail
  go_ret
  exact ⟨by simp, hb _ H7.out.below⟩
end Go.Proofs.Ytjojibgihoebaaa.A
