/-
  slices.Insert with one element. Printed by lib/gen_x.py.
-/
import Derived.Test.YtmohpjkbhpgidaaA
import Derived.Test.YtmohpjkbhpgidaaX
namespace Go.Proofs.Ytmohpjkbhpgidaa.A
open Go.RowKit Go.Proofs.Ytmohpjkbhpgidaa.U
set_option linter.unusedVariables false
set_option linter.unusedSimpArgs false
set_option maxRecDepth 100000

theorem ii_overlaps (w : World) {vb g o la ca lb cb : Nat} {news cur : Array Value} (hv : Blk w vb 3 news) (hb : Blk w g 3 cur) (hne : vb ≠ g) (hpos : cur.size ≠ 0) :
    (callFunc 112 #[.slice (some ⟨vb, 0, none⟩) la ca, .slice (some ⟨g, o, none⟩) lb cb]).run Try.prog w = .ok (.value (.bool false)) w := by
  rw [run_callFunc_extern Try.func112 (by kernel_rfl) (by kernel_rfl) (by kernel_rfl) (e := Extern.SlicesOverlaps.overlaps #[26, 26] #[4]) (by kernel_rfl),
    Lib.run_overlaps_apart w 26 4 3 E26.slice 1 (fun w => E26.sz w) ⟨vb, 0, none⟩ ⟨g, o, none⟩ la ca lb cb hne 3 3 news.size cur.size
      (by unfold World.shape?; rw [show w.heap[vb]? = _ from hv]) (by unfold World.shape?; rw [show w.heap[g]? = _ from hb]) hpos (hv.free 0) (hv.free _)]
  rfl
set_option maxHeartbeats 12800000 in
theorem ii_insert (w : World) (v : Value) (n : Nat) (xs : List Value) (hrow : Row w 3 1 v n xs) (i : Nat) (hi : i ≤ n) (vb : Nat) (news : Array Value) (hv : Blk w vb 3 news) (hns : news.size = 1) (hne : v.ownBlock ≠ some vb)
    (h1x : ∀ u ∈ xs, u.oneCell' = true) (h1n : ∀ u ∈ news.toList, u.oneCell' = true) (hn : n ≤ 1000000) :
    Calls Try.prog 100 #[v, .int .i64 i, .slice (some ⟨vb, 0, none⟩) 1 1] w (Put1 3 1 w v (n + 1) (xs.take (i * 1) ++ news.toList ++ xs.drop (i * 1))) := by
  obtain ⟨A, c, rfl, hnc, hcm⟩ := hrow.form
  have hm63 : n + 1 ≤ maxLen := by unfold maxLen; omega
  have hc63 : c ≤ 9223372036854775807 := by unfold maxLen at hcm; omega
  have hbytes : (n + 1) * 8 ≤ 140737488355328 := by omega
  have HR := Lib.hid hrow
  have HV := Lib.hid hv
  have X1 := Lib.hid h1x
  have N1 := Lib.hid h1n
  have HNE := Lib.hid hne
  have SRC := Lib.hid (show Go.Proofs.Ytmohpjkbhpgidaa.U.Src w (some ⟨vb, 0, none⟩) 1 1 news.toList from ⟨by simp [hns], fun _ => ⟨_, rfl, fun j u hu => by rw [addAt, hv.cell, Nat.zero_add]; simpa using hu⟩⟩)
  have xl := Lib.hid hrow.1
  have HNS := Lib.hid hns
  have HM := Lib.hid hcm
  have HM63 := Lib.hid hm63
  have HBY := Lib.hid hbytes
  obtain ⟨A0, hA0, hs0⟩ : ∃ A0 : Option Addr, A0 = (if c = i then A else A.map (·.add (i * 1))) ∧ ∀ w : World, (Instr.slice 26 (.slice A n c) (some (.int .i64 (i : Int))) none none).run Try.prog w = .ok (.slice A0 (n - i) (c - i)) w := ⟨_, rfl, fun w => run_from (P := Try.prog) w E26 A n c i (i : Int) rfl hi⟩
  have HA0 := Lib.hid hA0
  clear hA0
  have hu := Try.underlying26
  clear hrow hv h1x h1n hne hns hcm hm63 hbytes
  obtain ⟨R, HR0⟩ : ∃ R, RowKit.Hid (Put1 3 1 w (.slice A n c) (n + 1) (xs.take (i * 1) ++ news.toList ++ xs.drop (i * 1)) = R) := ⟨_, Lib.hid rfl⟩
  rw [HR0.out]
  by_cases hin : i = n
  · subst hin
    go_enter Try.func100, Try.ntmps100
    go_wp2_with (at_builtin; refine wpList_app _ rfl E26 _ _ rfl HR.out SRC.out 1 rfl rfl N1.out HM63.out HBY.out ?_; intro v' w' hr hg hloc)
    try go_ret
    rw [← HR0.out]
    exact ⟨v', rfl, by
      have e1 : xs.take (i * 1) = xs := List.take_of_length_le (by rw [xl.out]; omega)
      have e2 : xs.drop (i * 1) = [] := List.drop_eq_nil_of_le (by rw [xl.out]; omega)
      rw [e1, e2, List.append_nil]; exact hr, hg, hloc.imp id fun h => ⟨_, h, Nat.le_refl _⟩⟩
  · have hlt : i < n := by omega
    have gin : ((i : Int) == (n : Int)) = false := by rw [beq_eq_false_iff_ne]; omega
    have wn1 : IntKind.i64.wrap ((n : Int) + 1) = (n : Int) + 1 := by rw [IntKind.wrap_i64]; omega
    have wi1 : IntKind.i64.wrap ((i : Int) + 1) = (i : Int) + 1 := by rw [IntKind.wrap_i64]; omega
    have wni : IntKind.i64.wrap ((n : Int) + 1 - (i : Int)) = ((n + 1 - i : Nat) : Int) := by rw [IntKind.wrap_i64]; omega
    have gni : ((n : Int) + 1 - (i : Int)) = ((n + 1 - i : Nat) : Int) := by omega
    by_cases hroom : n + 1 ≤ c
    · rcases HR.out.2 with ⟨h0, h00⟩ | ⟨g, o, cap, cur, hv0, hb, k1, k2, k3, k4⟩
      · omega
      · injection hv0 with e1 _ e3
        subst e1 e3
        have hgv : vb ≠ g := fun e => HNE.out (by rw [e]; rfl)
        have hcs : cur.size ≠ 0 := by omega
        have hci : ¬ (c = i) := by omega
        have hci1 : ¬ (c = i + 1) := by omega
        have hs1 := fun w => run_upto (P := Try.prog) w E26 (some ⟨g, o, none⟩) n c (n + 1) ((n : Int) + 1) (by omega) hroom
        have hs2 : ∀ w : World, (Instr.slice 26 (.slice (some ⟨g, o, none⟩) (n + 1) c) (some (.int .i64 ((i : Int) + 1))) none none).run Try.prog w = .ok (.slice (some ⟨g, o + (i + 1) * 1, none⟩) (n + 1 - (i + 1)) (c - (i + 1))) w := fun w => by
          rw [run_from (P := Try.prog) w E26 (some ⟨g, o, none⟩) (n + 1) c (i + 1) ((i : Int) + 1) (by omega) (by omega), if_neg hci1, Option.map_some, addAt]
        have hs3 : ∀ w : World, (Instr.slice 26 (.slice (some ⟨g, o, none⟩) (n + 1) c) (some (.int .i64 (i : Int))) none none).run Try.prog w = .ok (.slice (some ⟨g, o + i * 1, none⟩) (n + 1 - i) (c - i)) w := fun w => by
          rw [run_from (P := Try.prog) w E26 (some ⟨g, o, none⟩) (n + 1) c i (i : Int) rfl (by omega), if_neg hci, Option.map_some, addAt]
        have hov := fun o lb cb => ii_overlaps w (la := 1) (ca := 1) (o := o) (lb := lb) (cb := cb) HV.out hb hgv hcs
        obtain ⟨w1, w2, hC1, hC2, hR, hK⟩ := ins_room (P := Try.prog) w.drew E26 hb.drew hroom HM.out k3 k4 hlt HV.out.drew HNS.out hgv X1.out N1.out
        have C1 := Lib.hid hC1
        have C2 := Lib.hid hC2
        have R2 := Lib.hid hR
        have K2 := Lib.hid hK
        clear hb k1 k2 k3 k4 hgv hcs hC1 hC2 hR hK
        go_enter Try.func100, Try.ntmps100
        go_wp2_with (simp only [hov])
        go_region_law (first | (refine step_copy_run _ (by rfl) (.tmp 73) (.tmp 76) 26 26 (by rfl) _ _ (by simp [Act.eval, Act.put]) (by simp [Act.eval, Act.put]) C1.out ?_))
        have c2 := C2.out
        (try simp only [Nat.mul_one] at c2)
        go_wp2_with fail
        try go_ret
        rw [← HR0.out]
        exact ⟨_, rfl, R2.out, ⟨K2.out.os, K2.out.tape, K2.out.output, K2.out.size, fun k hk hne => K2.out.block k hk fun e => hne (by rw [e]; rfl)⟩, .inl rfl⟩
    · have hic : i ≤ c := by omega
      have gnr : ¬ (n + 1 ≤ c) := hroom
      have gcn : (c : Int) < (n : Int) + 1 := by omega
      have hs1 := fun w => run_upto (P := Try.prog) w E26 A n c i (i : Int) rfl hic
      obtain ⟨w1, w2, w3, c1, hge, hc1, hAP, hC1, hC2, hR, hK⟩ := ins_grow (P := Try.prog) w E26 (tn := 3) (kn := .i64) (by kernel_rfl) HR.out hlt (by omega) HM63.out HBY.out HV.out HNS.out X1.out N1.out
      rw [← HA0.out] at hC2
      have hci : ¬ (c1 = i) := by omega
      have hci1 : ¬ (c1 = i + 1) := by omega
      have hs2 : ∀ w' : World, (Instr.slice 26 (.slice (some ⟨w.heap.size, 0, none⟩) (n + 1) c1) (some (.int .i64 ((i : Int) + 1))) none none).run Try.prog w' = .ok (.slice (some ⟨w.heap.size, (i + 1) * 1, none⟩) (n + 1 - (i + 1)) (c1 - (i + 1))) w' := fun w' => by
        rw [run_from (P := Try.prog) w' E26 (some ⟨w.heap.size, 0, none⟩) (n + 1) c1 (i + 1) ((i : Int) + 1) (by omega) (by omega), if_neg hci1, Option.map_some, addAt, Nat.zero_add]
      have hs3 : ∀ w' : World, (Instr.slice 26 (.slice (some ⟨w.heap.size, 0, none⟩) (n + 1) c1) (some (.int .i64 (i : Int))) none none).run Try.prog w' = .ok (.slice (some ⟨w.heap.size, i * 1, none⟩) (n + 1 - i) (c1 - i)) w' := fun w' => by
        rw [run_from (P := Try.prog) w' E26 (some ⟨w.heap.size, 0, none⟩) (n + 1) c1 i (i : Int) rfl (by omega), if_neg hci, Option.map_some, addAt, Nat.zero_add]
      have AP := Lib.hid hAP
      have C1 := Lib.hid hC1
      have C2 := Lib.hid hC2
      have R2 := Lib.hid hR
      have K2 := Lib.hid hK
      clear hAP hC1 hC2 hR hK
      obtain ⟨g, hg⟩ : ∃ g, g = w.heap.size := ⟨_, rfl⟩
      have HG := Lib.hid hg
      rw [← hg] at AP C1 C2 R2 hs2 hs3
      clear hg
      have c1' := C1.out
      (try simp only [Nat.mul_one] at c1')
      go_enter Try.func100, Try.ntmps100
      go_wp2_with (at_builtin; refine Lib.wpList_append_run _ rfl (.tmp 34) (.tmp 39) 26 3 rfl _ _ rfl rfl _ _ (AP.out _) ?_)
      go_region_law (first | (refine step_copy_run _ (by rfl) (.tmp 50) (.tmp 53) 26 26 (by rfl) _ _ (by simp [Act.eval, Act.put]) (by simp [Act.eval, Act.put]) C2.out ?_))
      go_wp2_with fail
      try go_ret
      rw [← HR0.out]
      exact ⟨_, rfl, R2.out, K2.out.grownBy (fun k h => h.elim), .inr ⟨_, rfl, by rw [HG.out]; exact Nat.le_refl _⟩⟩
end Go.Proofs.Ytmohpjkbhpgidaa.A
