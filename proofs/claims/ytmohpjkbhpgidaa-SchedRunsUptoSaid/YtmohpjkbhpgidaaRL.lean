/-
  The reference's rows: Put, Drop, Waits.
-/
import Derived.Test.YtmohpjkbhpgidaaRI
namespace Go.Proofs.Ytmohpjkbhpgidaa.A
open Go.RowKit Go.Proofs.Ytmohpjkbhpgidaa.U
set_option linter.unusedVariables false
set_option linter.unusedSimpArgs false
set_option maxRecDepth 100000

theorem take_next {W : List Int} {k : Nat} {y : Int} (h : W[k]? = some y) : W.take (k + 1) = W.take k ++ [y] := by
  rw [List.take_add_one, h]; rfl
theorem put_first : ∀ (W : List Int) (x : Int) (k : Nat), (∀ (j : Nat) (y : Int), j < k → W[j]? = some y → y < x) → (k = W.length ∨ ∃ y, W[k]? = some y ∧ ¬ y < x) → W.take k ++ [x] ++ W.drop k = putI W x
  | [], x, k, _, h => by
    rcases h with h | ⟨y, h, _⟩
    · subst h; simp [putI]
    · simp at h
  | z :: l, x, 0, _, h => by
    rcases h with h | ⟨y, h, hy⟩
    · simp at h
    · simp at h; subst h; simp [putI, hy]
  | z :: l, x, k + 1, hlt, h => by
    have hz : z < x := hlt 0 z (by omega) rfl
    have := put_first l x k (fun j y hj e => hlt (j + 1) y (by omega) (by simpa using e)) (by simpa using h)
    simp only [putI, hz, if_true, List.take_succ_cons, List.drop_succ_cons, List.cons_append]
    rw [← this]
/-- The slice grows by one at its end, all of it made here. -/
theorem fresh_grew {w wr w3 : World} {A2 A3 : Option Addr} {k k3 c2 c3 : Nat} (hk : Keep Nothing w wr) (ho : ∀ g, (Value.slice A2 k c2).ownBlock = some g → w.heap.size ≤ g) (hg : wr.grownBy w3 (Value.slice A2 k c2).ownBlock)
    (hl : (Value.slice A3 k3 c3).ownBlock = (Value.slice A2 k c2).ownBlock ∨ (Value.slice A3 k3 c3).ownBlock = some wr.heap.size) : Keep Nothing w w3 ∧ ∀ g, (Value.slice A3 k3 c3).ownBlock = some g → w.heap.size ≤ g := by
  refine ⟨hk.grown hg (fun i hi => .inr (ho i hi)), fun g hg => ?_⟩
  rcases hl with h | h
  · exact ho g (by rw [← h]; exact hg)
  · rw [h] at hg
    injection hg with hg
    have := hk.size
    omega
set_option maxHeartbeats 3200000 in
theorem drop_calls (w : World) (A : Option Addr) (n c : Nat) (W : List Int) (x : Int) (h : U.Src w A 1 n (ints W)) (hn : n ≤ 1000000) :
    Calls Try.prog 76 #[.slice A n c, .int .i64 x] w (FreshInts (dropI W x) w) := by
  have hW := ints_len h
  have H := Lib.hid h
  clear h
  go_enter Try.func76, Try.ntmps76
  go_wp2_with fail
  go_loopw [5, 6] (fun vs vi wr => ∃ (k m : Nat) (A2 : Option Addr) (c2 : Nat), k ≤ n ∧ m ≤ k ∧ vi = .int .i64 k ∧ vs = .slice A2 m c2 ∧ Row wr 3 1 (.slice A2 m c2) m (ints (dropI (W.take k) x)) ∧ Keep Nothing w wr ∧ ∀ g, (Value.slice A2 m c2).ownBlock = some g → w.heap.size ≤ g) (fun vs vi _ => n - (intOf vi).toNat)
  case atStart => exact ⟨0, 0, none, 0, by omega, by omega, by simp, by simp, Row.nil _ 3 1, Keep.same _ _, fun g hg => by simp [Value.ownBlock] at hg⟩
  case round =>
    obtain ⟨k, m, A2, c2, hk, hm, rfl, rfl, hr2, hk2, ho2⟩ := hrel
    have R2 := Lib.hid hr2
    have K2 := Lib.hid hk2
    have O2 := Lib.hid ho2
    clear hr2 hk2 ho2
    by_cases hlt : k < n
    · obtain ⟨ad, y, rfl, hy, he⟩ := i_at H.out hlt
      have c0 := K2.out.cell he (fun h => h)
      have TN := Lib.hid (take_next hy)
      clear hy he
      cases hyx : y != x with
      | true =>
        have TD := Lib.hid (show dropI (W.take (k + 1)) x = dropI (W.take k) x ++ [y] by rw [TN.out]; unfold dropI; rw [List.filter_append]; simp [hyx])
        have SRC := Lib.hid (U.Src.one wr (.int .i64 y) 3)
        go_wp2_with (at_builtin; refine wpList_app _ rfl E26 (.tmp 19) (.tmp 24) rfl (R2.out.alloc _) SRC.out 1 rfl rfl (by simp [Value.oneCell']) (by unfold maxLen; omega) (by omega) ?_)
        intro v3 w3 hr3 hg3 hl3
        obtain ⟨A3, c3, rfl, _, _⟩ := hr3.form
        have R3 := Lib.hid hr3
        have FG := Lib.hid (fresh_grew (K2.out.alloc (.cells #[.int .i64 y] 3)) O2.out hg3 (by simpa using hl3))
        clear hr3 hg3 hl3 c0
        go_wp2_with fail
        go_roundw
        case rel => exact ⟨k + 1, m + 1, A3, c3, by omega, by omega, by go_num, by simp, by rw [TD.out, ints_app]; exact R3.out, FG.out.1, FG.out.2⟩
        case measure => simp [intOf]; omega
      | false =>
        have TD := Lib.hid (show dropI (W.take (k + 1)) x = dropI (W.take k) x by rw [TN.out]; unfold dropI; rw [List.filter_append]; simp [hyx])
        go_wp2_with fail
        go_roundw
        case rel => exact ⟨k + 1, m, A2, c2, by omega, by omega, by go_num, by simp, by rw [TD.out]; exact R2.out, K2.out, O2.out⟩
        case measure => simp [intOf]; omega
    · obtain rfl : k = n := by omega
      go_wp2_with fail
      go_ret
      have := R2.out
      rw [List.take_of_length_le (by omega)] at this
      obtain rfl : m = (dropI W x).length := by have := this.1; simpa [ints] using this.symm
      exact ⟨A2, c2, rfl, this, K2.out, O2.out⟩
theorem src_kept {w w' : World} {A : Option Addr} {s n : Nat} {xs : List Value} (h : U.Src w A s n xs) (hk : Keep Nothing w w') : U.Src w' A s n xs :=
  ⟨h.1, fun hn => let ⟨ad, e, hc⟩ := h.2 hn; ⟨ad, e, fun j u hu => hk.cell (hc j u hu) (fun h => h)⟩⟩
theorem fresh_put {w w8 : World} {A8 : Option Addr} {c8 m k : Nat} {W : List Int} {x : Int} (hm : m = W.length + 1) (hp : W.take k ++ [x] ++ W.drop k = putI W x) (hr : Row w8 3 1 (.slice A8 m c8) m ((ints (W.take k) ++ [.int .i64 x]) ++ (ints W).drop k))
    (hk : Keep Nothing w w8) (ho : ∀ g, (Value.slice A8 m c8).ownBlock = some g → w.heap.size ≤ g) : FreshInts (putI W x) w (.returned (.slice A8 m c8)) w8 := by
  subst hm
  have e : (ints (W.take k) ++ [.int .i64 x]) ++ (ints W).drop k = ints (putI W x) := by rw [← hp]; simp [ints, List.map_drop]
  rw [e] at hr
  unfold FreshInts
  rw [putI_len]
  exact ⟨A8, c8, rfl, hr, hk, ho⟩
/-- A cut 's[k:]' of an argument. -/
theorem src_from {w : World} {A : Option Addr} {n c k : Nat} {W : List Int} (h : U.Src w A 1 n (ints W)) (hk : k ≤ n) (hc : n ≤ c) : U.Src w (if c = k then A else A.map (·.add (k * 1))) 1 (n - k) ((ints W).drop k) := by
  refine ⟨by rw [List.length_drop, h.1]; omega, fun hn => ?_⟩
  obtain ⟨ad, rfl, hcell⟩ := h.2 (by omega)
  rw [if_neg (by omega)]
  refine ⟨ad.add (k * 1), rfl, fun j u hu => ?_⟩
  rw [List.getElem?_drop] at hu
  rw [addAdd, Nat.mul_one]
  exact hcell _ u hu
set_option maxHeartbeats 3200000 in
theorem put_calls (w : World) (A : Option Addr) (n c : Nat) (W : List Int) (x : Int) (h : U.Src w A 1 n (ints W)) (hn : n ≤ 1000000) (hc : n ≤ c) :
    Calls Try.prog 101 #[.slice A n c, .int .i64 x] w (FreshInts (putI W x) w) := by
  have hW := ints_len h
  have H := Lib.hid h
  have O1 := Lib.hid (fun (k : Nat) => (fun u hu => ints_one W u (List.mem_of_mem_drop hu) : ∀ u ∈ (ints W).drop k, u.oneCell' = true))
  clear h
  go_enter Try.func101, Try.ntmps101
  go_wp2_with fail
  go_loopw [5, 6] (fun vs vi wr => ∃ (k : Nat) (A2 : Option Addr) (c2 : Nat), k ≤ n ∧ vi = .int .i64 k ∧ vs = .slice A2 k c2 ∧ Row wr 3 1 (.slice A2 k c2) k (ints (W.take k)) ∧ (∀ (j : Nat) (y : Int), j < k → W[j]? = some y → y < x) ∧ Keep Nothing w wr ∧ ∀ g, (Value.slice A2 k c2).ownBlock = some g → w.heap.size ≤ g) (fun vs vi _ => n - (intOf vi).toNat)
  case atStart => exact ⟨0, none, 0, by omega, by simp, by simp, Row.nil _ 3 1, fun j y hj => by omega, Keep.same _ _, fun g hg => by simp [Value.ownBlock] at hg⟩
  case round =>
    obtain ⟨k, A2, c2, hk, rfl, rfl, hr2, hlt2, hk2, ho2⟩ := hrel
    have R2 := Lib.hid hr2
    have LT := Lib.hid hlt2
    have K2 := Lib.hid hk2
    have O2 := Lib.hid ho2
    clear hr2 hk2 ho2 hlt2
    have go : (k = n ∧ W.take k ++ [x] ++ W.drop k = putI W x) ∨ (∃ (ad : Addr) (y : Int), A = some ad ∧ k < n ∧ wr.cell? (ad.add k) = some (.int .i64 y) ∧ decide (y < x) = false ∧ W.take k ++ [x] ++ W.drop k = putI W x) ∨
        ∃ (ad : Addr) (y : Int), A = some ad ∧ k < n ∧ W[k]? = some y ∧ wr.cell? (ad.add k) = some (.int .i64 y) ∧ decide (y < x) = true := by
      by_cases hlt : k < n
      · obtain ⟨ad, y, rfl, hy, he⟩ := i_at H.out hlt
        have c0 := K2.out.cell he (fun h => h)
        cases hyx : decide (y < x) with
        | true => exact .inr (.inr ⟨ad, y, rfl, hlt, hy, c0, hyx⟩)
        | false => exact .inr (.inl ⟨ad, y, rfl, hlt, c0, hyx, put_first W x k LT.out (.inr ⟨y, hy, of_decide_eq_false hyx⟩)⟩)
      · exact .inl ⟨by omega, put_first W x k LT.out (.inl (by omega))⟩
    rcases go with ⟨rfl, hp⟩ | ⟨ad, y, rfl, hlt, c0, hyx, hp⟩ | ⟨ad, y, rfl, hlt, hy, c0, hyx⟩
    · have P := Lib.hid hp
      clear hp
      have SRC := Lib.hid (show U.Src (wr.drew.alloc (.cells #[.int .i64 x] 3)) (some ⟨wr.heap.size, 0, none⟩) 1 1 [.int .i64 x] from U.Src.one wr.drew (.int .i64 x) 3)
      obtain ⟨A1, hA1, hs1, TT⟩ : ∃ A1 : Option Addr, A1 = (if c = k then A else A.map (·.add (k * 1))) ∧ (∀ w : World, (Instr.slice 26 (.slice A k c) (some (.int .i64 (k : Int))) none none).run Try.prog w = .ok (.slice A1 (k - k) (c - k)) w) ∧ Hid (∀ w' : World, Keep Nothing w w' → U.Src w' A1 1 (k - k) ((ints W).drop k)) :=
        ⟨_, rfl, fun w => run_from (P := Try.prog) w E26 A k c k (k : Int) rfl hk, Lib.hid fun w' hk' => src_from (src_kept H.out hk') hk hc⟩
      clear hA1
      have d1 : k + 1 ≤ maxLen := by unfold maxLen; omega
      have d2 : (k + 1) * 8 ≤ 140737488355328 := by omega
      have d3 : k + 1 + (k - k) ≤ maxLen := by unfold maxLen; omega
      have d4 : (k + 1 + (k - k)) * 8 ≤ 140737488355328 := by omega
      go_wp2_with fail
      go_region_law (first | (refine step_app _ (by rfl) E26 (.tmp 28) (.tmp 30) (by rfl) (R2.out.keep (S := Nothing) (by repeat (first | exact Keep.same _ _ | apply Keep.alloc | apply Keep.drewN | apply Keep.drew)) (fun _ _ h => h)) SRC.out 1 (by simp [Act.eval, Act.put]) (by simp [Act.eval, Act.put]) (by simp [Value.oneCell']) d1 d2 ?_; intro A7 c7 w7 hr7 hg7 hl7; have FG7 := Lib.hid (fresh_grew (K2.out.then (by repeat (first | exact Keep.same _ _ | apply Keep.alloc | apply Keep.drewN | apply Keep.drew))) O2.out hg7 (by simpa using hl7)); have R7 := Lib.hid hr7; have T7 := Lib.hid (TT.out w7 FG7.out.1); clear hr7 hg7 hl7) | (refine step_app _ (by rfl) E26 (.tmp 31) (.tmp 34) (by rfl) R7.out T7.out (c - k) (by simp [Act.eval, Act.put]) (by simp [Act.eval, Act.put]) (O1.out k) d3 d4 ?_; intro A8 c8 w8 hr8 hg8 hl8; have FG8 := Lib.hid (fresh_grew FG7.out.1 FG7.out.2 hg8 hl8); have R8 := Lib.hid hr8; clear hr8 hg8 hl8))
      all_goals go_wp2
      all_goals go_ret
      all_goals have R9 := R8.out
      all_goals try simp only [Nat.sub_self, Nat.add_zero] at R9
      all_goals have R10 := FG8.out.2
      all_goals try simp only [Nat.sub_self, Nat.add_zero] at R10
      all_goals exact fresh_put (by omega) P.out R9 FG8.out.1 R10
    · have P := Lib.hid hp
      clear hp
      have SRC := Lib.hid (show U.Src (wr.drew.alloc (.cells #[.int .i64 x] 3)) (some ⟨wr.heap.size, 0, none⟩) 1 1 [.int .i64 x] from U.Src.one wr.drew (.int .i64 x) 3)
      obtain ⟨A1, hA1, hs1, TT⟩ : ∃ A1 : Option Addr, A1 = (if c = k then some ad else (some ad).map (·.add (k * 1))) ∧ (∀ w : World, (Instr.slice 26 (.slice (some ad) n c) (some (.int .i64 (k : Int))) none none).run Try.prog w = .ok (.slice A1 (n - k) (c - k)) w) ∧ Hid (∀ w' : World, Keep Nothing w w' → U.Src w' A1 1 (n - k) ((ints W).drop k)) :=
        ⟨_, rfl, fun w => run_from (P := Try.prog) w E26 (some ad) n c k (k : Int) rfl hk, Lib.hid fun w' hk' => src_from (src_kept H.out hk') hk hc⟩
      clear hA1
      have d1 : k + 1 ≤ maxLen := by unfold maxLen; omega
      have d2 : (k + 1) * 8 ≤ 140737488355328 := by omega
      have d3 : k + 1 + (n - k) ≤ maxLen := by unfold maxLen; omega
      have d4 : (k + 1 + (n - k)) * 8 ≤ 140737488355328 := by omega
      go_wp2_with fail
      go_region_law (first | (refine step_app _ (by rfl) E26 (.tmp 28) (.tmp 30) (by rfl) (R2.out.keep (S := Nothing) (by repeat (first | exact Keep.same _ _ | apply Keep.alloc | apply Keep.drewN | apply Keep.drew)) (fun _ _ h => h)) SRC.out 1 (by simp [Act.eval, Act.put]) (by simp [Act.eval, Act.put]) (by simp [Value.oneCell']) d1 d2 ?_; intro A7 c7 w7 hr7 hg7 hl7; have FG7 := Lib.hid (fresh_grew (K2.out.then (by repeat (first | exact Keep.same _ _ | apply Keep.alloc | apply Keep.drewN | apply Keep.drew))) O2.out hg7 (by simpa using hl7)); have R7 := Lib.hid hr7; have T7 := Lib.hid (TT.out w7 FG7.out.1); clear hr7 hg7 hl7) | (refine step_app _ (by rfl) E26 (.tmp 31) (.tmp 34) (by rfl) R7.out T7.out (c - k) (by simp [Act.eval, Act.put]) (by simp [Act.eval, Act.put]) (O1.out k) d3 d4 ?_; intro A8 c8 w8 hr8 hg8 hl8; have FG8 := Lib.hid (fresh_grew FG7.out.1 FG7.out.2 hg8 hl8); have R8 := Lib.hid hr8; clear hr8 hg8 hl8))
      all_goals go_wp2
      all_goals go_ret
      all_goals have R9 := R8.out
      all_goals try simp only [Nat.sub_self, Nat.add_zero] at R9
      all_goals have R10 := FG8.out.2
      all_goals try simp only [Nat.sub_self, Nat.add_zero] at R10
      all_goals exact fresh_put (by omega) P.out R9 FG8.out.1 R10
    · have TN := Lib.hid (take_next hy)
      have LT' := Lib.hid (show ∀ (j : Nat) (z : Int), j < k + 1 → W[j]? = some z → z < x from fun j z hj hz => by
        by_cases h : j < k
        · exact LT.out j z h hz
        · obtain rfl : j = k := by omega
          rw [hy] at hz
          injection hz with hz
          subst hz
          exact of_decide_eq_true hyx)
      clear hy
      have SRC := Lib.hid (U.Src.one wr (.int .i64 y) 3)
      go_wp2_with (at_builtin; refine wpList_app _ rfl E26 (.tmp 19) (.tmp 24) rfl (R2.out.alloc _) SRC.out 1 rfl rfl (by simp [Value.oneCell']) (by unfold maxLen; omega) (by omega) ?_)
      intro v3 w3 hr3 hg3 hl3
      obtain ⟨A3, c3, rfl, _, _⟩ := hr3.form
      have R3 := Lib.hid hr3
      have FG := Lib.hid (fresh_grew (K2.out.alloc (.cells #[.int .i64 y] 3)) O2.out hg3 (by simpa using hl3))
      clear hr3 hg3 hl3 c0
      go_wp2_with fail
      go_roundw
      case rel => exact ⟨k + 1, A3, c3, by omega, by go_num, by simp, by rw [TN.out, ints_app]; exact R3.out, LT'.out, FG.out.1, FG.out.2⟩
      case measure => simp [intOf]; omega
end Go.Proofs.Ytmohpjkbhpgidaa.A
