/-
  Bounded; the clocks' New, At, Real, has.
-/
import Derived.Test.YtdipjjngemgldaaS
import Derived.Test.YtdipjjngemgldaaR
namespace Go.Proofs.Ytdipjjngemgldaa.A
open Go.RowKit Go.Proofs.Ytdipjjngemgldaa.U
set_option linter.unusedVariables false
set_option linter.unusedSimpArgs false
set_option maxRecDepth 100000

def ints (L : List Int) : List Value := L.map fun n => .int .i64 n
theorem ints_app (L M : List Int) : ints (L ++ M) = ints L ++ ints M := by simp [ints]
theorem ints_one (L : List Int) : ∀ u ∈ ints L, u.oneCell' = true := by
  intro u hu
  obtain ⟨x, _, rfl⟩ := List.mem_map.1 hu
  rfl
theorem E33 : Elem Try.prog 33 3 1 8 (.int .i64 0) := ⟨Try.underlying33, by kernel_rfl, by rfl, by decide⟩
theorem i_at {w : World} {A : Option Addr} {L : List Int} {n k : Nat} (h : Src w A 1 n (ints L)) (hk : k < n) : ∃ (ad : Addr) (x : Int), A = some ad ∧ L[k]? = some x ∧ w.cell? (ad.add k) = some (.int .i64 x) := by
  obtain ⟨ad, u, rfl, hu, hc⟩ := h.at_ hk
  simp only [ints, List.getElem?_map, Option.map_eq_some_iff] at hu
  obtain ⟨x, hx, rfl⟩ := hu
  exact ⟨ad, x, rfl, hx, hc⟩
theorem ints_len {w : World} {A : Option Addr} {L : List Int} {n : Nat} (h : Src w A 1 n (ints L)) : L.length = n := by
  have := h.1
  simpa [ints] using this
def bnd (a b : Int) : Bool := decide (0 ≤ a ∧ a ≤ 1099511627776 ∧ 0 ≤ b ∧ b ≤ 1099511627776 ∧ 8 * b ≤ 9 * a ∧ 7 * a ≤ 8 * b)
theorem bounded_calls (w : World) (a b : Int) : Calls Try.prog 7 #[.int .i64 a, .int .i64 b] w (fun e w' => e = .returned (.bool (bnd a b)) ∧ w' = w) := by
  by_cases h1 : a < 0 ∨ 1099511627776 < a ∨ b < 0 ∨ 1099511627776 < b
  · have B := Lib.hid (show bnd a b = false from decide_eq_false (by omega))
    rcases (show a < 0 ∨ (¬ a < 0 ∧ 1099511627776 < a) ∨ (¬ a < 0 ∧ ¬ 1099511627776 < a ∧ b < 0) ∨ (¬ a < 0 ∧ ¬ 1099511627776 < a ∧ ¬ b < 0 ∧ 1099511627776 < b) by omega) with h | ⟨h2, h⟩ | ⟨h2, h3, h⟩ | ⟨h2, h3, h4, h⟩
    · go_enter Try.func7, Try.ntmps7
      go_wp2_with fail
      go_ret
      exact ⟨by rw [B.out]; rfl, rfl⟩
    · have g1 : decide (a < 0) = false := decide_eq_false h2
      go_enter Try.func7, Try.ntmps7
      go_wp2_with fail
      go_ret
      exact ⟨by rw [B.out]; rfl, rfl⟩
    · have g1 : decide (a < 0) = false := decide_eq_false h2
      have g2 : decide (1099511627776 < a) = false := decide_eq_false h3
      go_enter Try.func7, Try.ntmps7
      go_wp2_with fail
      go_ret
      exact ⟨by rw [B.out]; rfl, rfl⟩
    · have g1 : decide (a < 0) = false := decide_eq_false h2
      have g2 : decide (1099511627776 < a) = false := decide_eq_false h3
      have g3 : decide (b < 0) = false := decide_eq_false h4
      go_enter Try.func7, Try.ntmps7
      go_wp2_with fail
      go_ret
      exact ⟨by rw [B.out]; rfl, rfl⟩
  · have g1 : decide (a < 0) = false := decide_eq_false (by omega)
    have g2 : decide (1099511627776 < a) = false := decide_eq_false (by omega)
    have g3 : decide (b < 0) = false := decide_eq_false (by omega)
    have g4 : decide (1099511627776 < b) = false := decide_eq_false (by omega)
    have w1 : IntKind.i64.wrap (8 * b) = 8 * b := by rw [IntKind.wrap_i64]; omega
    have w2 : IntKind.i64.wrap (9 * a) = 9 * a := by rw [IntKind.wrap_i64]; omega
    have w3 : IntKind.i64.wrap (7 * a) = 7 * a := by rw [IntKind.wrap_i64]; omega
    by_cases h2 : 8 * b ≤ 9 * a
    · by_cases h3 : 7 * a ≤ 8 * b
      · have B := Lib.hid (show bnd a b = true from decide_eq_true (by omega))
        have g5 : decide (8 * b ≤ 9 * a) = true := decide_eq_true h2
        have g6 : decide (7 * a ≤ 8 * b) = true := decide_eq_true h3
        go_enter Try.func7, Try.ntmps7
        go_wp2_with fail
        go_ret
        exact ⟨by rw [B.out]; rfl, rfl⟩
      · have B := Lib.hid (show bnd a b = false from decide_eq_false (by omega))
        have g5 : decide (8 * b ≤ 9 * a) = true := decide_eq_true h2
        have g6 : decide (7 * a ≤ 8 * b) = false := decide_eq_false h3
        go_enter Try.func7, Try.ntmps7
        go_wp2_with fail
        go_ret
        exact ⟨by rw [B.out]; rfl, rfl⟩
    · have B := Lib.hid (show bnd a b = false from decide_eq_false (by omega))
      have g5 : decide (8 * b ≤ 9 * a) = false := decide_eq_false h2
      go_enter Try.func7, Try.ntmps7
      go_wp2_with fail
      go_ret
      exact ⟨by rw [B.out]; rfl, rfl⟩
/-- Clocks: a block with a slice of numbers ahead and a number behind. -/
def ckP (t b : Nat) (L : List Int) (r : Int) : SP := fun w F => ∃ v, Blk w b t #[v, .int .i64 r] ∧ Row w 3 1 v L.length (ints L) ∧ ∀ k, F k ↔ k = b ∨ v.ownBlock = some k
theorem ckP_stable (t b : Nat) (L : List Int) (r : Int) : Stable (ckP t b L r) where
  keep := fun ⟨v, hb, hr, hF⟩ hk hn => ⟨v, hb.keep hk (hn b ((hF b).2 (.inl rfl))), hr.keep hk (fun g hg => hn g ((hF g).2 (.inr hg))), hF⟩
  lt := fun ⟨v, hb, hr, hF⟩ hk => by
    rcases (hF _).1 hk with h | h
    · rw [h]; exact hb.lt
    · exact hr.lt _ h
/-- A number is put into a row. -/
theorem row_set {w : World} {ad : Addr} {n c k : Nat} {L : List Int} (h : Row w 3 1 (.slice (some ad) n c) n (ints L)) (hk : k < n) (x : Int) :
    w.frozen? (ad.add k) = false ∧ (Value.slice (some ad) n c).ownBlock = some (ad.add k).block ∧ Row (w.setCell (ad.add k) (.int .i64 x)) 3 1 (.slice (some ad) n c) n (ints (L.set k x)) := by
  rcases h.2 with ⟨h0, _⟩ | ⟨g, o, cap, cur, hv, hb, h1, h2, h3, h4⟩
  · cases h0
  · injection hv with e1 _ e3
    injection e1 with e1
    subst e1 e3
    rw [addAt]
    refine ⟨hb.free _, rfl, ?_, .inr ⟨g, o, c, _, rfl, hb.put (o + k) (.int .i64 x), h1, h2, by simpa using h3, ?_⟩⟩
    · have := h.1
      simpa [ints] using this
    · rw [Array.toList_setIfInBounds, List.drop_set, if_neg (by omega), Nat.add_sub_cancel_left, List.take_set, h4]
      simp [ints, List.map_set]
def zeros (n : Nat) : List Int := List.replicate n 0
theorem made_zeros (n : Nat) : (madeCells #[.int .i64 0] n).toList = ints (zeros n) := by
  unfold madeCells ints zeros
  simp only [Array.toList_map, Array.toList_range, List.map_replicate]
  apply List.ext_getElem
  · simp
  · intro i h1 h2
    simp [Nat.mod_one]
def ckNew (w : World) (t b n : Nat) (w' : World) : Prop := Keep Nothing w w' ∧ ckP t b (zeros n) 0 w' (fun k => w.heap.size ≤ k ∧ k < w.heap.size + 2)
theorem new_ck (w : World) (t n : Nat) (hn : n ≤ 13) : ckNew w t (w.heap.size + 1) n ((w.alloc (.cells (madeCells #[.int .i64 0] n) 3)).alloc (.cells #[.slice (some ⟨w.heap.size, 0, none⟩) n n, .int .i64 0] t)) := by
  have hz : (madeCells #[.int .i64 0] n).size = n := by
    have := congrArg List.length (made_zeros n)
    simpa [ints, zeros] using this
  have hr := Row.fresh w 3 1 n (madeCells #[.int .i64 0] n) (by rw [hz]; omega) (by unfold maxLen; omega)
  rw [made_zeros] at hr
  have hlen : (zeros n).length = n := by simp [zeros]
  refine ⟨((Keep.same Nothing w).alloc _).alloc _, .slice (some ⟨w.heap.size, 0, none⟩) n n, ?_, ?_, fun k => ?_⟩
  · have := Blk.fresh (w.alloc (.cells (madeCells #[.int .i64 0] n) 3)) t #[.slice (some ⟨w.heap.size, 0, none⟩) n n, .int .i64 0]
    simpa using this
  · rw [hlen]
    exact hr.keep ((Keep.same Nothing _).alloc _) (fun _ _ h => h)
  · simp only [Value.ownBlock, Option.some.injEq]
    omega
theorem new_bad (w : World) (n : Int) (h : n < 1 ∨ 13 < n) : Calls Try.prog 9 #[.int .i64 n] w (fun e w' => e = .returned (.pointer none) ∧ w' = w) := by
  rcases (show n < 1 ∨ (¬ n < 1 ∧ 13 < n) by omega) with h1 | ⟨h1, h2⟩
  · clear h
    go_enter Try.func9, Try.ntmps9
    go_wp2_with fail
    go_ret
    exact ⟨rfl, rfl⟩
  · have g1 : decide (n < 1) = false := decide_eq_false h1
    clear h
    go_enter Try.func9, Try.ntmps9
    go_wp2_with fail
    go_ret
    exact ⟨rfl, rfl⟩
theorem new_ok (w : World) (n : Nat) (h0 : 1 ≤ n) (h1 : n ≤ 13) : Calls Try.prog 9 #[.int .i64 n] w (fun e w' => e = .returned (.pointer (some ⟨w.heap.size + 1, 0, none⟩)) ∧ ckNew w 55 (w.heap.size + 1) n w') := by
  have hmk := fun w => run_make_n (P := Try.prog) w E33 n .i64 .i64 n n rfl rfl (by omega) (by unfold maxLen; omega)
  have g1 : decide ((n : Int) < 1) = false := decide_eq_false (by omega)
  have g2 : decide ((13 : Int) < n) = false := decide_eq_false (by omega)
  go_enter Try.func9, Try.ntmps9
  go_wp2_with fail
  go_ret
  exact ⟨rfl, new_ck w 55 n h1⟩
theorem rnew_bad (w : World) (n : Int) (h : n < 1 ∨ 13 < n) : Calls Try.prog 10 #[.int .i64 n] w (fun e w' => e = .returned (.pointer none) ∧ w' = w) := by
  rcases (show n < 1 ∨ (¬ n < 1 ∧ 13 < n) by omega) with h1 | ⟨h1, h2⟩
  · clear h
    go_enter Try.func10, Try.ntmps10
    go_wp2_with fail
    go_ret
    exact ⟨rfl, rfl⟩
  · have g1 : decide (n < 1) = false := decide_eq_false h1
    clear h
    go_enter Try.func10, Try.ntmps10
    go_wp2_with fail
    go_ret
    exact ⟨rfl, rfl⟩
theorem rnew_ok (w : World) (n : Nat) (h0 : 1 ≤ n) (h1 : n ≤ 13) : Calls Try.prog 10 #[.int .i64 n] w (fun e w' => e = .returned (.pointer (some ⟨w.heap.size + 1, 0, none⟩)) ∧ ckNew w 44 (w.heap.size + 1) n w') := by
  have hmk := fun w => run_make_n (P := Try.prog) w E33 n .i64 .i64 n n rfl rfl (by omega) (by unfold maxLen; omega)
  have g1 : decide ((n : Int) < 1) = false := decide_eq_false (by omega)
  have g2 : decide ((13 : Int) < n) = false := decide_eq_false (by omega)
  go_enter Try.func10, Try.ntmps10
  go_wp2_with fail
  go_ret
  exact ⟨rfl, new_ck w 44 n h1⟩
def atV (L : List Int) (k : Int) : Int := if 0 ≤ k then L.getD k.toNat 0 else 0
theorem has_calls (w : World) (b : Nat) (F : Nat → Prop) (L : List Int) (r : Int) (h : ckP 55 b L r w F) (k : Int) :
    Calls Try.prog 19 #[.pointer (some ⟨b, 0, none⟩), .int .i64 k] w (fun e w' => e = .returned (.bool (decide (0 ≤ k ∧ k < L.length))) ∧ w' = w) := by
  have hu := Try.underlying55
  obtain ⟨v, hb, hr, hF⟩ := h
  obtain ⟨A, c, rfl, _, _⟩ := hr.form
  have hc0 := hb.cell 0
  have hc1 := hb.cell 1
  have R := Lib.hid hr
  clear hb hr hF
  by_cases h1 : 0 ≤ k
  · have g1 : decide (0 ≤ k) = true := decide_eq_true h1
    by_cases h2 : k < L.length
    · have D := Lib.hid (show decide (0 ≤ k ∧ k < L.length) = true from decide_eq_true ⟨h1, h2⟩)
      have g2 : decide (k < (L.length : Int)) = true := decide_eq_true h2
      go_enter Try.func19, Try.ntmps19
      go_wp2_with fail
      go_ret
      exact ⟨by first | rfl | (rw [D.out]; rfl), rfl⟩
    · have D := Lib.hid (show decide (0 ≤ k ∧ k < L.length) = false from decide_eq_false (fun h => h2 h.2))
      have g2 : decide (k < (L.length : Int)) = false := decide_eq_false h2
      go_enter Try.func19, Try.ntmps19
      go_wp2_with fail
      go_ret
      exact ⟨by first | rfl | (rw [D.out]; rfl), rfl⟩
  · have D := Lib.hid (show decide (0 ≤ k ∧ k < L.length) = false from decide_eq_false (fun h => h1 h.1))
    have g1 : decide (0 ≤ k) = false := decide_eq_false h1
    go_enter Try.func19, Try.ntmps19
    go_wp2_with fail
    go_ret
    exact ⟨by first | rfl | (rw [D.out]; rfl), rfl⟩
theorem at_calls (w : World) (b : Nat) (F : Nat → Prop) (L : List Int) (r : Int) (h : ckP 55 b L r w F) (k : Int) :
    Calls Try.prog 15 #[.pointer (some ⟨b, 0, none⟩), .int .i64 k] w (fun e w' => e = .returned (.int .i64 (atV L k)) ∧ w' = w) := by
  have hu := Try.underlying55
  have HH := Lib.hid (has_calls w b F L r h k)
  obtain ⟨v, hb, hr, hF⟩ := h
  obtain ⟨A, c, rfl, _, _⟩ := hr.form
  have hc0 := hb.cell 0
  have hc1 := hb.cell 1
  have R := Lib.hid hr
  clear hb hr hF
  by_cases h1 : 0 ≤ k ∧ k < L.length
  · rw [decide_eq_true h1] at HH
    obtain ⟨j, rfl⟩ : ∃ j : Nat, k = j := ⟨k.toNat, by omega⟩
    obtain ⟨ad, x, rfl, hx, hc⟩ := i_at R.out.src (show j < L.length by omega)
    have V := Lib.hid (show atV L j = x by unfold atV; rw [if_pos h1.1, Int.toNat_natCast, List.getD_eq_getElem?_getD, hx]; rfl)
    have j1 : (j : Int) < L.length := h1.2
    clear hx h1
    go_enter Try.func15, Try.ntmps15
    go_wp2_with fail
    refine HH.out.mono ?_
    rintro e w' ⟨rfl, rfl⟩
    go_wp2_with fail
    go_ret
    exact ⟨by rw [V.out]; rfl, rfl⟩
  · rw [decide_eq_false h1] at HH
    have V := Lib.hid (show atV L k = 0 by
      unfold atV
      split
      · rw [List.getD_eq_getElem?_getD, List.getElem?_eq_none (by omega)]; rfl
      · rfl)
    clear h1
    go_enter Try.func15, Try.ntmps15
    go_wp2_with fail
    refine HH.out.mono ?_
    rintro e w' ⟨rfl, rfl⟩
    go_wp2_with fail
    go_ret
    exact ⟨by rw [V.out]; rfl, rfl⟩
theorem real_calls (w : World) (b : Nat) (F : Nat → Prop) (L : List Int) (r : Int) (h : ckP 55 b L r w F) :
    Calls Try.prog 17 #[.pointer (some ⟨b, 0, none⟩)] w (fun e w' => e = .returned (.int .i64 r) ∧ w' = w) := by
  have hu := Try.underlying55
  obtain ⟨v, hb, hr, hF⟩ := h
  obtain ⟨A, c, rfl, _, _⟩ := hr.form
  have hc0 := hb.cell 0
  have hc1 := hb.cell 1
  have R := Lib.hid hr
  clear hb hr hF
  go_enter Try.func17, Try.ntmps17
  go_wp2_with fail
  go_ret
  exact ⟨rfl, rfl⟩
theorem neg_calls (w : World) (n : Int) : Calls Try.prog 21 #[.int .i64 n] w (fun e w' => e = .returned (.bool (decide (n < 0))) ∧ w' = w) := by
  go_enter Try.func21, Try.ntmps21
  go_wp2_with fail
  go_ret
  exact ⟨rfl, rfl⟩
theorem ifn_calls (w : World) (A : Option Addr) (n c : Nat) (M : List Int) (h : Src w A 1 n (ints M)) (hn : n ≤ 9223372036854775807) :
    Calls Try.prog 22 #[.slice A n c, .func (.func 21) #[] #[]] w (fun e w' => ∃ i : Int, e = .returned (.int .i64 i) ∧ (0 ≤ i ↔ ∃ x ∈ M, x < 0) ∧ w' = w) := by
  have hL := ints_len h
  have H := Lib.hid h
  clear h
  go_enter Try.func22, Try.ntmps22
  go_wp2_with fail
  go_loopw [8] (fun v wr => wr = w ∧ ∃ k : Nat, k ≤ n ∧ v = .int .i64 k ∧ ∀ j y, j < k → M[j]? = some y → ¬ y < 0) (fun v _ => n - (intOf v).toNat)
  case atStart => exact ⟨by trivial, 0, by omega, by simp, fun j y hj => by omega⟩
  case round =>
    obtain ⟨rfl, k, hk, rfl, hne⟩ := hrel
    have NE := Lib.hid hne
    clear hne
    by_cases hlt : k < n
    · obtain ⟨ad, y, rfl, hy, hc⟩ := i_at H.out hlt
      have HY := Lib.hid hy
      have HN := Lib.hid (neg_calls wr y)
      clear hy
      by_cases he : y < 0
      · rw [decide_eq_true he] at HN
        have D := Lib.hid (show ∃ x ∈ M, x < 0 from ⟨y, List.mem_of_getElem? HY.out, he⟩)
        clear he
        go_wp2_with fail
        refine HN.out.mono ?_
        rintro e w' ⟨rfl, rfl⟩
        go_wp2_with fail
        go_ret
        exact ⟨k, rfl, ⟨fun _ => D.out, fun _ => by omega⟩, rfl⟩
      · rw [decide_eq_false he] at HN
        have HE := Lib.hid he
        clear he
        go_wp2_with fail
        refine HN.out.mono ?_
        rintro e w' ⟨rfl, rfl⟩
        go_wp2_with fail
        go_roundw
        case rel => exact ⟨by trivial, k + 1, by omega, by go_num, fun j z hj hz => by
          by_cases h : j < k
          · have := NE.out j z h hz; omega
          · obtain rfl : j = k := by omega
            rw [HY.out] at hz
            injection hz with hz
            subst hz
            have := HE.out; omega⟩
        case measure => simp [intOf]; omega
    · obtain rfl : k = n := by omega
      have D := Lib.hid (show ¬ ∃ x ∈ M, x < 0 from (by
        rintro ⟨x, hx, h0⟩
        obtain ⟨i, hi, e⟩ := List.mem_iff_getElem.1 hx
        exact NE.out i x (by omega) (by rw [List.getElem?_eq_getElem hi, e]) h0))
      go_wp2_with fail
      go_ret
      exact ⟨-1, rfl, ⟨fun h => by omega, fun h => absurd h D.out⟩, rfl⟩
theorem cfn_calls (w : World) (A : Option Addr) (n c : Nat) (M : List Int) (h : Src w A 1 n (ints M)) (hn : n ≤ 9223372036854775807) :
    Calls Try.prog 20 #[.slice A n c, .func (.func 21) #[] #[]] w (fun e w' => e = .returned (.bool (decide (∃ x ∈ M, x < 0))) ∧ w' = w) := by
  have H := Lib.hid (ifn_calls w A n c M h hn)
  clear h
  go_enter Try.func20, Try.ntmps20
  go_wp2_with fail
  refine H.out.mono ?_
  rintro e w' ⟨i, rfl, hi, rfl⟩
  have D := Lib.hid hi
  by_cases he : 0 ≤ i
  · have g1 : decide (0 ≤ i) = true := decide_eq_true he
    have X := Lib.hid (show decide (∃ x ∈ M, x < 0) = true from decide_eq_true (hi.1 he))
    clear hi he
    go_wp2_with fail
    go_ret
    exact ⟨by rw [X.out]; rfl, rfl⟩
  · have g1 : decide (0 ≤ i) = false := decide_eq_false he
    have X := Lib.hid (show decide (∃ x ∈ M, x < 0) = false from decide_eq_false (fun h => he (hi.2 h)))
    clear hi he
    go_wp2_with fail
    go_ret
    exact ⟨by rw [X.out]; rfl, rfl⟩
end Go.Proofs.Ytdipjjngemgldaa.A
