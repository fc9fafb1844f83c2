/-
  LearnerOrder: slots that are learned in any order, some of them twice, are told once each, in order, with what came first (T1).
-/
import Derived.Test.YtcbjmmjjohigmaaT
import Derived.Test.YtcbjmmjjohigmaaP
namespace Go.Proofs.Ytcbjmmjjohigmaa.A
open Go.RowKit Go.Proofs.Ytcbjmmjjohigmaa.U
set_option linter.unusedVariables false
set_option linter.unusedSimpArgs false
set_option maxRecDepth 100000

def intC (n : {n : Int // I64 n}) : List Value := [.int .i64 n.1]
theorem int_all {w : World} {B : Nat} {A : Option Addr} {len : Nat} {l : List {n : Int // I64 n}} (h : R.Args w B A len 1 intC l) {k : Nat} (hk : k < len) :
    ∃ (ad : Addr) (x : {n : Int // I64 n}), A = some ad ∧ l[k]? = some x ∧ ∀ w', Below B w w' → w'.cell? (ad.add k) = some (.int .i64 x.1) := by
  have hl := h.1
  obtain ⟨ad, e, hB, hc⟩ := h.2 k (l[k]'(by omega)) (List.getElem?_eq_getElem (by omega))
  refine ⟨ad, _, e, List.getElem?_eq_getElem (by omega), fun w' hw => ?_⟩
  have hb : (ad.add k).block < B := by rw [addBlock]; exact hB
  have := hc 0 _ rfl
  rw [Nat.mul_one, Nat.add_zero] at this
  exact (hw.cell (p := ad.add k) hb).trans this
def slotOf (n x : Int) : Int := (x.tmod n + n).tmod n + 1
theorem slotOf_in {n x : Int} (hn : 1 ≤ n) : 1 ≤ slotOf n x ∧ slotOf n x ≤ n := by
  unfold slotOf
  have h1 := Int.tmod_lt_of_pos x (show 0 < n by omega)
  have h2 : -n < x.tmod n := by
    have := Int.lt_tmod_of_pos x (show 0 < n by omega)
    omega
  have h3 := Int.tmod_nonneg n (show 0 ≤ x.tmod n + n by omega)
  have h4 := Int.tmod_lt_of_pos (x.tmod n + n) (show 0 < n by omega)
  omega
/-- The i-th slot that is learned. -/
def slotAt (n : Int) (l : List {n : Int // I64 n}) (i : Nat) : Int := match l[i]? with
  | some x => slotOf n x.1
  | none => (i : Int) - l.length + 1
def slotsTo (n : Int) (l : List {n : Int // I64 n}) (i : Nat) : List Int := (List.range i).map (slotAt n l)
theorem slots_next (n : Int) (l : List {n : Int // I64 n}) (i : Nat) : slotsTo n l (i + 1) = slotsTo n l i ++ [slotAt n l i] := by
  simp [slotsTo, List.range_succ]
theorem slots_all (n : Nat) (l : List {n : Int // I64 n}) (s : Int) (h1 : 1 ≤ s) (h2 : s ≤ n) : s ∈ slotsTo n l (l.length + n) := by
  unfold slotsTo
  refine List.mem_map.2 ⟨l.length + (s.toNat - 1), List.mem_range.2 (by omega), ?_⟩
  unfold slotAt
  rw [List.getElem?_eq_none (by omega)]
  simp only
  omega
set_option maxHeartbeats 25600000 in
theorem order_mid (w : World) (N : Nat) (hN1 : 2 ≤ N) (hN2 : N ≤ 29) (A : Option Addr) (len cap : Nat) (l : List {n : Int // I64 n}) (hA : R.Args w w.heap.size A len 1 intC l) (hlen : len ≤ cap) (hcap : cap ≤ maxLen) (hbig : len ≤ 140737488355328) :
    Calls Try.prog 3 #[.int .i64 (N : Int), .slice A len cap] w (fun e w' => e = .returned (.bool true) ∧ Keep Nothing w w') := by
  have HA := Lib.hid hA
  have LL := Lib.hid hA.1
  have hb : ∀ w', Below w.heap.size w w' → Keep Nothing w w' := fun w' h => Keep.of_below h _
  have H0 := Lib.hid (Holds.start w)
  have LS := Lib.hid lnP_stable
  have SR := Lib.hid rowP_stable
  have SN := Lib.hid none_stable
  have hmax : maxLen = 9223372036854775807 := by rfl
  have LN0 := Lib.hid (learnt_none (N : Int) (by omega))
  have hu30 := Try.underlying30
  have hu28 := Try.underlying28
  have m1 : ¬ (30 : Int) ≤ N := by omega
  have m2 : ¬ (N : Int) ≤ 1 := by omega
  have m3 : (N : Int) < 30 := by omega
  have m4 : (1 : Int) < N := by omega
  clear hA
  go_enter Try.func3, Try.ntmps3
  go_wp2_with fail
  refine (new_calls _ 0).mono ?_
  rintro e w1 ⟨rfl, hw1⟩
  have H1 := Lib.hid (show Holds w.heap.size w w1 (star (lnP 51 w.heap.size 0 []) none_) by rw [hw1]; exact Holds.newLn H0.out SN.out 51 _)
  clear hw1
  go_wp2_with fail
  generalize hg1 : w.heap.size = b1 at *
  clear hg1
  go_loopw [6, 7] (fun vn v wr => ∃ (i : Nat) (a : Int) (L : List Ent), i ≤ 400 ∧ i ≤ len + N ∧ v = .int .i64 i ∧ vn = .int .i64 (a + 1) ∧ L.length ≤ i ∧ Learnt (N : Int) (slotsTo (N : Int) l i) a L ∧ Holds b1 w wr (star (lnP 51 b1 a L) none_)) (fun vn v _ => 400 - (intOf v).toNat)
  case atStart => exact ⟨0, 0, [], by omega, by omega, by simp, by simp, by simp, LN0.out, H1.out⟩
  case round =>
    obtain ⟨i, a, L, hi, hil, rfl, rfl, hL, hln, hh⟩ := hrel
    have H := Lib.hid hh
    have LN := Lib.hid hln
    have a0 := hln.lo
    have a1 := hln.hi
    clear hh hln
    by_cases hin : i < len + N ∧ i < 400
    · obtain ⟨hi1, hi2⟩ := hin
      have w1 : IntKind.i64.wrap ((i : Int) - len) = (i : Int) - len := by rw [IntKind.wrap_i64]; omega
      have w2 : IntKind.i64.wrap ((i : Int) - len + 1) = (i : Int) - len + 1 := by rw [IntKind.wrap_i64]; omega
      have w3 : IntKind.i64.wrap ((len : Int) + (N : Int)) = (len : Int) + (N : Int) := by rw [IntKind.wrap_i64]; omega
      have g1 : decide ((i : Int) < (len : Int) + (N : Int)) = true := decide_eq_true (by omega)
      have g2 : decide (i < 400) = true := decide_eq_true hi2
      have g2' : decide ((i : Int) < 400) = true := decide_eq_true (by omega)
      by_cases hil2 : i < len
      · obtain ⟨ad, x, rfl, hx, hat⟩ := int_all HA.out hil2
        have c0 := hat _ H.out.below
        have g3 : decide (i < len) = true := decide_eq_true hil2
        obtain ⟨hs1, hs2⟩ := slotOf_in (n := (N : Int)) (x := x.1) (by omega)
        obtain ⟨s, hs⟩ : ∃ s, slotOf (N : Int) x.1 = s := ⟨_, rfl⟩
        have SA := Lib.hid (show slotAt (N : Int) l i = s by unfold slotAt; rw [hx]; exact hs)
        have t1 := Int.tmod_lt_of_pos x.1 (show (0 : Int) < (N : Int) by omega)
        have t2 : -(N : Int) < x.1.tmod (N : Int) := Int.lt_tmod_of_pos x.1 (show (0 : Int) < (N : Int) by omega)
        have w4 : IntKind.i64.wrap (x.1.tmod (N : Int) + (N : Int)) = x.1.tmod (N : Int) + (N : Int) := by rw [IntKind.wrap_i64]; omega
        have w5 : IntKind.i64.wrap (x.1.tmod (N : Int) % (N : Int) + 1) = s := by
          have e : x.1.tmod (N : Int) % (N : Int) + 1 = s := by
            have h := hs
            unfold slotOf at h
            rw [Int.tmod_eq_emod_of_nonneg (by omega)] at h
            simpa using h
          rw [e, IntKind.wrap_i64]
          rw [hs] at hs1 hs2
          omega
        rw [hs] at hs1 hs2
        clear hx hat hs
        have X8 : Hid (Calls Try.prog 8 #[.pointer (some ⟨b1, 0, none⟩), .agg #[.int .i64 s, .int .i64 0, .int .i64 1, .int .i64 0, .int .i64 0, .string ⟨#[]⟩, .int .i64 s]] wr (Made b1 w (lnP 51 b1 (lnR L a (mkE s)).1 (lnL L a (mkE s))) none_ (lnR L a (mkE s)).2)) := Lib.hid (x_learn H.out SN.out (mkE s) (by omega) (by omega) (by omega))
        have LX := Lib.hid (learnt_next LN.out (by omega) hs1 hs2)
        have LLn := Lib.hid (lnL_len L a (mkE s))
        go_wp2_with fail
        refine X8.out.mono ?_
        rintro e wl ⟨A2, c2, rfl, h2⟩
        have H2 := Lib.hid h2
        clear h2
        generalize lnL L a (mkE s) = L6 at *
        generalize hR : lnR L a (mkE s) = RR at *
        obtain ⟨a6, M⟩ := RR
        have M1 := Lib.hid LX.out.2.2
        have ha6 : a6 = a + M.length := LX.out.2.1
        have LN6 := Lib.hid LX.out.1
        have a60 := LX.out.1.lo
        have a61 := LX.out.1.hi
        have hl6 := LLn.out
        have HA6 := Lib.hid ha6
        have hml : a + M.length ≤ (N : Int) := by have h1 : a6 ≤ (N : Int) := a61; omega
        clear hR ha6 LX LLn X8 c0
        simp only [] at H2 LN6 M1
        go_wp2_with fail
        go_loopw [6, 10] (fun vn v wr2 => wr2 = wl ∧ ∃ k : Nat, k ≤ M.length ∧ v = .int .i64 k ∧ vn = .int .i64 (a + 1 + k)) (fun vn v _ => M.length - (intOf v).toNat)
        case atStart => exact ⟨by trivial, 0, by omega, by simp, by simp⟩
        case round =>
          obtain ⟨rfl, k, hk, rfl, rfl⟩ := hrel
          by_cases hkm : k < M.length
          · obtain ⟨ad2, y, rfl, hy, he⟩ := ent_at H2.out.row.src hkm
            obtain rfl : y = mkE (a + 1 + k) := M1.out k y hy
            have e0 : World.cell? _ (ad2.add (k * 7)) = some (Value.int .i64 (a + 1 + k)) := he.1
            have e6 : World.cell? _ ⟨(ad2.add (k * 7)).block, (ad2.add (k * 7)).off + 6, none⟩ = some (Value.int .i64 (a + 1 + k)) := he.2.2.2.2.2.2
            have w9 : IntKind.i64.wrap (a + 1 + (k : Int) + 1) = a + 1 + (k : Int) + 1 := by rw [IntKind.wrap_i64]; omega
            have HK := Lib.hid hkm
            clear he hy
            go_wp2_with fail
            go_roundw
            case rel => exact ⟨by trivial, k + 1, HK.out, by go_num, congrArg (Value.int .i64) (by omega)⟩
            case measure => have hkk := HK.out; simp [intOf]; omega
          · obtain rfl : k = M.length := by omega
            go_wp2_with fail
            go_roundw
            case rel => exact ⟨i + 1, a6, L6, by omega, by omega, by go_num, congrArg (Value.int .i64) (by have := HA6.out; omega), by omega, by rw [slots_next, SA.out]; exact LN6.out, H2.out.drop⟩
            case measure => simp [intOf]; omega
      · have g3 : decide (i < len) = false := decide_eq_false hil2
        obtain ⟨s, hs⟩ : ∃ s, (i : Int) - len + 1 = s := ⟨_, rfl⟩
        have hs1 : 1 ≤ s := by omega
        have hs2 : s ≤ (N : Int) := by omega
        have SA := Lib.hid (show slotAt (N : Int) l i = s by
          unfold slotAt
          rw [List.getElem?_eq_none (by have := LL.out; omega)]
          simp only
          rw [LL.out]
          exact hs)
        have w2' := w2.trans hs
        clear hs w2
        have X8 : Hid (Calls Try.prog 8 #[.pointer (some ⟨b1, 0, none⟩), .agg #[.int .i64 s, .int .i64 0, .int .i64 1, .int .i64 0, .int .i64 0, .string ⟨#[]⟩, .int .i64 s]] wr (Made b1 w (lnP 51 b1 (lnR L a (mkE s)).1 (lnL L a (mkE s))) none_ (lnR L a (mkE s)).2)) := Lib.hid (x_learn H.out SN.out (mkE s) (by omega) (by omega) (by omega))
        have LX := Lib.hid (learnt_next LN.out (by omega) hs1 hs2)
        have LLn := Lib.hid (lnL_len L a (mkE s))
        go_wp2_with fail
        refine X8.out.mono ?_
        rintro e wl ⟨A2, c2, rfl, h2⟩
        have H2 := Lib.hid h2
        clear h2
        generalize lnL L a (mkE s) = L6 at *
        generalize hR : lnR L a (mkE s) = RR at *
        obtain ⟨a6, M⟩ := RR
        have M1 := Lib.hid LX.out.2.2
        have ha6 : a6 = a + M.length := LX.out.2.1
        have LN6 := Lib.hid LX.out.1
        have a60 := LX.out.1.lo
        have a61 := LX.out.1.hi
        have hl6 := LLn.out
        have HA6 := Lib.hid ha6
        have hml : a + M.length ≤ (N : Int) := by have h1 : a6 ≤ (N : Int) := a61; omega
        clear hR ha6 LX LLn X8
        simp only [] at H2 LN6 M1
        go_wp2_with fail
        go_loopw [6, 10] (fun vn v wr2 => wr2 = wl ∧ ∃ k : Nat, k ≤ M.length ∧ v = .int .i64 k ∧ vn = .int .i64 (a + 1 + k)) (fun vn v _ => M.length - (intOf v).toNat)
        case atStart => exact ⟨by trivial, 0, by omega, by simp, by simp⟩
        case round =>
          obtain ⟨rfl, k, hk, rfl, rfl⟩ := hrel
          by_cases hkm : k < M.length
          · obtain ⟨ad2, y, rfl, hy, he⟩ := ent_at H2.out.row.src hkm
            obtain rfl : y = mkE (a + 1 + k) := M1.out k y hy
            have e0 : World.cell? _ (ad2.add (k * 7)) = some (Value.int .i64 (a + 1 + k)) := he.1
            have e6 : World.cell? _ ⟨(ad2.add (k * 7)).block, (ad2.add (k * 7)).off + 6, none⟩ = some (Value.int .i64 (a + 1 + k)) := he.2.2.2.2.2.2
            have w9 : IntKind.i64.wrap (a + 1 + (k : Int) + 1) = a + 1 + (k : Int) + 1 := by rw [IntKind.wrap_i64]; omega
            have HK := Lib.hid hkm
            clear he hy
            go_wp2_with fail
            go_roundw
            case rel => exact ⟨by trivial, k + 1, HK.out, by go_num, congrArg (Value.int .i64) (by omega)⟩
            case measure => have hkk := HK.out; simp [intOf]; omega
          · obtain rfl : k = M.length := by omega
            go_wp2_with fail
            go_roundw
            case rel => exact ⟨i + 1, a6, L6, by omega, by omega, by go_num, congrArg (Value.int .i64) (by have := HA6.out; omega), by omega, by rw [slots_next, SA.out]; exact LN6.out, H2.out.drop⟩
            case measure => simp [intOf]; omega
    · have w3 : IntKind.i64.wrap ((len : Int) + (N : Int)) = (len : Int) + (N : Int) := by rw [IntKind.wrap_i64]; omega
      by_cases h300 : 300 < len
      · have g5 : decide (300 < len) = true := decide_eq_true h300
        by_cases h4 : i < len + N
        · have g1 : decide ((i : Int) < (len : Int) + (N : Int)) = true := decide_eq_true (by omega)
          have g2 : decide (i < 400) = false := decide_eq_false (by omega)
          have g2' : decide ((i : Int) < 400) = false := decide_eq_false (by omega)
          clear hin
          go_wp2_with fail
          refine (awake_calls _).mono ?_
          rintro e w2 ⟨rfl, hk⟩
          have K := Lib.hid hk
          clear hk
          go_wp2_with fail
          go_ret
          exact ⟨rfl, (hb _ H.out.below).then K.out⟩
        · have g1 : decide ((i : Int) < (len : Int) + (N : Int)) = false := decide_eq_false (by omega)
          clear hin
          go_wp2_with fail
          refine (awake_calls _).mono ?_
          rintro e w2 ⟨rfl, hk⟩
          have K := Lib.hid hk
          clear hk
          go_wp2_with fail
          go_ret
          exact ⟨rfl, (hb _ H.out.below).then K.out⟩
      · have g5 : decide (300 < len) = false := decide_eq_false h300
        have hall : i = len + N := by omega
        have AA := Lib.hid (learnt_all LN.out (by
          intro s h1 h2
          have := slots_all N l s h1 h2
          rwa [LL.out, ← hall] at this))
        obtain rfl : a = (N : Int) := AA.out
        have XA := Lib.hid (x_applied H.out)
        have w6 : IntKind.i64.wrap ((N : Int) + 1) = (N : Int) + 1 := by rw [IntKind.wrap_i64]; omega
        clear hin
        have g1 : decide ((i : Int) < (len : Int) + (N : Int)) = false := decide_eq_false (by omega)
        go_wp2_with fail
        refine XA.out.mono ?_
        rintro e w' ⟨rfl, rfl⟩
        go_wp2_with fail
        refine (awake_calls _).mono ?_
        rintro e w2 ⟨rfl, hk⟩
        have K := Lib.hid hk
        clear hk
        go_wp2_with fail
        go_ret
        exact ⟨rfl, (hb _ H.out.below).then K.out⟩
set_option maxHeartbeats 25600000 in
theorem order_one (w : World) (n : Int) (hn : n ≤ 1) (A : Option Addr) (len cap : Nat) (l : List {n : Int // I64 n}) (hA : R.Args w w.heap.size A len 1 intC l) (hlen : len ≤ cap) (hcap : cap ≤ maxLen) (hbig : len ≤ 140737488355328) :
    Calls Try.prog 3 #[.int .i64 n, .slice A len cap] w (fun e w' => e = .returned (.bool true) ∧ Keep Nothing w w') := by
  have HA := Lib.hid hA
  have LL := Lib.hid hA.1
  have hb : ∀ w', Below w.heap.size w w' → Keep Nothing w w' := fun w' h => Keep.of_below h _
  have H0 := Lib.hid (Holds.start w)
  have LS := Lib.hid lnP_stable
  have SR := Lib.hid rowP_stable
  have SN := Lib.hid none_stable
  have hmax : maxLen = 9223372036854775807 := by rfl
  have LN0 := Lib.hid (learnt_none 1 (by omega))
  have hu30 := Try.underlying30
  have hu28 := Try.underlying28
  have m1 : ¬ (30 : Int) ≤ n := by omega
  have m3 : n < 30 := by omega
  clear hA
  go_enter Try.func3, Try.ntmps3
  go_wp2_with fail
  refine (new_calls _ 0).mono ?_
  rintro e w1 ⟨rfl, hw1⟩
  have H1 := Lib.hid (show Holds w.heap.size w w1 (star (lnP 51 w.heap.size 0 []) none_) by rw [hw1]; exact Holds.newLn H0.out SN.out 51 _)
  clear hw1
  go_wp2_with fail
  generalize hg1 : w.heap.size = b1 at *
  clear hg1
  go_loopw [6, 7] (fun vn v wr => ∃ (i : Nat) (a : Int) (L : List Ent), i ≤ 400 ∧ i ≤ len + 1 ∧ v = .int .i64 i ∧ vn = .int .i64 (a + 1) ∧ L.length ≤ i ∧ Learnt 1 (slotsTo 1 l i) a L ∧ Holds b1 w wr (star (lnP 51 b1 a L) none_)) (fun vn v _ => 400 - (intOf v).toNat)
  case atStart => exact ⟨0, 0, [], by omega, by omega, by simp, by simp, by simp, LN0.out, H1.out⟩
  case round =>
    obtain ⟨i, a, L, hi, hil, rfl, rfl, hL, hln, hh⟩ := hrel
    have H := Lib.hid hh
    have LN := Lib.hid hln
    have a0 := hln.lo
    have a1 := hln.hi
    clear hh hln
    by_cases hin : i < len + 1 ∧ i < 400
    · obtain ⟨hi1, hi2⟩ := hin
      have w1 : IntKind.i64.wrap ((i : Int) - len) = (i : Int) - len := by rw [IntKind.wrap_i64]; omega
      have w2 : IntKind.i64.wrap ((i : Int) - len + 1) = (i : Int) - len + 1 := by rw [IntKind.wrap_i64]; omega
      have w3 : IntKind.i64.wrap ((len : Int) + 1) = (len : Int) + 1 := by rw [IntKind.wrap_i64]; omega
      have g1 : decide ((i : Int) < (len : Int) + 1) = true := decide_eq_true (by omega)
      have g2 : decide (i < 400) = true := decide_eq_true hi2
      have g2' : decide ((i : Int) < 400) = true := decide_eq_true (by omega)
      by_cases hil2 : i < len
      · obtain ⟨ad, x, rfl, hx, hat⟩ := int_all HA.out hil2
        have c0 := hat _ H.out.below
        have g3 : decide (i < len) = true := decide_eq_true hil2
        obtain ⟨s, hs⟩ : ∃ s : Int, s = 1 := ⟨1, rfl⟩
        have hs1 : 1 ≤ s := by omega
        have hs2 : s ≤ 1 := by omega
        have SA := Lib.hid (show slotAt 1 l i = s by
          unfold slotAt
          rw [hx]
          have := slotOf_in (n := 1) (x := x.1) (by omega)
          simp only
          omega)
        subst hs
        clear hx hat
        have X8 : Hid (Calls Try.prog 8 #[.pointer (some ⟨b1, 0, none⟩), .agg #[.int .i64 1, .int .i64 0, .int .i64 1, .int .i64 0, .int .i64 0, .string ⟨#[]⟩, .int .i64 1]] wr (Made b1 w (lnP 51 b1 (lnR L a (mkE 1)).1 (lnL L a (mkE 1))) none_ (lnR L a (mkE 1)).2)) := Lib.hid (x_learn H.out SN.out (mkE 1) (by omega) (by omega) (by omega))
        have LX := Lib.hid (learnt_next LN.out (by omega) hs1 hs2)
        have LLn := Lib.hid (lnL_len L a (mkE 1))
        go_wp2_with fail
        refine X8.out.mono ?_
        rintro e wl ⟨A2, c2, rfl, h2⟩
        have H2 := Lib.hid h2
        clear h2
        generalize lnL L a (mkE 1) = L6 at *
        generalize hR : lnR L a (mkE 1) = RR at *
        obtain ⟨a6, M⟩ := RR
        have M1 := Lib.hid LX.out.2.2
        have ha6 : a6 = a + M.length := LX.out.2.1
        have LN6 := Lib.hid LX.out.1
        have a60 := LX.out.1.lo
        have a61 := LX.out.1.hi
        have hl6 := LLn.out
        have HA6 := Lib.hid ha6
        have hml : a + M.length ≤ 1 := by have h1 : a6 ≤ 1 := a61; omega
        clear hR ha6 LX LLn X8 c0
        simp only [] at H2 LN6 M1
        go_wp2_with fail
        go_loopw [6, 10] (fun vn v wr2 => wr2 = wl ∧ ∃ k : Nat, k ≤ M.length ∧ v = .int .i64 k ∧ vn = .int .i64 (a + 1 + k)) (fun vn v _ => M.length - (intOf v).toNat)
        case atStart => exact ⟨by trivial, 0, by omega, by simp, by simp⟩
        case round =>
          obtain ⟨rfl, k, hk, rfl, rfl⟩ := hrel
          by_cases hkm : k < M.length
          · obtain ⟨ad2, y, rfl, hy, he⟩ := ent_at H2.out.row.src hkm
            obtain rfl : y = mkE (a + 1 + k) := M1.out k y hy
            have e0 : World.cell? _ (ad2.add (k * 7)) = some (Value.int .i64 (a + 1 + k)) := he.1
            have e6 : World.cell? _ ⟨(ad2.add (k * 7)).block, (ad2.add (k * 7)).off + 6, none⟩ = some (Value.int .i64 (a + 1 + k)) := he.2.2.2.2.2.2
            have w9 : IntKind.i64.wrap (a + 1 + (k : Int) + 1) = a + 1 + (k : Int) + 1 := by rw [IntKind.wrap_i64]; omega
            have HK := Lib.hid hkm
            clear he hy
            go_wp2_with fail
            go_roundw
            case rel => exact ⟨by trivial, k + 1, HK.out, by go_num, congrArg (Value.int .i64) (by omega)⟩
            case measure => have hkk := HK.out; simp [intOf]; omega
          · obtain rfl : k = M.length := by omega
            go_wp2_with fail
            go_roundw
            case rel => exact ⟨i + 1, a6, L6, by omega, by omega, by go_num, congrArg (Value.int .i64) (by have := HA6.out; omega), by omega, by rw [slots_next, SA.out]; exact LN6.out, H2.out.drop⟩
            case measure => simp [intOf]; omega
      · have g3 : decide (i < len) = false := decide_eq_false hil2
        obtain ⟨s, hs⟩ : ∃ s, (i : Int) - len + 1 = s := ⟨_, rfl⟩
        have hs1 : 1 ≤ s := by omega
        have hs2 : s ≤ 1 := by omega
        have SA := Lib.hid (show slotAt 1 l i = s by
          unfold slotAt
          rw [List.getElem?_eq_none (by have := LL.out; omega)]
          simp only
          rw [LL.out]
          exact hs)
        have w2' := w2.trans hs
        clear hs w2
        have X8 : Hid (Calls Try.prog 8 #[.pointer (some ⟨b1, 0, none⟩), .agg #[.int .i64 s, .int .i64 0, .int .i64 1, .int .i64 0, .int .i64 0, .string ⟨#[]⟩, .int .i64 s]] wr (Made b1 w (lnP 51 b1 (lnR L a (mkE s)).1 (lnL L a (mkE s))) none_ (lnR L a (mkE s)).2)) := Lib.hid (x_learn H.out SN.out (mkE s) (by omega) (by omega) (by omega))
        have LX := Lib.hid (learnt_next LN.out (by omega) hs1 hs2)
        have LLn := Lib.hid (lnL_len L a (mkE s))
        go_wp2_with fail
        refine X8.out.mono ?_
        rintro e wl ⟨A2, c2, rfl, h2⟩
        have H2 := Lib.hid h2
        clear h2
        generalize lnL L a (mkE s) = L6 at *
        generalize hR : lnR L a (mkE s) = RR at *
        obtain ⟨a6, M⟩ := RR
        have M1 := Lib.hid LX.out.2.2
        have ha6 : a6 = a + M.length := LX.out.2.1
        have LN6 := Lib.hid LX.out.1
        have a60 := LX.out.1.lo
        have a61 := LX.out.1.hi
        have hl6 := LLn.out
        have HA6 := Lib.hid ha6
        have hml : a + M.length ≤ 1 := by have h1 : a6 ≤ 1 := a61; omega
        clear hR ha6 LX LLn X8
        simp only [] at H2 LN6 M1
        go_wp2_with fail
        go_loopw [6, 10] (fun vn v wr2 => wr2 = wl ∧ ∃ k : Nat, k ≤ M.length ∧ v = .int .i64 k ∧ vn = .int .i64 (a + 1 + k)) (fun vn v _ => M.length - (intOf v).toNat)
        case atStart => exact ⟨by trivial, 0, by omega, by simp, by simp⟩
        case round =>
          obtain ⟨rfl, k, hk, rfl, rfl⟩ := hrel
          by_cases hkm : k < M.length
          · obtain ⟨ad2, y, rfl, hy, he⟩ := ent_at H2.out.row.src hkm
            obtain rfl : y = mkE (a + 1 + k) := M1.out k y hy
            have e0 : World.cell? _ (ad2.add (k * 7)) = some (Value.int .i64 (a + 1 + k)) := he.1
            have e6 : World.cell? _ ⟨(ad2.add (k * 7)).block, (ad2.add (k * 7)).off + 6, none⟩ = some (Value.int .i64 (a + 1 + k)) := he.2.2.2.2.2.2
            have w9 : IntKind.i64.wrap (a + 1 + (k : Int) + 1) = a + 1 + (k : Int) + 1 := by rw [IntKind.wrap_i64]; omega
            have HK := Lib.hid hkm
            clear he hy
            go_wp2_with fail
            go_roundw
            case rel => exact ⟨by trivial, k + 1, HK.out, by go_num, congrArg (Value.int .i64) (by omega)⟩
            case measure => have hkk := HK.out; simp [intOf]; omega
          · obtain rfl : k = M.length := by omega
            go_wp2_with fail
            go_roundw
            case rel => exact ⟨i + 1, a6, L6, by omega, by omega, by go_num, congrArg (Value.int .i64) (by have := HA6.out; omega), by omega, by rw [slots_next, SA.out]; exact LN6.out, H2.out.drop⟩
            case measure => simp [intOf]; omega
    · have w3 : IntKind.i64.wrap ((len : Int) + 1) = (len : Int) + 1 := by rw [IntKind.wrap_i64]; omega
      by_cases h300 : 300 < len
      · have g5 : decide (300 < len) = true := decide_eq_true h300
        by_cases h4 : i < len + 1
        · have g1 : decide ((i : Int) < (len : Int) + 1) = true := decide_eq_true (by omega)
          have g2 : decide (i < 400) = false := decide_eq_false (by omega)
          have g2' : decide ((i : Int) < 400) = false := decide_eq_false (by omega)
          clear hin
          go_wp2_with fail
          refine (awake_calls _).mono ?_
          rintro e w2 ⟨rfl, hk⟩
          have K := Lib.hid hk
          clear hk
          go_wp2_with fail
          go_ret
          exact ⟨rfl, (hb _ H.out.below).then K.out⟩
        · have g1 : decide ((i : Int) < (len : Int) + 1) = false := decide_eq_false (by omega)
          clear hin
          go_wp2_with fail
          refine (awake_calls _).mono ?_
          rintro e w2 ⟨rfl, hk⟩
          have K := Lib.hid hk
          clear hk
          go_wp2_with fail
          go_ret
          exact ⟨rfl, (hb _ H.out.below).then K.out⟩
      · have g5 : decide (300 < len) = false := decide_eq_false h300
        have hall : i = len + 1 := by omega
        have AA := Lib.hid (learnt_all LN.out (by
          intro s h1 h2
          have := slots_all 1 l s h1 h2
          rwa [LL.out, ← hall] at this))
        obtain rfl : a = 1 := AA.out
        have XA := Lib.hid (x_applied H.out)
        have w6 : IntKind.i64.wrap (1 + 1) = 1 + 1 := by rw [IntKind.wrap_i64]; omega
        clear hin
        have g1 : decide ((i : Int) < (len : Int) + 1) = false := decide_eq_false (by omega)
        go_wp2_with fail
        refine XA.out.mono ?_
        rintro e w' ⟨rfl, rfl⟩
        go_wp2_with fail
        refine (awake_calls _).mono ?_
        rintro e w2 ⟨rfl, hk⟩
        have K := Lib.hid hk
        clear hk
        go_wp2_with fail
        go_ret
        exact ⟨rfl, (hb _ H.out.below).then K.out⟩
set_option maxHeartbeats 25600000 in
theorem order_big (w : World) (n : Int) (hn : 31 ≤ n) (A : Option Addr) (len cap : Nat) (l : List {n : Int // I64 n}) (hA : R.Args w w.heap.size A len 1 intC l) (hlen : len ≤ cap) (hcap : cap ≤ maxLen) (hbig : len ≤ 140737488355328) :
    Calls Try.prog 3 #[.int .i64 n, .slice A len cap] w (fun e w' => e = .returned (.bool true) ∧ Keep Nothing w w') := by
  have HA := Lib.hid hA
  have LL := Lib.hid hA.1
  have hb : ∀ w', Below w.heap.size w w' → Keep Nothing w w' := fun w' h => Keep.of_below h _
  have H0 := Lib.hid (Holds.start w)
  have LS := Lib.hid lnP_stable
  have SR := Lib.hid rowP_stable
  have SN := Lib.hid none_stable
  have hmax : maxLen = 9223372036854775807 := by rfl
  have LN0 := Lib.hid (learnt_none 30 (by omega))
  have hu30 := Try.underlying30
  have hu28 := Try.underlying28
  have m1 : (30 : Int) ≤ n := by omega
  have m2 : (30 : Int) < n := by omega
  have m3 : ¬ n ≤ 30 := by omega
  clear hA
  go_enter Try.func3, Try.ntmps3
  go_wp2_with fail
  refine (new_calls _ 0).mono ?_
  rintro e w1 ⟨rfl, hw1⟩
  have H1 := Lib.hid (show Holds w.heap.size w w1 (star (lnP 51 w.heap.size 0 []) none_) by rw [hw1]; exact Holds.newLn H0.out SN.out 51 _)
  clear hw1
  go_wp2_with fail
  generalize hg1 : w.heap.size = b1 at *
  clear hg1
  go_loopw [6, 7] (fun vn v wr => ∃ (i : Nat) (a : Int) (L : List Ent), i ≤ 400 ∧ i ≤ len + 30 ∧ v = .int .i64 i ∧ vn = .int .i64 (a + 1) ∧ L.length ≤ i ∧ Learnt 30 (slotsTo 30 l i) a L ∧ Holds b1 w wr (star (lnP 51 b1 a L) none_)) (fun vn v _ => 400 - (intOf v).toNat)
  case atStart => exact ⟨0, 0, [], by omega, by omega, by simp, by simp, by simp, LN0.out, H1.out⟩
  case round =>
    obtain ⟨i, a, L, hi, hil, rfl, rfl, hL, hln, hh⟩ := hrel
    have H := Lib.hid hh
    have LN := Lib.hid hln
    have a0 := hln.lo
    have a1 := hln.hi
    clear hh hln
    by_cases hin : i < len + 30 ∧ i < 400
    · obtain ⟨hi1, hi2⟩ := hin
      have w1 : IntKind.i64.wrap ((i : Int) - len) = (i : Int) - len := by rw [IntKind.wrap_i64]; omega
      have w2 : IntKind.i64.wrap ((i : Int) - len + 1) = (i : Int) - len + 1 := by rw [IntKind.wrap_i64]; omega
      have w3 : IntKind.i64.wrap ((len : Int) + 30) = (len : Int) + 30 := by rw [IntKind.wrap_i64]; omega
      have g1 : decide ((i : Int) < (len : Int) + 30) = true := decide_eq_true (by omega)
      have g2 : decide (i < 400) = true := decide_eq_true hi2
      have g2' : decide ((i : Int) < 400) = true := decide_eq_true (by omega)
      by_cases hil2 : i < len
      · obtain ⟨ad, x, rfl, hx, hat⟩ := int_all HA.out hil2
        have c0 := hat _ H.out.below
        have g3 : decide (i < len) = true := decide_eq_true hil2
        obtain ⟨hs1, hs2⟩ := slotOf_in (n := 30) (x := x.1) (by omega)
        obtain ⟨s, hs⟩ : ∃ s, slotOf 30 x.1 = s := ⟨_, rfl⟩
        have SA := Lib.hid (show slotAt 30 l i = s by unfold slotAt; rw [hx]; exact hs)
        have t1 := Int.tmod_lt_of_pos x.1 (show (0 : Int) < 30 by omega)
        have t2 : -30 < x.1.tmod 30 := Int.lt_tmod_of_pos x.1 (show (0 : Int) < 30 by omega)
        have w4 : IntKind.i64.wrap (x.1.tmod 30 + 30) = x.1.tmod 30 + 30 := by rw [IntKind.wrap_i64]; omega
        have w5 : IntKind.i64.wrap (x.1.tmod 30 % 30 + 1) = s := by
          have e : x.1.tmod 30 % 30 + 1 = s := by
            have h := hs
            unfold slotOf at h
            rw [Int.tmod_eq_emod_of_nonneg (by omega)] at h
            simpa using h
          rw [e, IntKind.wrap_i64]
          rw [hs] at hs1 hs2
          omega
        rw [hs] at hs1 hs2
        clear hx hat hs
        have X8 : Hid (Calls Try.prog 8 #[.pointer (some ⟨b1, 0, none⟩), .agg #[.int .i64 s, .int .i64 0, .int .i64 1, .int .i64 0, .int .i64 0, .string ⟨#[]⟩, .int .i64 s]] wr (Made b1 w (lnP 51 b1 (lnR L a (mkE s)).1 (lnL L a (mkE s))) none_ (lnR L a (mkE s)).2)) := Lib.hid (x_learn H.out SN.out (mkE s) (by omega) (by omega) (by omega))
        have LX := Lib.hid (learnt_next LN.out (by omega) hs1 hs2)
        have LLn := Lib.hid (lnL_len L a (mkE s))
        go_wp2_with fail
        refine X8.out.mono ?_
        rintro e wl ⟨A2, c2, rfl, h2⟩
        have H2 := Lib.hid h2
        clear h2
        generalize lnL L a (mkE s) = L6 at *
        generalize hR : lnR L a (mkE s) = RR at *
        obtain ⟨a6, M⟩ := RR
        have M1 := Lib.hid LX.out.2.2
        have ha6 : a6 = a + M.length := LX.out.2.1
        have LN6 := Lib.hid LX.out.1
        have a60 := LX.out.1.lo
        have a61 := LX.out.1.hi
        have hl6 := LLn.out
        have HA6 := Lib.hid ha6
        have hml : a + M.length ≤ 30 := by have h1 : a6 ≤ 30 := a61; omega
        clear hR ha6 LX LLn X8 c0
        simp only [] at H2 LN6 M1
        go_wp2_with fail
        go_loopw [6, 10] (fun vn v wr2 => wr2 = wl ∧ ∃ k : Nat, k ≤ M.length ∧ v = .int .i64 k ∧ vn = .int .i64 (a + 1 + k)) (fun vn v _ => M.length - (intOf v).toNat)
        case atStart => exact ⟨by trivial, 0, by omega, by simp, by simp⟩
        case round =>
          obtain ⟨rfl, k, hk, rfl, rfl⟩ := hrel
          by_cases hkm : k < M.length
          · obtain ⟨ad2, y, rfl, hy, he⟩ := ent_at H2.out.row.src hkm
            obtain rfl : y = mkE (a + 1 + k) := M1.out k y hy
            have e0 : World.cell? _ (ad2.add (k * 7)) = some (Value.int .i64 (a + 1 + k)) := he.1
            have e6 : World.cell? _ ⟨(ad2.add (k * 7)).block, (ad2.add (k * 7)).off + 6, none⟩ = some (Value.int .i64 (a + 1 + k)) := he.2.2.2.2.2.2
            have w9 : IntKind.i64.wrap (a + 1 + (k : Int) + 1) = a + 1 + (k : Int) + 1 := by rw [IntKind.wrap_i64]; omega
            have HK := Lib.hid hkm
            clear he hy
            go_wp2_with fail
            go_roundw
            case rel => exact ⟨by trivial, k + 1, HK.out, by go_num, congrArg (Value.int .i64) (by omega)⟩
            case measure => have hkk := HK.out; simp [intOf]; omega
          · obtain rfl : k = M.length := by omega
            go_wp2_with fail
            go_roundw
            case rel => exact ⟨i + 1, a6, L6, by omega, by omega, by go_num, congrArg (Value.int .i64) (by have := HA6.out; omega), by omega, by rw [slots_next, SA.out]; exact LN6.out, H2.out.drop⟩
            case measure => simp [intOf]; omega
      · have g3 : decide (i < len) = false := decide_eq_false hil2
        obtain ⟨s, hs⟩ : ∃ s, (i : Int) - len + 1 = s := ⟨_, rfl⟩
        have hs1 : 1 ≤ s := by omega
        have hs2 : s ≤ 30 := by omega
        have SA := Lib.hid (show slotAt 30 l i = s by
          unfold slotAt
          rw [List.getElem?_eq_none (by have := LL.out; omega)]
          simp only
          rw [LL.out]
          exact hs)
        have w2' := w2.trans hs
        clear hs w2
        have X8 : Hid (Calls Try.prog 8 #[.pointer (some ⟨b1, 0, none⟩), .agg #[.int .i64 s, .int .i64 0, .int .i64 1, .int .i64 0, .int .i64 0, .string ⟨#[]⟩, .int .i64 s]] wr (Made b1 w (lnP 51 b1 (lnR L a (mkE s)).1 (lnL L a (mkE s))) none_ (lnR L a (mkE s)).2)) := Lib.hid (x_learn H.out SN.out (mkE s) (by omega) (by omega) (by omega))
        have LX := Lib.hid (learnt_next LN.out (by omega) hs1 hs2)
        have LLn := Lib.hid (lnL_len L a (mkE s))
        go_wp2_with fail
        refine X8.out.mono ?_
        rintro e wl ⟨A2, c2, rfl, h2⟩
        have H2 := Lib.hid h2
        clear h2
        generalize lnL L a (mkE s) = L6 at *
        generalize hR : lnR L a (mkE s) = RR at *
        obtain ⟨a6, M⟩ := RR
        have M1 := Lib.hid LX.out.2.2
        have ha6 : a6 = a + M.length := LX.out.2.1
        have LN6 := Lib.hid LX.out.1
        have a60 := LX.out.1.lo
        have a61 := LX.out.1.hi
        have hl6 := LLn.out
        have HA6 := Lib.hid ha6
        have hml : a + M.length ≤ 30 := by have h1 : a6 ≤ 30 := a61; omega
        clear hR ha6 LX LLn X8
        simp only [] at H2 LN6 M1
        go_wp2_with fail
        go_loopw [6, 10] (fun vn v wr2 => wr2 = wl ∧ ∃ k : Nat, k ≤ M.length ∧ v = .int .i64 k ∧ vn = .int .i64 (a + 1 + k)) (fun vn v _ => M.length - (intOf v).toNat)
        case atStart => exact ⟨by trivial, 0, by omega, by simp, by simp⟩
        case round =>
          obtain ⟨rfl, k, hk, rfl, rfl⟩ := hrel
          by_cases hkm : k < M.length
          · obtain ⟨ad2, y, rfl, hy, he⟩ := ent_at H2.out.row.src hkm
            obtain rfl : y = mkE (a + 1 + k) := M1.out k y hy
            have e0 : World.cell? _ (ad2.add (k * 7)) = some (Value.int .i64 (a + 1 + k)) := he.1
            have e6 : World.cell? _ ⟨(ad2.add (k * 7)).block, (ad2.add (k * 7)).off + 6, none⟩ = some (Value.int .i64 (a + 1 + k)) := he.2.2.2.2.2.2
            have w9 : IntKind.i64.wrap (a + 1 + (k : Int) + 1) = a + 1 + (k : Int) + 1 := by rw [IntKind.wrap_i64]; omega
            have HK := Lib.hid hkm
            clear he hy
            go_wp2_with fail
            go_roundw
            case rel => exact ⟨by trivial, k + 1, HK.out, by go_num, congrArg (Value.int .i64) (by omega)⟩
            case measure => have hkk := HK.out; simp [intOf]; omega
          · obtain rfl : k = M.length := by omega
            go_wp2_with fail
            go_roundw
            case rel => exact ⟨i + 1, a6, L6, by omega, by omega, by go_num, congrArg (Value.int .i64) (by have := HA6.out; omega), by omega, by rw [slots_next, SA.out]; exact LN6.out, H2.out.drop⟩
            case measure => simp [intOf]; omega
    · have w3 : IntKind.i64.wrap ((len : Int) + 30) = (len : Int) + 30 := by rw [IntKind.wrap_i64]; omega
      by_cases h300 : 300 < len
      · have g5 : decide (300 < len) = true := decide_eq_true h300
        by_cases h4 : i < len + 30
        · have g1 : decide ((i : Int) < (len : Int) + 30) = true := decide_eq_true (by omega)
          have g2 : decide (i < 400) = false := decide_eq_false (by omega)
          have g2' : decide ((i : Int) < 400) = false := decide_eq_false (by omega)
          clear hin
          go_wp2_with fail
          refine (awake_calls _).mono ?_
          rintro e w2 ⟨rfl, hk⟩
          have K := Lib.hid hk
          clear hk
          go_wp2_with fail
          go_ret
          exact ⟨rfl, (hb _ H.out.below).then K.out⟩
        · have g1 : decide ((i : Int) < (len : Int) + 30) = false := decide_eq_false (by omega)
          clear hin
          go_wp2_with fail
          refine (awake_calls _).mono ?_
          rintro e w2 ⟨rfl, hk⟩
          have K := Lib.hid hk
          clear hk
          go_wp2_with fail
          go_ret
          exact ⟨rfl, (hb _ H.out.below).then K.out⟩
      · have g5 : decide (300 < len) = false := decide_eq_false h300
        have hall : i = len + 30 := by omega
        have AA := Lib.hid (learnt_all LN.out (by
          intro s h1 h2
          have := slots_all 30 l s h1 h2
          rwa [LL.out, ← hall] at this))
        obtain rfl : a = 30 := AA.out
        have XA := Lib.hid (x_applied H.out)
        have w6 : IntKind.i64.wrap (30 + 1) = 30 + 1 := by rw [IntKind.wrap_i64]; omega
        clear hin
        have g1 : decide ((i : Int) < (len : Int) + 30) = false := decide_eq_false (by omega)
        go_wp2_with fail
        refine XA.out.mono ?_
        rintro e w' ⟨rfl, rfl⟩
        go_wp2_with fail
        refine (awake_calls _).mono ?_
        rintro e w2 ⟨rfl, hk⟩
        have K := Lib.hid hk
        clear hk
        go_wp2_with fail
        go_ret
        exact ⟨rfl, (hb _ H.out.below).then K.out⟩
set_option maxHeartbeats 25600000 in
theorem order_th (w : World)  (A : Option Addr) (len cap : Nat) (l : List {n : Int // I64 n}) (hA : R.Args w w.heap.size A len 1 intC l) (hlen : len ≤ cap) (hcap : cap ≤ maxLen) (hbig : len ≤ 140737488355328) :
    Calls Try.prog 3 #[.int .i64 30, .slice A len cap] w (fun e w' => e = .returned (.bool true) ∧ Keep Nothing w w') := by
  have HA := Lib.hid hA
  have LL := Lib.hid hA.1
  have hb : ∀ w', Below w.heap.size w w' → Keep Nothing w w' := fun w' h => Keep.of_below h _
  have H0 := Lib.hid (Holds.start w)
  have LS := Lib.hid lnP_stable
  have SR := Lib.hid rowP_stable
  have SN := Lib.hid none_stable
  have hmax : maxLen = 9223372036854775807 := by rfl
  have LN0 := Lib.hid (learnt_none 30 (by omega))
  have hu30 := Try.underlying30
  have hu28 := Try.underlying28
  clear hA
  go_enter Try.func3, Try.ntmps3
  go_wp2_with fail
  refine (new_calls _ 0).mono ?_
  rintro e w1 ⟨rfl, hw1⟩
  have H1 := Lib.hid (show Holds w.heap.size w w1 (star (lnP 51 w.heap.size 0 []) none_) by rw [hw1]; exact Holds.newLn H0.out SN.out 51 _)
  clear hw1
  go_wp2_with fail
  generalize hg1 : w.heap.size = b1 at *
  clear hg1
  go_loopw [6, 7] (fun vn v wr => ∃ (i : Nat) (a : Int) (L : List Ent), i ≤ 400 ∧ i ≤ len + 30 ∧ v = .int .i64 i ∧ vn = .int .i64 (a + 1) ∧ L.length ≤ i ∧ Learnt 30 (slotsTo 30 l i) a L ∧ Holds b1 w wr (star (lnP 51 b1 a L) none_)) (fun vn v _ => 400 - (intOf v).toNat)
  case atStart => exact ⟨0, 0, [], by omega, by omega, by simp, by simp, by simp, LN0.out, H1.out⟩
  case round =>
    obtain ⟨i, a, L, hi, hil, rfl, rfl, hL, hln, hh⟩ := hrel
    have H := Lib.hid hh
    have LN := Lib.hid hln
    have a0 := hln.lo
    have a1 := hln.hi
    clear hh hln
    by_cases hin : i < len + 30 ∧ i < 400
    · obtain ⟨hi1, hi2⟩ := hin
      have w1 : IntKind.i64.wrap ((i : Int) - len) = (i : Int) - len := by rw [IntKind.wrap_i64]; omega
      have w2 : IntKind.i64.wrap ((i : Int) - len + 1) = (i : Int) - len + 1 := by rw [IntKind.wrap_i64]; omega
      have w3 : IntKind.i64.wrap ((len : Int) + 30) = (len : Int) + 30 := by rw [IntKind.wrap_i64]; omega
      have g1 : decide ((i : Int) < (len : Int) + 30) = true := decide_eq_true (by omega)
      have g2 : decide (i < 400) = true := decide_eq_true hi2
      have g2' : decide ((i : Int) < 400) = true := decide_eq_true (by omega)
      by_cases hil2 : i < len
      · obtain ⟨ad, x, rfl, hx, hat⟩ := int_all HA.out hil2
        have c0 := hat _ H.out.below
        have g3 : decide (i < len) = true := decide_eq_true hil2
        obtain ⟨hs1, hs2⟩ := slotOf_in (n := 30) (x := x.1) (by omega)
        obtain ⟨s, hs⟩ : ∃ s, slotOf 30 x.1 = s := ⟨_, rfl⟩
        have SA := Lib.hid (show slotAt 30 l i = s by unfold slotAt; rw [hx]; exact hs)
        have t1 := Int.tmod_lt_of_pos x.1 (show (0 : Int) < 30 by omega)
        have t2 : -30 < x.1.tmod 30 := Int.lt_tmod_of_pos x.1 (show (0 : Int) < 30 by omega)
        have w4 : IntKind.i64.wrap (x.1.tmod 30 + 30) = x.1.tmod 30 + 30 := by rw [IntKind.wrap_i64]; omega
        have w5 : IntKind.i64.wrap (x.1.tmod 30 % 30 + 1) = s := by
          have e : x.1.tmod 30 % 30 + 1 = s := by
            have h := hs
            unfold slotOf at h
            rw [Int.tmod_eq_emod_of_nonneg (by omega)] at h
            simpa using h
          rw [e, IntKind.wrap_i64]
          rw [hs] at hs1 hs2
          omega
        rw [hs] at hs1 hs2
        clear hx hat hs
        have X8 : Hid (Calls Try.prog 8 #[.pointer (some ⟨b1, 0, none⟩), .agg #[.int .i64 s, .int .i64 0, .int .i64 1, .int .i64 0, .int .i64 0, .string ⟨#[]⟩, .int .i64 s]] wr (Made b1 w (lnP 51 b1 (lnR L a (mkE s)).1 (lnL L a (mkE s))) none_ (lnR L a (mkE s)).2)) := Lib.hid (x_learn H.out SN.out (mkE s) (by omega) (by omega) (by omega))
        have LX := Lib.hid (learnt_next LN.out (by omega) hs1 hs2)
        have LLn := Lib.hid (lnL_len L a (mkE s))
        go_wp2_with fail
        refine X8.out.mono ?_
        rintro e wl ⟨A2, c2, rfl, h2⟩
        have H2 := Lib.hid h2
        clear h2
        generalize lnL L a (mkE s) = L6 at *
        generalize hR : lnR L a (mkE s) = RR at *
        obtain ⟨a6, M⟩ := RR
        have M1 := Lib.hid LX.out.2.2
        have ha6 : a6 = a + M.length := LX.out.2.1
        have LN6 := Lib.hid LX.out.1
        have a60 := LX.out.1.lo
        have a61 := LX.out.1.hi
        have hl6 := LLn.out
        have HA6 := Lib.hid ha6
        have hml : a + M.length ≤ 30 := by have h1 : a6 ≤ 30 := a61; omega
        clear hR ha6 LX LLn X8 c0
        simp only [] at H2 LN6 M1
        go_wp2_with fail
        go_loopw [6, 10] (fun vn v wr2 => wr2 = wl ∧ ∃ k : Nat, k ≤ M.length ∧ v = .int .i64 k ∧ vn = .int .i64 (a + 1 + k)) (fun vn v _ => M.length - (intOf v).toNat)
        case atStart => exact ⟨by trivial, 0, by omega, by simp, by simp⟩
        case round =>
          obtain ⟨rfl, k, hk, rfl, rfl⟩ := hrel
          by_cases hkm : k < M.length
          · obtain ⟨ad2, y, rfl, hy, he⟩ := ent_at H2.out.row.src hkm
            obtain rfl : y = mkE (a + 1 + k) := M1.out k y hy
            have e0 : World.cell? _ (ad2.add (k * 7)) = some (Value.int .i64 (a + 1 + k)) := he.1
            have e6 : World.cell? _ ⟨(ad2.add (k * 7)).block, (ad2.add (k * 7)).off + 6, none⟩ = some (Value.int .i64 (a + 1 + k)) := he.2.2.2.2.2.2
            have w9 : IntKind.i64.wrap (a + 1 + (k : Int) + 1) = a + 1 + (k : Int) + 1 := by rw [IntKind.wrap_i64]; omega
            have HK := Lib.hid hkm
            clear he hy
            go_wp2_with fail
            go_roundw
            case rel => exact ⟨by trivial, k + 1, HK.out, by go_num, congrArg (Value.int .i64) (by omega)⟩
            case measure => have hkk := HK.out; simp [intOf]; omega
          · obtain rfl : k = M.length := by omega
            go_wp2_with fail
            go_roundw
            case rel => exact ⟨i + 1, a6, L6, by omega, by omega, by go_num, congrArg (Value.int .i64) (by have := HA6.out; omega), by omega, by rw [slots_next, SA.out]; exact LN6.out, H2.out.drop⟩
            case measure => simp [intOf]; omega
      · have g3 : decide (i < len) = false := decide_eq_false hil2
        obtain ⟨s, hs⟩ : ∃ s, (i : Int) - len + 1 = s := ⟨_, rfl⟩
        have hs1 : 1 ≤ s := by omega
        have hs2 : s ≤ 30 := by omega
        have SA := Lib.hid (show slotAt 30 l i = s by
          unfold slotAt
          rw [List.getElem?_eq_none (by have := LL.out; omega)]
          simp only
          rw [LL.out]
          exact hs)
        have w2' := w2.trans hs
        clear hs w2
        have X8 : Hid (Calls Try.prog 8 #[.pointer (some ⟨b1, 0, none⟩), .agg #[.int .i64 s, .int .i64 0, .int .i64 1, .int .i64 0, .int .i64 0, .string ⟨#[]⟩, .int .i64 s]] wr (Made b1 w (lnP 51 b1 (lnR L a (mkE s)).1 (lnL L a (mkE s))) none_ (lnR L a (mkE s)).2)) := Lib.hid (x_learn H.out SN.out (mkE s) (by omega) (by omega) (by omega))
        have LX := Lib.hid (learnt_next LN.out (by omega) hs1 hs2)
        have LLn := Lib.hid (lnL_len L a (mkE s))
        go_wp2_with fail
        refine X8.out.mono ?_
        rintro e wl ⟨A2, c2, rfl, h2⟩
        have H2 := Lib.hid h2
        clear h2
        generalize lnL L a (mkE s) = L6 at *
        generalize hR : lnR L a (mkE s) = RR at *
        obtain ⟨a6, M⟩ := RR
        have M1 := Lib.hid LX.out.2.2
        have ha6 : a6 = a + M.length := LX.out.2.1
        have LN6 := Lib.hid LX.out.1
        have a60 := LX.out.1.lo
        have a61 := LX.out.1.hi
        have hl6 := LLn.out
        have HA6 := Lib.hid ha6
        have hml : a + M.length ≤ 30 := by have h1 : a6 ≤ 30 := a61; omega
        clear hR ha6 LX LLn X8
        simp only [] at H2 LN6 M1
        go_wp2_with fail
        go_loopw [6, 10] (fun vn v wr2 => wr2 = wl ∧ ∃ k : Nat, k ≤ M.length ∧ v = .int .i64 k ∧ vn = .int .i64 (a + 1 + k)) (fun vn v _ => M.length - (intOf v).toNat)
        case atStart => exact ⟨by trivial, 0, by omega, by simp, by simp⟩
        case round =>
          obtain ⟨rfl, k, hk, rfl, rfl⟩ := hrel
          by_cases hkm : k < M.length
          · obtain ⟨ad2, y, rfl, hy, he⟩ := ent_at H2.out.row.src hkm
            obtain rfl : y = mkE (a + 1 + k) := M1.out k y hy
            have e0 : World.cell? _ (ad2.add (k * 7)) = some (Value.int .i64 (a + 1 + k)) := he.1
            have e6 : World.cell? _ ⟨(ad2.add (k * 7)).block, (ad2.add (k * 7)).off + 6, none⟩ = some (Value.int .i64 (a + 1 + k)) := he.2.2.2.2.2.2
            have w9 : IntKind.i64.wrap (a + 1 + (k : Int) + 1) = a + 1 + (k : Int) + 1 := by rw [IntKind.wrap_i64]; omega
            have HK := Lib.hid hkm
            clear he hy
            go_wp2_with fail
            go_roundw
            case rel => exact ⟨by trivial, k + 1, HK.out, by go_num, congrArg (Value.int .i64) (by omega)⟩
            case measure => have hkk := HK.out; simp [intOf]; omega
          · obtain rfl : k = M.length := by omega
            go_wp2_with fail
            go_roundw
            case rel => exact ⟨i + 1, a6, L6, by omega, by omega, by go_num, congrArg (Value.int .i64) (by have := HA6.out; omega), by omega, by rw [slots_next, SA.out]; exact LN6.out, H2.out.drop⟩
            case measure => simp [intOf]; omega
    · have w3 : IntKind.i64.wrap ((len : Int) + 30) = (len : Int) + 30 := by rw [IntKind.wrap_i64]; omega
      by_cases h300 : 300 < len
      · have g5 : decide (300 < len) = true := decide_eq_true h300
        by_cases h4 : i < len + 30
        · have g1 : decide ((i : Int) < (len : Int) + 30) = true := decide_eq_true (by omega)
          have g2 : decide (i < 400) = false := decide_eq_false (by omega)
          have g2' : decide ((i : Int) < 400) = false := decide_eq_false (by omega)
          clear hin
          go_wp2_with fail
          refine (awake_calls _).mono ?_
          rintro e w2 ⟨rfl, hk⟩
          have K := Lib.hid hk
          clear hk
          go_wp2_with fail
          go_ret
          exact ⟨rfl, (hb _ H.out.below).then K.out⟩
        · have g1 : decide ((i : Int) < (len : Int) + 30) = false := decide_eq_false (by omega)
          clear hin
          go_wp2_with fail
          refine (awake_calls _).mono ?_
          rintro e w2 ⟨rfl, hk⟩
          have K := Lib.hid hk
          clear hk
          go_wp2_with fail
          go_ret
          exact ⟨rfl, (hb _ H.out.below).then K.out⟩
      · have g5 : decide (300 < len) = false := decide_eq_false h300
        have hall : i = len + 30 := by omega
        have AA := Lib.hid (learnt_all LN.out (by
          intro s h1 h2
          have := slots_all 30 l s h1 h2
          rwa [LL.out, ← hall] at this))
        obtain rfl : a = 30 := AA.out
        have XA := Lib.hid (x_applied H.out)
        have w6 : IntKind.i64.wrap (30 + 1) = 30 + 1 := by rw [IntKind.wrap_i64]; omega
        clear hin
        have g1 : decide ((i : Int) < (len : Int) + 30) = false := decide_eq_false (by omega)
        go_wp2_with fail
        refine XA.out.mono ?_
        rintro e w' ⟨rfl, rfl⟩
        go_wp2_with fail
        refine (awake_calls _).mono ?_
        rintro e w2 ⟨rfl, hk⟩
        have K := Lib.hid hk
        clear hk
        go_wp2_with fail
        go_ret
        exact ⟨rfl, (hb _ H.out.below).then K.out⟩
open Go.ChangeShapes Go.WideShapes Go.ChangeAt in
theorem order_law : R.Law 3 Try.f3 R.any := by
  intro H enc W base args ds p hval hA hsz _ hlt
  rw [Try.params3] at hA hval hsz
  obtain ⟨v0, vs0, d0, ds0, p0, q0, hargs, rfl, rfl, h0, r0⟩ := trodAll_cons hA
  obtain ⟨v1, vs1, d1, ds1, p1, q1, rfl, rfl, rfl, h1, r1⟩ := trodAll_cons r0
  obtain ⟨rfl, rfl, rfl⟩ := trodAll_nil r1
  obtain rfl : args = #[v0, v1] := by cases args; simp_all
  obtain ⟨n, rfl⟩ := okWide_int Try.underlying3 (hval 0 3 v0 rfl rfl)
  have b3 : Try.prog.bytesOf 3 = 8 := by kernel_rfl
  obtain ⟨A, len, cap, rfl, hc1, hc2, hc3, hel⟩ := R.open_arg Try.underlying22 cellsI (hval 1 22 v1 rfl rfl) h1 (fun x hx => hlt x (List.mem_append_right _ (List.mem_append_left _ hx))) (R.light_of hsz (j := 1) rfl rfl) (by omega)
  obtain ⟨l, hl, hp⟩ := R.exists_list (p := fun i (x : {n : Int // I64 n}) => ∃ ad, A = some ad ∧ ad.block < W.heap.size ∧ ∀ j u, (intC x)[j]? = some u → W.cell? (ad.add (i * 1 + j)) = some u) len (fun i hi => by
    obtain ⟨ad, cs, n, y, rfl, hB, hcl, hat, ht, _⟩ := hel i hi
    obtain ⟨c, rfl⟩ : ∃ c, cs = [c] := by
      match cs, hcl with
      | [c], _ => exact ⟨c, rfl⟩
    obtain ⟨s, rfl, hw⟩ := R.cell_int Try.underlying3 ht
    exact ⟨⟨s, hw⟩, ad, rfl, hB, fun j u hu => (hat j (by have := (List.getElem?_eq_some_iff.1 hu).1; simpa [intC] using this)).trans hu⟩)
  rw [b3] at hc3
  unfold reachBytes at hc3
  have hbig : len ≤ 140737488355328 := by omega
  rcases (show n ≤ 1 ∨ 31 ≤ n ∨ n = 30 ∨ (2 ≤ n ∧ n ≤ 29) by omega) with hn | hn | hn | hn
  · exact (order_one W n hn A len cap l ⟨hl, hp⟩ hc1 hc2 hbig).mono fun e w' h => ⟨h.1, h.2.below (Nat.le_refl _) (fun _ h => h.elim)⟩
  · exact (order_big W n hn A len cap l ⟨hl, hp⟩ hc1 hc2 hbig).mono fun e w' h => ⟨h.1, h.2.below (Nat.le_refl _) (fun _ h => h.elim)⟩
  · subst hn
    exact (order_th W A len cap l ⟨hl, hp⟩ hc1 hc2 hbig).mono fun e w' h => ⟨h.1, h.2.below (Nat.le_refl _) (fun _ h => h.elim)⟩
  · obtain ⟨j, rfl⟩ : ∃ j : Nat, n = j := ⟨n.toNat, by omega⟩
    exact (order_mid W j (by omega) (by omega) A len cap l ⟨hl, hp⟩ hc1 hc2 hbig).mono fun e w' h => ⟨h.1, h.2.below (Nat.le_refl _) (fun _ h => h.elim)⟩
end Go.Proofs.Ytcbjmmjjohigmaa.A
