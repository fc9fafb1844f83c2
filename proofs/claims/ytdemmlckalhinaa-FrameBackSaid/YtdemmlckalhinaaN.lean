/-
  FrameBack.
-/
import Derived.Test.YtdemmlckalhinaaM
namespace Go.Proofs.Ytdemmlckalhinaa.A
open Go.RowKit Go.Proofs.Ytdemmlckalhinaa.U
set_option linter.unusedVariables false
set_option linter.unusedSimpArgs false

theorem cells9 : Try.prog.cellsOf 9 = 1 := by kernel_rfl
theorem E38 : Elem Try.prog 38 3 1 8 (.int .i64 0) := ⟨Try.underlying38, by kernel_rfl, by rfl, by decide⟩
def strC (s : ByteArray) : List Value := [.string s]
def endsC (L : List ByteArray) (k : Nat) : List Value := (List.range (k + 1)).map (fun j => .int .i64 ((endOf L j : Nat) : Int))
theorem end_at {w : World} {A : Option Addr} {L : List ByteArray} {n k j : Nat} (h : Src w A 1 n (endsC L k)) (hn : n = k + 1) (hj : j ≤ k) : ∃ ad, A = some ad ∧ w.cell? (ad.add j) = some (.int .i64 ((endOf L j : Nat) : Int)) := by
  obtain ⟨ad, u, rfl, hu, hc⟩ := h.at_ (k := j) (by omega)
  refine ⟨ad, rfl, ?_⟩
  rw [hc, ← hu]
  unfold endsC
  rw [List.getElem?_map, List.getElem?_range (by omega)]
  rfl
theorem ends_next (L : List ByteArray) (k : Nat) : endsC L k ++ [.int .i64 ((endOf L (k + 1) : Nat) : Int)] = endsC L (k + 1) := by
  unfold endsC
  rw [List.range_succ (n := k + 1), List.map_append]
  rfl
theorem arg_at {w : World} {B : Nat} {A : Option Addr} {len : Nat} {L : List ByteArray} (h : R.Args w B A len 1 strC L) {k : Nat} (hk : k < len) :
    ∃ (ad : Addr), A = some ad ∧ ad.block < B ∧ w.cell? (ad.add k) = some (.string (L.getD k ByteArray.empty)) := by
  have hl := h.1
  obtain ⟨ad, e, hB, hc⟩ := h.2 k (L[k]'(by omega)) (List.getElem?_eq_getElem (by omega))
  have := hc 0 _ rfl
  rw [Nat.mul_one, Nat.add_zero] at this
  refine ⟨ad, e, hB, ?_⟩
  rw [this, List.getD_eq_getElem?_getD, List.getElem?_eq_getElem (by omega)]
  rfl
theorem end_take : ∀ (L : List ByteArray) (m j : Nat), j ≤ m → endOf (L.take m) j = endOf L j
  | L, m, 0, _ => by cases L <;> simp [endOf]
  | [], m, j + 1, _ => by simp [endOf]
  | s :: L, m + 1, j + 1, h => by simp only [List.take_succ_cons, endOf]; rw [end_take L m j (by omega)]
  | s :: L, 0, j + 1, h => by omega
theorem end_mono (L : List ByteArray) (j k : Nat) (hk : k ≤ L.length) (h : j ≤ k) : endOf L j ≤ endOf L k := by
  induction k with
  | zero => obtain rfl : j = 0 := by omega
            exact Nat.le_refl _
  | succ k ih =>
    by_cases he : j = k + 1
    · rw [he]; exact Nat.le_refl _
    · have := ih (by omega) (by omega)
      rw [end_next L k (by omega)]
      omega
theorem whole_ex (L : List ByteArray) (m cut : Nat) : ∃ j, j ≤ m ∧ endOf L j ≤ cut ∧ (j = m ∨ cut < endOf L (j + 1)) := by
  induction m with
  | zero => exact ⟨0, by omega, by cases L <;> simp [endOf], .inl rfl⟩
  | succ m ih =>
    obtain ⟨j, h1, h2, h3⟩ := ih
    rcases h3 with h3 | h3
    · subst h3
      by_cases h : cut < endOf L (j + 1)
      · exact ⟨j, by omega, h2, .inr h⟩
      · exact ⟨j + 1, by omega, by omega, .inl rfl⟩
    · exact ⟨j, by omega, h2, .inr h3⟩
theorem allP_whole (L : List ByteArray) (m j cut : Nat) (hm : m ≤ L.length) (hb : ∀ i, i < m → (L.getD i ByteArray.empty).size ≤ 524288) (hj : j ≤ m) (h1 : endOf L j ≤ cut) (h2 : j = m ∨ cut < endOf L (j + 1)) (h3 : cut ≤ (joinL (L.take m)).size) :
    allP ((joinL (L.take m)).extract 0 cut) = (L.take j, endOf L j) := by
  have hlen : (L.take m).length = m := by rw [List.length_take]; omega
  have h := allP_cut (L.take m) j cut (fun s hs => by
    obtain ⟨i, hi, rfl⟩ := List.mem_iff_getElem.1 hs
    rw [hlen] at hi
    have := hb i hi
    rw [List.getD_eq_getElem?_getD, List.getElem?_eq_getElem (by omega)] at this
    simpa using this) (by omega) (by rw [end_take _ _ _ hj]; exact h1) (by
    rcases h2 with h2 | h2
    · left; omega
    · by_cases hjm : j = m
      · left; omega
      · right; rw [end_take _ _ _ (by omega)]; exact h2) h3
  rw [h, List.take_take, end_take _ _ _ hj, Nat.min_eq_left hj]
theorem add_succ (a : Addr) (i : Nat) : a.add (i + 1) = ⟨a.block, a.off + (i + 1), none⟩ := by
  unfold Addr.add
  rw [if_neg (by omega)]
theorem take_getD (L : List ByteArray) (i q : Nat) (h : q < i) : (L.take i).getD q ByteArray.empty = L.getD q ByteArray.empty := by
  rw [List.getD_eq_getElem?_getD, List.getD_eq_getElem?_getD, List.getElem?_take_of_lt h]
theorem bend_le (L : List ByteArray) (m : Nat) (hm : m ≤ L.length) (hb : ∀ i, i < m → (L.getD i ByteArray.empty).size ≤ 524288) : endOf L m ≤ m * 524296 := by
  induction m with
  | zero => cases L <;> simp [endOf]
  | succ m ih =>
    have h1 := ih (by omega) (fun i hi => hb i (by omega))
    have h2 := hb m (by omega)
    rw [end_next L m (by omega)]
    omega

set_option maxRecDepth 100000 in
set_option maxHeartbeats 3200000 in
theorem back_calls (w : World) (A : Option Addr) (len cap : Nat) (L : List ByteArray) (o : Int) (hA : R.Args w w.heap.size A len 1 strC L) (hlen : len ≤ cap) (hcap : cap ≤ maxLen) :
    Calls Try.prog 5 #[.slice A len cap, .int .i64 o] w (fun e w' => e = .returned (.bool true) ∧ Keep Nothing w w') := by
  have HA := Lib.hid hA
  have hL := hA.1
  have HL := Lib.hid hL
  have hu9 := Try.underlying9
  have hmax : maxLen = 9223372036854775807 := by rfl
  clear hA hL
  go_enter Try.func5, Try.ntmps5
  go_wp2_with fail
  go_loopw [5, 6, 7] (fun all ends i wr => ∃ (k : Nat) (E : Option Addr) (c : Nat), k ≤ len ∧ k ≤ 50 ∧ i = .int .i64 k ∧ all = .string (joinL (L.take k)) ∧ ends = .slice E (k + 1) c ∧ Row wr 3 1 (.slice E (k + 1) c) (k + 1) (endsC L k) ∧ Keep Nothing w wr ∧ (∀ g, (Value.slice E (k + 1) c).ownBlock = some g → w.heap.size ≤ g) ∧
    (∀ i, i < k → (L.getD i ByteArray.empty).size ≤ 524288)) (fun _ _ i _ => 50 - (intOf i).toNat)
  case atStart =>
    refine ⟨0, _, _, Nat.zero_le _, by omega, by simp, by simp [joinL]; rfl, rfl, ?_, (Keep.same _ _).alloc _, fun g hg => ?_, fun i hi => by omega⟩
    · have := Row.fresh w 3 1 1 #[.int .i64 0] (by simp) (by unfold maxLen; omega)
      simpa [endsC, endOf] using this
    · simp [Value.ownBlock] at hg; omega
  case round =>
    obtain ⟨k, E, c, hk, hk50, rfl, rfl, rfl, hrow, hkeep, hown, hsmall⟩ := hrel
    have R := Lib.hid hrow
    have K := Lib.hid hkeep
    have O := Lib.hid hown
    have SM := Lib.hid hsmall
    clear hrow hkeep hown hsmall
    by_cases hin : k < len ∧ k < 50
    · obtain ⟨hkl, hk5⟩ := hin
      obtain ⟨ad, rfl, hB, hc1⟩ := arg_at (HA.out.below (K.out.all_below (fun _ h => h.elim))) hkl
      have HN := Lib.hid (join_next L k (by have := HL.out; omega))
      have HE := Lib.hid (end_next L k (by have := HL.out; omega))
      have HJ := Lib.hid (join_size L k)
      have hbe := bend_le L k (by have := HL.out; omega) SM.out
      by_cases hs : (L.getD k ByteArray.empty).size ≤ 524288
      · have SM2 := Lib.hid (show ∀ i, i < k + 1 → (L.getD i ByteArray.empty).size ≤ 524288 by
          intro i hi
          by_cases h : i < k
          · exact SM.out i h
          · obtain rfl : i = k := by omega
            exact hs)
        have HWS := Lib.hid (wrapS_size (L.getD k ByteArray.empty))
        generalize hx : L.getD k ByteArray.empty = x at *
        have HW := Lib.hid (fun w => wrap_ok w x hs)
        have hcat := fun w => cat w (joinL (L.take k)) (wrapS x) (by rw [HWS.out, HJ.out]; omega)
        have HX := Lib.hid hx
        clear hx
        have hsum : (joinL (L.take k) ++ wrapS x).size = endOf L (k + 1) := by rw [ByteArray.size_append, HJ.out, HWS.out, HE.out]
        go_wp2_with fail
        refine (HW.out _).mono ?_
        rintro e w2 ⟨rfl, hk2⟩
        have K2 := Lib.hid hk2
        have R2 := Lib.hid (R.out.keep hk2 (fun _ _ h => h))
        clear hk2
        go_wp2_with (at_builtin; refine wpList_app _ rfl E38 (.tmp 47) (.tmp 50) rfl (R2.out.alloc _) (Src.one w2 (.int .i64 ((endOf L (k + 1) : Nat) : Int)) 3) 1 rfl rfl (by simp [Value.oneCell']) (by unfold maxLen; omega) (by omega) ?_)
        intro v4 w4 hr4 hg4 hl4
        obtain ⟨A4, c4, rfl, _, _⟩ := hr4.form
        have K4 := Lib.hid (((K.out.trans K2.out (fun _ h => h.elim)).alloc (.cells #[.int .i64 ((endOf L (k + 1) : Nat) : Int)] 3)).grown hg4 (fun i hi => .inr (O.out i hi)))
        have hsz : w.heap.size ≤ w2.heap.size := (K.out.trans K2.out (fun _ h => h.elim)).size
        have O4 := Lib.hid (show ∀ g, (Value.slice A4 (k + 1 + 1) c4).ownBlock = some g → w.heap.size ≤ g by
          intro g hg
          rcases hl4 with h | h
          · rw [h] at hg; exact O.out g hg
          · rw [h] at hg; injection hg with hg; first | omega | (simp at hg; omega))
        rw [ends_next] at hr4
        have R4 := Lib.hid hr4
        clear hr4 hg4 hl4 hsz
        go_wp2_with fail
        go_roundw
        case rel => exact ⟨k + 1, A4, c4, by omega, by omega, by go_num, by rw [HN.out], rfl, R4.out, K4.out, O4.out, SM2.out⟩
        case measure => simp [intOf]; omega
      · have HW := Lib.hid (fun w => wrap_big w (L.getD k ByteArray.empty) (by omega))
        have gb : decide ((524288 : Int) < ((L.getD k ByteArray.empty).size : Int)) = true := decide_eq_true (by omega)
        generalize L.getD k ByteArray.empty = x at *
        clear hs
        go_wp2_with fail
        refine (HW.out _).mono ?_
        rintro e w2 ⟨rfl, ⟨n2, rfl⟩⟩
        go_wp2_with fail
        refine (awake_calls _).mono ?_
        rintro e w3 ⟨rfl, hk3⟩
        have K3 := Lib.hid hk3
        clear hk3
        go_wp2_with fail
        go_ret
        exact ⟨rfl, (K.out.drewN _).then K3.out⟩
    · have hbe := bend_le L k (by have := HL.out; omega) SM.out
      have hjs := join_size L k
      have hkL : k ≤ L.length := by have := HL.out; omega
      obtain ⟨cut, hcut, hcd⟩ : ∃ cut : Nat, max (0 : Int) (min o ((joinL (L.take k)).size : Int)) = cut ∧ cut ≤ (joinL (L.take k)).size := ⟨(max (0 : Int) (min o ((joinL (L.take k)).size : Int))).toNat, by omega, by omega⟩
      obtain ⟨j, hj, hj1, hj2⟩ := whole_ex L k cut
      have HW := Lib.hid (allP_whole L k j cut hkL SM.out hj hj1 hj2 hcd)
      have HAL := Lib.hid (fun w => all_calls w ((joinL (L.take k)).extract 0 cut) (by rw [ByteArray.size_extract]; omega))
      rw [HW.out] at HAL
      have HM := Lib.hid (fun i (h : i ≤ j) => end_mono L i j (by omega) h)
      have htl : (L.take j).length = j := by rw [List.length_take]; omega
      rw [htl] at HAL
      have ic1 : (0 : Int) ≤ cut := by omega
      have ic2 : (cut : Int) ≤ (joinL (L.take k)).size := by omega
      have JS := Lib.hid (show (joinL (L.take k)).extract 0 0 = ByteArray.empty by
        apply ByteArray.ext
        rw [ByteArray.data_extract]
        simp)
      generalize joinL (L.take k) = J at *
      rcases (show (o ≤ 0 ∧ cut = 0) ∨ (0 < ((endOf L k : Nat) : Int) ∧ ((endOf L k : Nat) : Int) < o ∧ cut = endOf L k) ∨ (0 < o ∧ o ≤ ((endOf L k : Nat) : Int) ∧ o = cut) ∨ (endOf L k = 0 ∧ 0 < o ∧ cut = 0) by omega) with ⟨ho1, rfl⟩ | ⟨ho1, ho2, rfl⟩ | ⟨ho1, ho2, rfl⟩ | ⟨ho1, ho2, rfl⟩
      · rw [JS.out] at HAL
        clear JS
        rcases (show ¬ k < len ∨ (k < len ∧ ¬ k < 50) by omega) with hex | ⟨hex1, hex2⟩
        · go_wp2_with fail
          refine (HAL.out _).mono ?_
          rintro e w2 ⟨A2, c2, rfl, hr2, hk2⟩
          have K2 := Lib.hid (K.out.then hk2)
          have R2 := Lib.hid hr2
          have RE := Lib.hid (R.out.keep hk2 (fun _ _ h => h))
          clear hr2 hk2 HAL
          go_wp2_with fail
          go_loopw [12] (fun v wr2 => wr2 = w2 ∧ ∃ i : Nat, i ≤ j ∧ v = .int .i64 i) (fun v _ => j - (intOf v).toNat)
          case atStart => exact ⟨by trivial, 0, by omega, by simp⟩
          case round =>
            obtain ⟨rfl, i, hi, rfl⟩ := hrel
            by_cases hij : i < j
            · obtain ⟨ad, rfl, hce⟩ := end_at (j := i + 1) RE.out.src rfl (by omega)
              rw [add_succ] at hce
              have hm := HM.out (i + 1) (by omega)
              go_wp2_with fail
              go_roundw
              case rel => exact ⟨by trivial, i + 1, by omega, by go_num⟩
              case measure => simp [intOf]; omega
            · obtain rfl : i = j := by omega
              have hwhole : i = k ∨ (i < k ∧ ∃ ad, E = some ad ∧ wr.cell? ⟨ad.block, ad.off + (i + 1), none⟩ = some (.int .i64 ((endOf L (i + 1) : Nat) : Int))) := by
                by_cases h : i = k
                · exact .inl h
                · obtain ⟨ad, e, hce⟩ := end_at (j := i + 1) RE.out.src rfl (by omega)
                  rw [add_succ] at hce
                  exact .inr ⟨by omega, ad, e, hce⟩
              have AE := Lib.hid (end_at (j := i) RE.out.src rfl (by omega))
              rcases hwhole with rfl | ⟨hik, ad, rfl, hce⟩
              · obtain ⟨ad, rfl, hc0⟩ := AE.out
                go_wp2_with fail
                go_loopw [13] (fun v wr3 => Drew wr wr3 ∧ ∃ q : Nat, q ≤ i ∧ v = .int .i64 q) (fun v _ => i - (intOf v).toNat)
                case atStart => exact ⟨Drew.same _, 0, by omega, by simp⟩
                case round =>
                  obtain ⟨⟨nd, rfl⟩, q, hq, rfl⟩ := hrel
                  by_cases hqi : q < i
                  · obtain ⟨a2, rfl, hg⟩ := str_at R2.out.src hqi
                    obtain ⟨a1, rfl, _, hl⟩ := arg_at (HA.out.below (K2.out.all_below (fun _ h => h.elim))) (show q < len by omega)
                    have hsame := take_getD L i q hqi
                    rw [hsame] at hg
                    clear hsame
                    generalize L.getD q ByteArray.empty = x at *
                    have hxx : (x.toList == x.toList) = true := by simp
                    go_wp2_with fail
                    go_quiet (fail)
                    go_wp2_with fail
                    go_roundw
                    case rel => exact ⟨(Drew.same _).more _, q + 1, by omega, by go_num⟩
                    case measure => simp [intOf]; omega
                  · go_wp2_with fail
                    refine (awake_calls _).mono ?_
                    rintro e w5 ⟨rfl, hk5⟩
                    have K5 := Lib.hid hk5
                    clear hk5
                    go_wp2_with fail
                    go_ret
                    exact ⟨rfl, (K2.out.drewN _).then K5.out⟩
              · obtain ⟨ad', had, hc0⟩ := AE.out
                injection had with had
                subst had
                have hgt : ¬ endOf L (i + 1) ≤ 0 := by omega
                go_wp2_with fail
                go_loopw [13] (fun v wr3 => Drew wr wr3 ∧ ∃ q : Nat, q ≤ i ∧ v = .int .i64 q) (fun v _ => i - (intOf v).toNat)
                case atStart => exact ⟨Drew.same _, 0, by omega, by simp⟩
                case round =>
                  obtain ⟨⟨nd, rfl⟩, q, hq, rfl⟩ := hrel
                  by_cases hqi : q < i
                  · obtain ⟨a2, rfl, hg⟩ := str_at R2.out.src hqi
                    obtain ⟨a1, rfl, _, hl⟩ := arg_at (HA.out.below (K2.out.all_below (fun _ h => h.elim))) (show q < len by omega)
                    have hsame := take_getD L i q hqi
                    rw [hsame] at hg
                    clear hsame
                    generalize L.getD q ByteArray.empty = x at *
                    have hxx : (x.toList == x.toList) = true := by simp
                    go_wp2_with fail
                    go_quiet (fail)
                    go_wp2_with fail
                    go_roundw
                    case rel => exact ⟨(Drew.same _).more _, q + 1, by omega, by go_num⟩
                    case measure => simp [intOf]; omega
                  · go_wp2_with fail
                    refine (awake_calls _).mono ?_
                    rintro e w5 ⟨rfl, hk5⟩
                    have K5 := Lib.hid hk5
                    clear hk5
                    go_wp2_with fail
                    go_ret
                    exact ⟨rfl, (K2.out.drewN _).then K5.out⟩
        · go_wp2_with fail
          refine (HAL.out _).mono ?_
          rintro e w2 ⟨A2, c2, rfl, hr2, hk2⟩
          have K2 := Lib.hid (K.out.then hk2)
          have R2 := Lib.hid hr2
          have RE := Lib.hid (R.out.keep hk2 (fun _ _ h => h))
          clear hr2 hk2 HAL
          go_wp2_with fail
          go_loopw [12] (fun v wr2 => wr2 = w2 ∧ ∃ i : Nat, i ≤ j ∧ v = .int .i64 i) (fun v _ => j - (intOf v).toNat)
          case atStart => exact ⟨by trivial, 0, by omega, by simp⟩
          case round =>
            obtain ⟨rfl, i, hi, rfl⟩ := hrel
            by_cases hij : i < j
            · obtain ⟨ad, rfl, hce⟩ := end_at (j := i + 1) RE.out.src rfl (by omega)
              rw [add_succ] at hce
              have hm := HM.out (i + 1) (by omega)
              go_wp2_with fail
              go_roundw
              case rel => exact ⟨by trivial, i + 1, by omega, by go_num⟩
              case measure => simp [intOf]; omega
            · obtain rfl : i = j := by omega
              have hwhole : i = k ∨ (i < k ∧ ∃ ad, E = some ad ∧ wr.cell? ⟨ad.block, ad.off + (i + 1), none⟩ = some (.int .i64 ((endOf L (i + 1) : Nat) : Int))) := by
                by_cases h : i = k
                · exact .inl h
                · obtain ⟨ad, e, hce⟩ := end_at (j := i + 1) RE.out.src rfl (by omega)
                  rw [add_succ] at hce
                  exact .inr ⟨by omega, ad, e, hce⟩
              have AE := Lib.hid (end_at (j := i) RE.out.src rfl (by omega))
              rcases hwhole with rfl | ⟨hik, ad, rfl, hce⟩
              · obtain ⟨ad, rfl, hc0⟩ := AE.out
                go_wp2_with fail
                go_loopw [13] (fun v wr3 => Drew wr wr3 ∧ ∃ q : Nat, q ≤ i ∧ v = .int .i64 q) (fun v _ => i - (intOf v).toNat)
                case atStart => exact ⟨Drew.same _, 0, by omega, by simp⟩
                case round =>
                  obtain ⟨⟨nd, rfl⟩, q, hq, rfl⟩ := hrel
                  by_cases hqi : q < i
                  · obtain ⟨a2, rfl, hg⟩ := str_at R2.out.src hqi
                    obtain ⟨a1, rfl, _, hl⟩ := arg_at (HA.out.below (K2.out.all_below (fun _ h => h.elim))) (show q < len by omega)
                    have hsame := take_getD L i q hqi
                    rw [hsame] at hg
                    clear hsame
                    generalize L.getD q ByteArray.empty = x at *
                    have hxx : (x.toList == x.toList) = true := by simp
                    go_wp2_with fail
                    go_quiet (fail)
                    go_wp2_with fail
                    go_roundw
                    case rel => exact ⟨(Drew.same _).more _, q + 1, by omega, by go_num⟩
                    case measure => simp [intOf]; omega
                  · go_wp2_with fail
                    refine (awake_calls _).mono ?_
                    rintro e w5 ⟨rfl, hk5⟩
                    have K5 := Lib.hid hk5
                    clear hk5
                    go_wp2_with fail
                    go_ret
                    exact ⟨rfl, (K2.out.drewN _).then K5.out⟩
              · obtain ⟨ad', had, hc0⟩ := AE.out
                injection had with had
                subst had
                have hgt : ¬ endOf L (i + 1) ≤ 0 := by omega
                go_wp2_with fail
                go_loopw [13] (fun v wr3 => Drew wr wr3 ∧ ∃ q : Nat, q ≤ i ∧ v = .int .i64 q) (fun v _ => i - (intOf v).toNat)
                case atStart => exact ⟨Drew.same _, 0, by omega, by simp⟩
                case round =>
                  obtain ⟨⟨nd, rfl⟩, q, hq, rfl⟩ := hrel
                  by_cases hqi : q < i
                  · obtain ⟨a2, rfl, hg⟩ := str_at R2.out.src hqi
                    obtain ⟨a1, rfl, _, hl⟩ := arg_at (HA.out.below (K2.out.all_below (fun _ h => h.elim))) (show q < len by omega)
                    have hsame := take_getD L i q hqi
                    rw [hsame] at hg
                    clear hsame
                    generalize L.getD q ByteArray.empty = x at *
                    have hxx : (x.toList == x.toList) = true := by simp
                    go_wp2_with fail
                    go_quiet (fail)
                    go_wp2_with fail
                    go_roundw
                    case rel => exact ⟨(Drew.same _).more _, q + 1, by omega, by go_num⟩
                    case measure => simp [intOf]; omega
                  · go_wp2_with fail
                    refine (awake_calls _).mono ?_
                    rintro e w5 ⟨rfl, hk5⟩
                    have K5 := Lib.hid hk5
                    clear hk5
                    go_wp2_with fail
                    go_ret
                    exact ⟨rfl, (K2.out.drewN _).then K5.out⟩
      · clear JS
        rcases (show ¬ k < len ∨ (k < len ∧ ¬ k < 50) by omega) with hex | ⟨hex1, hex2⟩
        · go_wp2_with fail
          refine (HAL.out _).mono ?_
          rintro e w2 ⟨A2, c2, rfl, hr2, hk2⟩
          have K2 := Lib.hid (K.out.then hk2)
          have R2 := Lib.hid hr2
          have RE := Lib.hid (R.out.keep hk2 (fun _ _ h => h))
          clear hr2 hk2 HAL
          go_wp2_with fail
          go_loopw [12] (fun v wr2 => wr2 = w2 ∧ ∃ i : Nat, i ≤ j ∧ v = .int .i64 i) (fun v _ => j - (intOf v).toNat)
          case atStart => exact ⟨by trivial, 0, by omega, by simp⟩
          case round =>
            obtain ⟨rfl, i, hi, rfl⟩ := hrel
            by_cases hij : i < j
            · obtain ⟨ad, rfl, hce⟩ := end_at (j := i + 1) RE.out.src rfl (by omega)
              rw [add_succ] at hce
              have hm := HM.out (i + 1) (by omega)
              go_wp2_with fail
              go_roundw
              case rel => exact ⟨by trivial, i + 1, by omega, by go_num⟩
              case measure => simp [intOf]; omega
            · obtain rfl : i = j := by omega
              have hwhole : i = k ∨ (i < k ∧ ∃ ad, E = some ad ∧ wr.cell? ⟨ad.block, ad.off + (i + 1), none⟩ = some (.int .i64 ((endOf L (i + 1) : Nat) : Int))) := by
                by_cases h : i = k
                · exact .inl h
                · obtain ⟨ad, e, hce⟩ := end_at (j := i + 1) RE.out.src rfl (by omega)
                  rw [add_succ] at hce
                  exact .inr ⟨by omega, ad, e, hce⟩
              have AE := Lib.hid (end_at (j := i) RE.out.src rfl (by omega))
              rcases hwhole with rfl | ⟨hik, ad, rfl, hce⟩
              · obtain ⟨ad, rfl, hc0⟩ := AE.out
                go_wp2_with fail
                go_loopw [13] (fun v wr3 => Drew wr wr3 ∧ ∃ q : Nat, q ≤ i ∧ v = .int .i64 q) (fun v _ => i - (intOf v).toNat)
                case atStart => exact ⟨Drew.same _, 0, by omega, by simp⟩
                case round =>
                  obtain ⟨⟨nd, rfl⟩, q, hq, rfl⟩ := hrel
                  by_cases hqi : q < i
                  · obtain ⟨a2, rfl, hg⟩ := str_at R2.out.src hqi
                    obtain ⟨a1, rfl, _, hl⟩ := arg_at (HA.out.below (K2.out.all_below (fun _ h => h.elim))) (show q < len by omega)
                    have hsame := take_getD L i q hqi
                    rw [hsame] at hg
                    clear hsame
                    generalize L.getD q ByteArray.empty = x at *
                    have hxx : (x.toList == x.toList) = true := by simp
                    go_wp2_with fail
                    go_quiet (fail)
                    go_wp2_with fail
                    go_roundw
                    case rel => exact ⟨(Drew.same _).more _, q + 1, by omega, by go_num⟩
                    case measure => simp [intOf]; omega
                  · go_wp2_with fail
                    refine (awake_calls _).mono ?_
                    rintro e w5 ⟨rfl, hk5⟩
                    have K5 := Lib.hid hk5
                    clear hk5
                    go_wp2_with fail
                    go_ret
                    exact ⟨rfl, (K2.out.drewN _).then K5.out⟩
              · obtain ⟨ad', had, hc0⟩ := AE.out
                injection had with had
                subst had
                have hgt : ¬ endOf L (i + 1) ≤ endOf L k := by omega
                go_wp2_with fail
                go_loopw [13] (fun v wr3 => Drew wr wr3 ∧ ∃ q : Nat, q ≤ i ∧ v = .int .i64 q) (fun v _ => i - (intOf v).toNat)
                case atStart => exact ⟨Drew.same _, 0, by omega, by simp⟩
                case round =>
                  obtain ⟨⟨nd, rfl⟩, q, hq, rfl⟩ := hrel
                  by_cases hqi : q < i
                  · obtain ⟨a2, rfl, hg⟩ := str_at R2.out.src hqi
                    obtain ⟨a1, rfl, _, hl⟩ := arg_at (HA.out.below (K2.out.all_below (fun _ h => h.elim))) (show q < len by omega)
                    have hsame := take_getD L i q hqi
                    rw [hsame] at hg
                    clear hsame
                    generalize L.getD q ByteArray.empty = x at *
                    have hxx : (x.toList == x.toList) = true := by simp
                    go_wp2_with fail
                    go_quiet (fail)
                    go_wp2_with fail
                    go_roundw
                    case rel => exact ⟨(Drew.same _).more _, q + 1, by omega, by go_num⟩
                    case measure => simp [intOf]; omega
                  · go_wp2_with fail
                    refine (awake_calls _).mono ?_
                    rintro e w5 ⟨rfl, hk5⟩
                    have K5 := Lib.hid hk5
                    clear hk5
                    go_wp2_with fail
                    go_ret
                    exact ⟨rfl, (K2.out.drewN _).then K5.out⟩
        · go_wp2_with fail
          refine (HAL.out _).mono ?_
          rintro e w2 ⟨A2, c2, rfl, hr2, hk2⟩
          have K2 := Lib.hid (K.out.then hk2)
          have R2 := Lib.hid hr2
          have RE := Lib.hid (R.out.keep hk2 (fun _ _ h => h))
          clear hr2 hk2 HAL
          go_wp2_with fail
          go_loopw [12] (fun v wr2 => wr2 = w2 ∧ ∃ i : Nat, i ≤ j ∧ v = .int .i64 i) (fun v _ => j - (intOf v).toNat)
          case atStart => exact ⟨by trivial, 0, by omega, by simp⟩
          case round =>
            obtain ⟨rfl, i, hi, rfl⟩ := hrel
            by_cases hij : i < j
            · obtain ⟨ad, rfl, hce⟩ := end_at (j := i + 1) RE.out.src rfl (by omega)
              rw [add_succ] at hce
              have hm := HM.out (i + 1) (by omega)
              go_wp2_with fail
              go_roundw
              case rel => exact ⟨by trivial, i + 1, by omega, by go_num⟩
              case measure => simp [intOf]; omega
            · obtain rfl : i = j := by omega
              have hwhole : i = k ∨ (i < k ∧ ∃ ad, E = some ad ∧ wr.cell? ⟨ad.block, ad.off + (i + 1), none⟩ = some (.int .i64 ((endOf L (i + 1) : Nat) : Int))) := by
                by_cases h : i = k
                · exact .inl h
                · obtain ⟨ad, e, hce⟩ := end_at (j := i + 1) RE.out.src rfl (by omega)
                  rw [add_succ] at hce
                  exact .inr ⟨by omega, ad, e, hce⟩
              have AE := Lib.hid (end_at (j := i) RE.out.src rfl (by omega))
              rcases hwhole with rfl | ⟨hik, ad, rfl, hce⟩
              · obtain ⟨ad, rfl, hc0⟩ := AE.out
                go_wp2_with fail
                go_loopw [13] (fun v wr3 => Drew wr wr3 ∧ ∃ q : Nat, q ≤ i ∧ v = .int .i64 q) (fun v _ => i - (intOf v).toNat)
                case atStart => exact ⟨Drew.same _, 0, by omega, by simp⟩
                case round =>
                  obtain ⟨⟨nd, rfl⟩, q, hq, rfl⟩ := hrel
                  by_cases hqi : q < i
                  · obtain ⟨a2, rfl, hg⟩ := str_at R2.out.src hqi
                    obtain ⟨a1, rfl, _, hl⟩ := arg_at (HA.out.below (K2.out.all_below (fun _ h => h.elim))) (show q < len by omega)
                    have hsame := take_getD L i q hqi
                    rw [hsame] at hg
                    clear hsame
                    generalize L.getD q ByteArray.empty = x at *
                    have hxx : (x.toList == x.toList) = true := by simp
                    go_wp2_with fail
                    go_quiet (fail)
                    go_wp2_with fail
                    go_roundw
                    case rel => exact ⟨(Drew.same _).more _, q + 1, by omega, by go_num⟩
                    case measure => simp [intOf]; omega
                  · go_wp2_with fail
                    refine (awake_calls _).mono ?_
                    rintro e w5 ⟨rfl, hk5⟩
                    have K5 := Lib.hid hk5
                    clear hk5
                    go_wp2_with fail
                    go_ret
                    exact ⟨rfl, (K2.out.drewN _).then K5.out⟩
              · obtain ⟨ad', had, hc0⟩ := AE.out
                injection had with had
                subst had
                have hgt : ¬ endOf L (i + 1) ≤ endOf L k := by omega
                go_wp2_with fail
                go_loopw [13] (fun v wr3 => Drew wr wr3 ∧ ∃ q : Nat, q ≤ i ∧ v = .int .i64 q) (fun v _ => i - (intOf v).toNat)
                case atStart => exact ⟨Drew.same _, 0, by omega, by simp⟩
                case round =>
                  obtain ⟨⟨nd, rfl⟩, q, hq, rfl⟩ := hrel
                  by_cases hqi : q < i
                  · obtain ⟨a2, rfl, hg⟩ := str_at R2.out.src hqi
                    obtain ⟨a1, rfl, _, hl⟩ := arg_at (HA.out.below (K2.out.all_below (fun _ h => h.elim))) (show q < len by omega)
                    have hsame := take_getD L i q hqi
                    rw [hsame] at hg
                    clear hsame
                    generalize L.getD q ByteArray.empty = x at *
                    have hxx : (x.toList == x.toList) = true := by simp
                    go_wp2_with fail
                    go_quiet (fail)
                    go_wp2_with fail
                    go_roundw
                    case rel => exact ⟨(Drew.same _).more _, q + 1, by omega, by go_num⟩
                    case measure => simp [intOf]; omega
                  · go_wp2_with fail
                    refine (awake_calls _).mono ?_
                    rintro e w5 ⟨rfl, hk5⟩
                    have K5 := Lib.hid hk5
                    clear hk5
                    go_wp2_with fail
                    go_ret
                    exact ⟨rfl, (K2.out.drewN _).then K5.out⟩
      · clear JS
        rcases (show ¬ k < len ∨ (k < len ∧ ¬ k < 50) by omega) with hex | ⟨hex1, hex2⟩
        · go_wp2_with fail
          refine (HAL.out _).mono ?_
          rintro e w2 ⟨A2, c2, rfl, hr2, hk2⟩
          have K2 := Lib.hid (K.out.then hk2)
          have R2 := Lib.hid hr2
          have RE := Lib.hid (R.out.keep hk2 (fun _ _ h => h))
          clear hr2 hk2 HAL
          go_wp2_with fail
          go_loopw [12] (fun v wr2 => wr2 = w2 ∧ ∃ i : Nat, i ≤ j ∧ v = .int .i64 i) (fun v _ => j - (intOf v).toNat)
          case atStart => exact ⟨by trivial, 0, by omega, by simp⟩
          case round =>
            obtain ⟨rfl, i, hi, rfl⟩ := hrel
            by_cases hij : i < j
            · obtain ⟨ad, rfl, hce⟩ := end_at (j := i + 1) RE.out.src rfl (by omega)
              rw [add_succ] at hce
              have hm := HM.out (i + 1) (by omega)
              go_wp2_with fail
              go_roundw
              case rel => exact ⟨by trivial, i + 1, by omega, by go_num⟩
              case measure => simp [intOf]; omega
            · obtain rfl : i = j := by omega
              have hwhole : i = k ∨ (i < k ∧ ∃ ad, E = some ad ∧ wr.cell? ⟨ad.block, ad.off + (i + 1), none⟩ = some (.int .i64 ((endOf L (i + 1) : Nat) : Int))) := by
                by_cases h : i = k
                · exact .inl h
                · obtain ⟨ad, e, hce⟩ := end_at (j := i + 1) RE.out.src rfl (by omega)
                  rw [add_succ] at hce
                  exact .inr ⟨by omega, ad, e, hce⟩
              have AE := Lib.hid (end_at (j := i) RE.out.src rfl (by omega))
              rcases hwhole with rfl | ⟨hik, ad, rfl, hce⟩
              · obtain ⟨ad, rfl, hc0⟩ := AE.out
                go_wp2_with fail
                go_loopw [13] (fun v wr3 => Drew wr wr3 ∧ ∃ q : Nat, q ≤ i ∧ v = .int .i64 q) (fun v _ => i - (intOf v).toNat)
                case atStart => exact ⟨Drew.same _, 0, by omega, by simp⟩
                case round =>
                  obtain ⟨⟨nd, rfl⟩, q, hq, rfl⟩ := hrel
                  by_cases hqi : q < i
                  · obtain ⟨a2, rfl, hg⟩ := str_at R2.out.src hqi
                    obtain ⟨a1, rfl, _, hl⟩ := arg_at (HA.out.below (K2.out.all_below (fun _ h => h.elim))) (show q < len by omega)
                    have hsame := take_getD L i q hqi
                    rw [hsame] at hg
                    clear hsame
                    generalize L.getD q ByteArray.empty = x at *
                    have hxx : (x.toList == x.toList) = true := by simp
                    go_wp2_with fail
                    go_quiet (fail)
                    go_wp2_with fail
                    go_roundw
                    case rel => exact ⟨(Drew.same _).more _, q + 1, by omega, by go_num⟩
                    case measure => simp [intOf]; omega
                  · go_wp2_with fail
                    refine (awake_calls _).mono ?_
                    rintro e w5 ⟨rfl, hk5⟩
                    have K5 := Lib.hid hk5
                    clear hk5
                    go_wp2_with fail
                    go_ret
                    exact ⟨rfl, (K2.out.drewN _).then K5.out⟩
              · obtain ⟨ad', had, hc0⟩ := AE.out
                injection had with had
                subst had
                have hgt : ¬ endOf L (i + 1) ≤ cut := by omega
                go_wp2_with fail
                go_loopw [13] (fun v wr3 => Drew wr wr3 ∧ ∃ q : Nat, q ≤ i ∧ v = .int .i64 q) (fun v _ => i - (intOf v).toNat)
                case atStart => exact ⟨Drew.same _, 0, by omega, by simp⟩
                case round =>
                  obtain ⟨⟨nd, rfl⟩, q, hq, rfl⟩ := hrel
                  by_cases hqi : q < i
                  · obtain ⟨a2, rfl, hg⟩ := str_at R2.out.src hqi
                    obtain ⟨a1, rfl, _, hl⟩ := arg_at (HA.out.below (K2.out.all_below (fun _ h => h.elim))) (show q < len by omega)
                    have hsame := take_getD L i q hqi
                    rw [hsame] at hg
                    clear hsame
                    generalize L.getD q ByteArray.empty = x at *
                    have hxx : (x.toList == x.toList) = true := by simp
                    go_wp2_with fail
                    go_quiet (fail)
                    go_wp2_with fail
                    go_roundw
                    case rel => exact ⟨(Drew.same _).more _, q + 1, by omega, by go_num⟩
                    case measure => simp [intOf]; omega
                  · go_wp2_with fail
                    refine (awake_calls _).mono ?_
                    rintro e w5 ⟨rfl, hk5⟩
                    have K5 := Lib.hid hk5
                    clear hk5
                    go_wp2_with fail
                    go_ret
                    exact ⟨rfl, (K2.out.drewN _).then K5.out⟩
        · go_wp2_with fail
          refine (HAL.out _).mono ?_
          rintro e w2 ⟨A2, c2, rfl, hr2, hk2⟩
          have K2 := Lib.hid (K.out.then hk2)
          have R2 := Lib.hid hr2
          have RE := Lib.hid (R.out.keep hk2 (fun _ _ h => h))
          clear hr2 hk2 HAL
          go_wp2_with fail
          go_loopw [12] (fun v wr2 => wr2 = w2 ∧ ∃ i : Nat, i ≤ j ∧ v = .int .i64 i) (fun v _ => j - (intOf v).toNat)
          case atStart => exact ⟨by trivial, 0, by omega, by simp⟩
          case round =>
            obtain ⟨rfl, i, hi, rfl⟩ := hrel
            by_cases hij : i < j
            · obtain ⟨ad, rfl, hce⟩ := end_at (j := i + 1) RE.out.src rfl (by omega)
              rw [add_succ] at hce
              have hm := HM.out (i + 1) (by omega)
              go_wp2_with fail
              go_roundw
              case rel => exact ⟨by trivial, i + 1, by omega, by go_num⟩
              case measure => simp [intOf]; omega
            · obtain rfl : i = j := by omega
              have hwhole : i = k ∨ (i < k ∧ ∃ ad, E = some ad ∧ wr.cell? ⟨ad.block, ad.off + (i + 1), none⟩ = some (.int .i64 ((endOf L (i + 1) : Nat) : Int))) := by
                by_cases h : i = k
                · exact .inl h
                · obtain ⟨ad, e, hce⟩ := end_at (j := i + 1) RE.out.src rfl (by omega)
                  rw [add_succ] at hce
                  exact .inr ⟨by omega, ad, e, hce⟩
              have AE := Lib.hid (end_at (j := i) RE.out.src rfl (by omega))
              rcases hwhole with rfl | ⟨hik, ad, rfl, hce⟩
              · obtain ⟨ad, rfl, hc0⟩ := AE.out
                go_wp2_with fail
                go_loopw [13] (fun v wr3 => Drew wr wr3 ∧ ∃ q : Nat, q ≤ i ∧ v = .int .i64 q) (fun v _ => i - (intOf v).toNat)
                case atStart => exact ⟨Drew.same _, 0, by omega, by simp⟩
                case round =>
                  obtain ⟨⟨nd, rfl⟩, q, hq, rfl⟩ := hrel
                  by_cases hqi : q < i
                  · obtain ⟨a2, rfl, hg⟩ := str_at R2.out.src hqi
                    obtain ⟨a1, rfl, _, hl⟩ := arg_at (HA.out.below (K2.out.all_below (fun _ h => h.elim))) (show q < len by omega)
                    have hsame := take_getD L i q hqi
                    rw [hsame] at hg
                    clear hsame
                    generalize L.getD q ByteArray.empty = x at *
                    have hxx : (x.toList == x.toList) = true := by simp
                    go_wp2_with fail
                    go_quiet (fail)
                    go_wp2_with fail
                    go_roundw
                    case rel => exact ⟨(Drew.same _).more _, q + 1, by omega, by go_num⟩
                    case measure => simp [intOf]; omega
                  · go_wp2_with fail
                    refine (awake_calls _).mono ?_
                    rintro e w5 ⟨rfl, hk5⟩
                    have K5 := Lib.hid hk5
                    clear hk5
                    go_wp2_with fail
                    go_ret
                    exact ⟨rfl, (K2.out.drewN _).then K5.out⟩
              · obtain ⟨ad', had, hc0⟩ := AE.out
                injection had with had
                subst had
                have hgt : ¬ endOf L (i + 1) ≤ cut := by omega
                go_wp2_with fail
                go_loopw [13] (fun v wr3 => Drew wr wr3 ∧ ∃ q : Nat, q ≤ i ∧ v = .int .i64 q) (fun v _ => i - (intOf v).toNat)
                case atStart => exact ⟨Drew.same _, 0, by omega, by simp⟩
                case round =>
                  obtain ⟨⟨nd, rfl⟩, q, hq, rfl⟩ := hrel
                  by_cases hqi : q < i
                  · obtain ⟨a2, rfl, hg⟩ := str_at R2.out.src hqi
                    obtain ⟨a1, rfl, _, hl⟩ := arg_at (HA.out.below (K2.out.all_below (fun _ h => h.elim))) (show q < len by omega)
                    have hsame := take_getD L i q hqi
                    rw [hsame] at hg
                    clear hsame
                    generalize L.getD q ByteArray.empty = x at *
                    have hxx : (x.toList == x.toList) = true := by simp
                    go_wp2_with fail
                    go_quiet (fail)
                    go_wp2_with fail
                    go_roundw
                    case rel => exact ⟨(Drew.same _).more _, q + 1, by omega, by go_num⟩
                    case measure => simp [intOf]; omega
                  · go_wp2_with fail
                    refine (awake_calls _).mono ?_
                    rintro e w5 ⟨rfl, hk5⟩
                    have K5 := Lib.hid hk5
                    clear hk5
                    go_wp2_with fail
                    go_ret
                    exact ⟨rfl, (K2.out.drewN _).then K5.out⟩
      · rw [JS.out] at HAL
        clear JS
        rcases (show ¬ k < len ∨ (k < len ∧ ¬ k < 50) by omega) with hex | ⟨hex1, hex2⟩
        · go_wp2_with fail
          refine (HAL.out _).mono ?_
          rintro e w2 ⟨A2, c2, rfl, hr2, hk2⟩
          have K2 := Lib.hid (K.out.then hk2)
          have R2 := Lib.hid hr2
          have RE := Lib.hid (R.out.keep hk2 (fun _ _ h => h))
          clear hr2 hk2 HAL
          go_wp2_with fail
          go_loopw [12] (fun v wr2 => wr2 = w2 ∧ ∃ i : Nat, i ≤ j ∧ v = .int .i64 i) (fun v _ => j - (intOf v).toNat)
          case atStart => exact ⟨by trivial, 0, by omega, by simp⟩
          case round =>
            obtain ⟨rfl, i, hi, rfl⟩ := hrel
            by_cases hij : i < j
            · obtain ⟨ad, rfl, hce⟩ := end_at (j := i + 1) RE.out.src rfl (by omega)
              rw [add_succ] at hce
              have hm := HM.out (i + 1) (by omega)
              go_wp2_with fail
              go_roundw
              case rel => exact ⟨by trivial, i + 1, by omega, by go_num⟩
              case measure => simp [intOf]; omega
            · obtain rfl : i = j := by omega
              have hwhole : i = k ∨ (i < k ∧ ∃ ad, E = some ad ∧ wr.cell? ⟨ad.block, ad.off + (i + 1), none⟩ = some (.int .i64 ((endOf L (i + 1) : Nat) : Int))) := by
                by_cases h : i = k
                · exact .inl h
                · obtain ⟨ad, e, hce⟩ := end_at (j := i + 1) RE.out.src rfl (by omega)
                  rw [add_succ] at hce
                  exact .inr ⟨by omega, ad, e, hce⟩
              have AE := Lib.hid (end_at (j := i) RE.out.src rfl (by omega))
              rcases hwhole with rfl | ⟨hik, ad, rfl, hce⟩
              · obtain ⟨ad, rfl, hc0⟩ := AE.out
                go_wp2_with fail
                go_loopw [13] (fun v wr3 => Drew wr wr3 ∧ ∃ q : Nat, q ≤ i ∧ v = .int .i64 q) (fun v _ => i - (intOf v).toNat)
                case atStart => exact ⟨Drew.same _, 0, by omega, by simp⟩
                case round =>
                  obtain ⟨⟨nd, rfl⟩, q, hq, rfl⟩ := hrel
                  by_cases hqi : q < i
                  · obtain ⟨a2, rfl, hg⟩ := str_at R2.out.src hqi
                    obtain ⟨a1, rfl, _, hl⟩ := arg_at (HA.out.below (K2.out.all_below (fun _ h => h.elim))) (show q < len by omega)
                    have hsame := take_getD L i q hqi
                    rw [hsame] at hg
                    clear hsame
                    generalize L.getD q ByteArray.empty = x at *
                    have hxx : (x.toList == x.toList) = true := by simp
                    go_wp2_with fail
                    go_quiet (fail)
                    go_wp2_with fail
                    go_roundw
                    case rel => exact ⟨(Drew.same _).more _, q + 1, by omega, by go_num⟩
                    case measure => simp [intOf]; omega
                  · go_wp2_with fail
                    refine (awake_calls _).mono ?_
                    rintro e w5 ⟨rfl, hk5⟩
                    have K5 := Lib.hid hk5
                    clear hk5
                    go_wp2_with fail
                    go_ret
                    exact ⟨rfl, (K2.out.drewN _).then K5.out⟩
              · obtain ⟨ad', had, hc0⟩ := AE.out
                injection had with had
                subst had
                have hgt : ¬ endOf L (i + 1) ≤ 0 := by omega
                go_wp2_with fail
                go_loopw [13] (fun v wr3 => Drew wr wr3 ∧ ∃ q : Nat, q ≤ i ∧ v = .int .i64 q) (fun v _ => i - (intOf v).toNat)
                case atStart => exact ⟨Drew.same _, 0, by omega, by simp⟩
                case round =>
                  obtain ⟨⟨nd, rfl⟩, q, hq, rfl⟩ := hrel
                  by_cases hqi : q < i
                  · obtain ⟨a2, rfl, hg⟩ := str_at R2.out.src hqi
                    obtain ⟨a1, rfl, _, hl⟩ := arg_at (HA.out.below (K2.out.all_below (fun _ h => h.elim))) (show q < len by omega)
                    have hsame := take_getD L i q hqi
                    rw [hsame] at hg
                    clear hsame
                    generalize L.getD q ByteArray.empty = x at *
                    have hxx : (x.toList == x.toList) = true := by simp
                    go_wp2_with fail
                    go_quiet (fail)
                    go_wp2_with fail
                    go_roundw
                    case rel => exact ⟨(Drew.same _).more _, q + 1, by omega, by go_num⟩
                    case measure => simp [intOf]; omega
                  · go_wp2_with fail
                    refine (awake_calls _).mono ?_
                    rintro e w5 ⟨rfl, hk5⟩
                    have K5 := Lib.hid hk5
                    clear hk5
                    go_wp2_with fail
                    go_ret
                    exact ⟨rfl, (K2.out.drewN _).then K5.out⟩
        · go_wp2_with fail
          refine (HAL.out _).mono ?_
          rintro e w2 ⟨A2, c2, rfl, hr2, hk2⟩
          have K2 := Lib.hid (K.out.then hk2)
          have R2 := Lib.hid hr2
          have RE := Lib.hid (R.out.keep hk2 (fun _ _ h => h))
          clear hr2 hk2 HAL
          go_wp2_with fail
          go_loopw [12] (fun v wr2 => wr2 = w2 ∧ ∃ i : Nat, i ≤ j ∧ v = .int .i64 i) (fun v _ => j - (intOf v).toNat)
          case atStart => exact ⟨by trivial, 0, by omega, by simp⟩
          case round =>
            obtain ⟨rfl, i, hi, rfl⟩ := hrel
            by_cases hij : i < j
            · obtain ⟨ad, rfl, hce⟩ := end_at (j := i + 1) RE.out.src rfl (by omega)
              rw [add_succ] at hce
              have hm := HM.out (i + 1) (by omega)
              go_wp2_with fail
              go_roundw
              case rel => exact ⟨by trivial, i + 1, by omega, by go_num⟩
              case measure => simp [intOf]; omega
            · obtain rfl : i = j := by omega
              have hwhole : i = k ∨ (i < k ∧ ∃ ad, E = some ad ∧ wr.cell? ⟨ad.block, ad.off + (i + 1), none⟩ = some (.int .i64 ((endOf L (i + 1) : Nat) : Int))) := by
                by_cases h : i = k
                · exact .inl h
                · obtain ⟨ad, e, hce⟩ := end_at (j := i + 1) RE.out.src rfl (by omega)
                  rw [add_succ] at hce
                  exact .inr ⟨by omega, ad, e, hce⟩
              have AE := Lib.hid (end_at (j := i) RE.out.src rfl (by omega))
              rcases hwhole with rfl | ⟨hik, ad, rfl, hce⟩
              · obtain ⟨ad, rfl, hc0⟩ := AE.out
                go_wp2_with fail
                go_loopw [13] (fun v wr3 => Drew wr wr3 ∧ ∃ q : Nat, q ≤ i ∧ v = .int .i64 q) (fun v _ => i - (intOf v).toNat)
                case atStart => exact ⟨Drew.same _, 0, by omega, by simp⟩
                case round =>
                  obtain ⟨⟨nd, rfl⟩, q, hq, rfl⟩ := hrel
                  by_cases hqi : q < i
                  · obtain ⟨a2, rfl, hg⟩ := str_at R2.out.src hqi
                    obtain ⟨a1, rfl, _, hl⟩ := arg_at (HA.out.below (K2.out.all_below (fun _ h => h.elim))) (show q < len by omega)
                    have hsame := take_getD L i q hqi
                    rw [hsame] at hg
                    clear hsame
                    generalize L.getD q ByteArray.empty = x at *
                    have hxx : (x.toList == x.toList) = true := by simp
                    go_wp2_with fail
                    go_quiet (fail)
                    go_wp2_with fail
                    go_roundw
                    case rel => exact ⟨(Drew.same _).more _, q + 1, by omega, by go_num⟩
                    case measure => simp [intOf]; omega
                  · go_wp2_with fail
                    refine (awake_calls _).mono ?_
                    rintro e w5 ⟨rfl, hk5⟩
                    have K5 := Lib.hid hk5
                    clear hk5
                    go_wp2_with fail
                    go_ret
                    exact ⟨rfl, (K2.out.drewN _).then K5.out⟩
              · obtain ⟨ad', had, hc0⟩ := AE.out
                injection had with had
                subst had
                have hgt : ¬ endOf L (i + 1) ≤ 0 := by omega
                go_wp2_with fail
                go_loopw [13] (fun v wr3 => Drew wr wr3 ∧ ∃ q : Nat, q ≤ i ∧ v = .int .i64 q) (fun v _ => i - (intOf v).toNat)
                case atStart => exact ⟨Drew.same _, 0, by omega, by simp⟩
                case round =>
                  obtain ⟨⟨nd, rfl⟩, q, hq, rfl⟩ := hrel
                  by_cases hqi : q < i
                  · obtain ⟨a2, rfl, hg⟩ := str_at R2.out.src hqi
                    obtain ⟨a1, rfl, _, hl⟩ := arg_at (HA.out.below (K2.out.all_below (fun _ h => h.elim))) (show q < len by omega)
                    have hsame := take_getD L i q hqi
                    rw [hsame] at hg
                    clear hsame
                    generalize L.getD q ByteArray.empty = x at *
                    have hxx : (x.toList == x.toList) = true := by simp
                    go_wp2_with fail
                    go_quiet (fail)
                    go_wp2_with fail
                    go_roundw
                    case rel => exact ⟨(Drew.same _).more _, q + 1, by omega, by go_num⟩
                    case measure => simp [intOf]; omega
                  · go_wp2_with fail
                    refine (awake_calls _).mono ?_
                    rintro e w5 ⟨rfl, hk5⟩
                    have K5 := Lib.hid hk5
                    clear hk5
                    go_wp2_with fail
                    go_ret
                    exact ⟨rfl, (K2.out.drewN _).then K5.out⟩
open Go.ChangeShapes Go.WideShapes Go.ChangeAt in
theorem back_law : R.Law 5 Try.f5 R.any := by
  intro H enc W base args ds p hval hA hsz _ hlt
  rw [Try.params5] at hA hval
  obtain ⟨v0, vs0, d0, ds0, p0, q0, hargs, rfl, rfl, h0, r0⟩ := trodAll_cons hA
  obtain ⟨v1, vs1, d1, ds1, p1, q1, rfl, rfl, rfl, h1, r1⟩ := trodAll_cons r0
  obtain ⟨rfl, rfl, rfl⟩ := trodAll_nil r1
  obtain rfl : args = #[v0, v1] := by cases args; simp_all
  obtain ⟨o, rfl⟩ := okWide_int Try.underlying3 (hval 1 3 v1 rfl rfl)
  obtain ⟨A, len, cap, rfl, hc1, hc2, hel, hd⟩ := R.open_cells Try.underlying34 cells9 (hval 0 34 v0 rfl rfl) h0 (fun x hx => hlt x (List.mem_append_left _ hx)) (by omega)
  obtain ⟨L, hl, hp⟩ := R.exists_list (p := fun i (x : ByteArray) => ∃ ad, A = some ad ∧ ad.block < W.heap.size ∧ ∀ j u, (strC x)[j]? = some u → W.cell? (ad.add (i * 1 + j)) = some u) len (fun i hi => by
    obtain ⟨ad, cs, n, y, rfl, hB, hcl, hat, ht, _⟩ := hel i hi
    obtain ⟨c, rfl⟩ : ∃ c, cs = [c] := by
      match cs, hcl with
      | [c], _ => exact ⟨c, rfl⟩
    obtain ⟨s, e0, _, _⟩ := DataW.trod_string Try.underlying9 ht
    injection e0 with e0 _
    subst e0
    exact ⟨s, ad, rfl, hB, fun j u hu => (hat j (by have := (List.getElem?_eq_some_iff.1 hu).1; simpa [strC] using this)).trans hu⟩)
  exact (back_calls W A len cap L o ⟨hl, hp⟩ hc1 hc2).mono fun e w' h => ⟨h.1, h.2.below (Nat.le_refl _) (fun _ h => h.elim)⟩
end Go.Proofs.Ytdemmlckalhinaa.A
