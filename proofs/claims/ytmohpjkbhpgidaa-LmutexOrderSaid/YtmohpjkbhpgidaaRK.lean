/-
  LmutexOrder.
-/
import Derived.Test.YtmohpjkbhpgidaaRJ
import Derived.Test.YtmohpjkbhpgidaaL
namespace Go.Proofs.Ytmohpjkbhpgidaa.A
open Go.RowKit Go.Proofs.Ytmohpjkbhpgidaa.U
set_option linter.unusedVariables false
set_option linter.unusedSimpArgs false
set_option maxRecDepth 100000

def asked (h : Bool) (who : Int) (L : List Wt) : List Int := if h then who :: tasks L else []
theorem order_lock {h : Bool} {who : Int} {L : List Wt} (g : MGood h who L) (x : Int) :
    (∃ r1 h' who' L', mLock h who L x = (r1, 0, h', who', L') ∧ asked h' who' L' = asked h who L ++ [x]) ∨ (mLock h who L x = (false, 12, h, who, L) ∧ 0 ≤ x ∧ decide (x ∈ asked h who L) = true) ∨ (mLock h who L x = (false, 1, h, who, L) ∧ x < 0) := by
  obtain ⟨g1, g2, g3⟩ := g
  unfold mLock asked
  by_cases hx : x < 0
  · rw [if_pos hx]; exact .inr (.inr ⟨rfl, hx⟩)
  · rw [if_neg hx, hasW_tasks]
    cases h with
    | false =>
      obtain rfl := g2 rfl
      left
      exact ⟨true, true, x, [], by simp [tasks], by simp [tasks]⟩
    | true =>
      cases h1 : (who == x) || decide (x ∈ tasks L) with
      | true =>
        right; left
        refine ⟨by simp only [Bool.true_and, h1]; rfl, by omega, ?_⟩
        simp only [Bool.or_eq_true, beq_iff_eq, decide_eq_true_eq] at h1
        simp only [if_true, decide_eq_true_eq, List.mem_cons]
        rcases h1 with h | h
        · exact .inl h.symm
        · exact .inr h
      | false =>
        left
        exact ⟨false, true, who, L ++ [⟨x, false, true⟩], by simp only [Bool.true_and, h1]; rfl, by simp [tasks]⟩
theorem order_unlock {h : Bool} {who y : Int} {L : List Wt} {s : List Int} (hs : asked h who L = y :: s) :
    ∃ h' who' L', mUnlock h who L y = (s.headD (-1), 0, h', who', L') ∧ asked h' who' L' = s := by
  cases h with
  | false => simp [asked] at hs
  | true =>
    simp only [asked, if_true, List.cons.injEq] at hs
    obtain ⟨rfl, rfl⟩ := hs
    cases L with
    | nil => exact ⟨false, who, [], by simp [mUnlock, tasks], rfl⟩
    | cons z l => exact ⟨true, z.t, l, by simp [mUnlock, tasks], rfl⟩
theorem asked_len (h : Bool) (who : Int) (L : List Wt) (g : MGood h who L) : L.length ≤ (asked h who L).length := by
  cases h with
  | false => rw [g.2.1 rfl]; simp
  | true => simp [asked, tasks]
theorem drop_cons {S : List Int} {i : Nat} {y : Int} (h : S[i]? = some y) : S.drop i = y :: S.drop (i + 1) := by
  have hi := (List.getElem?_eq_some_iff.1 h)
  obtain ⟨hi, e⟩ := hi
  rw [List.drop_eq_getElem_cons hi, e]
theorem drop_head {S : List Int} {i : Nat} {z : Int} (h : S[i]? = some z) : (S.drop i).headD (-1) = z := by rw [drop_cons h]; rfl
theorem drop_none {S : List Int} {i : Nat} (h : S.length ≤ i) : (S.drop i).headD (-1) = -1 := by rw [List.drop_eq_nil_of_le h]; rfl
set_option maxHeartbeats 6400000 in
theorem morder_calls (w : World) (A : Option Addr) (len cap : Nat) (l : List {n : Int // I64 n}) (hA : R.Args w w.heap.size A len 1 intC l) (hlen : len ≤ cap) (hcap : cap ≤ maxLen) :
    Calls Try.prog 4 #[.slice A len cap] w (fun e w' => e = .returned (.bool true) ∧ Keep Nothing w w') := by
  have HA := Lib.hid hA
  have hb : ∀ w', Below w.heap.size w w' → Keep Nothing w w' := fun w' h => Keep.of_below h _
  have H0 := Lib.hid (Holds.start w)
  have SM := Lib.hid mP_stable
  have SR := Lib.hid rowP_stable
  have hmax : maxLen = 9223372036854775807 := by rfl
  clear hA
  go_enter Try.func4, Try.ntmps4
  go_wp2_with fail
  refine (mnew_calls _).mono ?_
  rintro e w1 ⟨rfl, hw1⟩
  have H1 := Lib.hid (show Holds w.heap.size w w1 (star (mP w.heap.size false 0 []) none_) by rw [hw1]; exact Holds.newM H0.out none_stable)
  clear hw1
  have H2 := Lib.hid (show Holds w.heap.size w w1 (star (mP w.heap.size false 0 []) (rowP 3 1 (.slice none 0 0) 0 (ints []))) from
    ((Holds.newRow (w' := w1) H1.out ((SM.out _ _ _ _).star none_stable) (Row.nil w1 3 1) (Keep.same _ _) (fun k hk => by simp [Value.ownBlock] at hk)).swap |> Holds.assoc |> fun h => h.turn.drop.swap))
  go_wp2_with fail
  generalize hg1 : w.heap.size = b1 at *
  clear hg1
  go_loopw [4, 5] (fun v4 v5 wr => ∃ (k : Nat) (h : Bool) (who : Int) (L : List Wt) (A4 : Option Addr) (c4 : Nat) (S : List Int), k ≤ 200 ∧ v5 = .int .i64 k ∧ S.length ≤ k ∧ v4 = .slice A4 S.length c4 ∧ MGood h who L ∧ asked h who L = S ∧ Holds b1 w wr (star (mP b1 h who L) (rowP 3 1 (.slice A4 S.length c4) S.length (ints S)))) (fun _ v5 _ => 200 - (intOf v5).toNat)
  case atStart => exact ⟨0, false, 0, [], none, 0, [], by omega, by simp, by simp, by simp, mgood_new, rfl, H2.out⟩
  case round =>
    obtain ⟨k, h, who, L, A4, c4, S, hk, rfl, hS, rfl, hgd, hask, hh⟩ := hrel
    have H := Lib.hid hh
    have GD := Lib.hid hgd
    have AS := Lib.hid hask
    have hLL := asked_len h who L hgd
    rw [hask] at hLL
    clear hh hgd hask
    by_cases hin : k < len ∧ k < 200
    · obtain ⟨hkl, hk3⟩ := hin
      obtain ⟨ad, x, rfl, hat⟩ := int_all HA.out hkl
      have CC := Lib.hid hat
      have c0 := CC.out _ H.out.below
      clear hat
      have hx := x_mlock H.out (SR.out _ _ _ _ _) (by omega) x
      have hgl := (lock_both GD.out x).2
      rcases order_lock GD.out x with ⟨r1, h', who', L', hE, ha⟩ | ⟨hE, hx0, hmem⟩ | ⟨hE, hx0⟩
      · rw [hE] at hx hgl
        dsimp only at hx hgl
        have HX := Lib.hid hx
        have GD' := Lib.hid hgl
        have AS' := Lib.hid (show asked h' who' L' = S ++ [x] by rw [ha, AS.out])
        clear hx hgl hE ha
        go_wp2_with fail
        refine HX.out.mono ?_
        rintro e w3 ⟨rfl, h3⟩
        have H3 := Lib.hid h3
        clear h3 c0
        have c0 := CC.out _ H3.out.below
        have RG := Lib.hid H3.out.swap.row
        have SRC := Lib.hid (U.Src.one w3 (.int .i64 x) 3)
        go_wp2_with (at_builtin; refine wpList_app _ rfl E26 (.tmp 36) (.tmp 41) rfl (RG.out.alloc _) SRC.out 1 rfl rfl (by simp [Value.oneCell']) (by unfold maxLen; omega) (by omega) ?_)
        intro v4 w4 hr4 hg4 hl4
        obtain ⟨A5, c5, rfl, _, _⟩ := hr4.form
        have H4 := Lib.hid (show Holds b1 w w4 (star (mP b1 h' who' L') (rowP 3 1 (.slice A5 (S.length + 1) c5) (S ++ [x]).length (ints (S ++ [x])))) from
          (Holds.grew (H3.out.swap.alloc ((SR.out _ _ _ _ _).star (SM.out _ _ _ _)) (.cells #[.int .i64 x] 3)) (SM.out _ _ _ _) (by rw [ints_app, List.length_append]; exact hr4) hg4 (by
            rcases hl4 with h | h
            · exact .inl h
            · exact .inr (by rw [h]; simp))).swap)
        clear hr4 hg4 hl4
        go_wp2_with fail
        go_roundw
        case rel => exact ⟨k + 1, h', who', L', A5, c5, S ++ [x], by omega, by go_num, by simp; omega, by simp, GD'.out, AS'.out, by simpa using H4.out⟩
        case measure => simp [intOf]; omega
      · rw [hE] at hx
        dsimp only at hx
        have HX := Lib.hid hx
        clear hx hgl hE
        rw [AS.out] at hmem
        have HM := Lib.hid hmem
        clear hmem
        go_wp2_with fail
        refine HX.out.mono ?_
        rintro e w3 ⟨rfl, h3⟩
        have H3 := Lib.hid h3
        clear h3 c0
        have c0 := CC.out _ H3.out.below
        have HH := Lib.hid (show Calls Try.prog 31 #[.slice A4 S.length c4, .int .i64 x] w3 (fun e w' => e = .returned (.bool true) ∧ w' = w3) by
          have := has_calls w3 A4 S.length c4 S x H3.out.swap.row.src (by omega)
          rwa [HM.out] at this)
        go_wp2_with fail
        refine HH.out.mono ?_
        rintro e w4 ⟨rfl, rfl⟩
        go_wp2_with fail
        go_roundw
        case rel => exact ⟨k + 1, h, who, L, A4, c4, S, by omega, by go_num, by omega, by simp, GD.out, AS.out, H3.out⟩
        case measure => simp [intOf]; omega
      · rw [hE] at hx
        dsimp only at hx
        have HX := Lib.hid hx
        clear hx hgl hE
        have g0 : decide (0 ≤ x) = false := decide_eq_false (by omega)
        go_wp2_with fail
        refine HX.out.mono ?_
        rintro e w3 ⟨rfl, h3⟩
        have H3 := Lib.hid h3
        clear h3 c0
        have c0 := CC.out _ H3.out.below
        go_wp2_with fail
        go_roundw
        case rel => exact ⟨k + 1, h, who, L, A4, c4, S, by omega, by go_num, by omega, by simp, GD.out, AS.out, H3.out⟩
        case measure => simp [intOf]; omega
    · rcases (show ¬ k < len ∨ (k < len ∧ ¬ k < 200) by omega) with hex | ⟨hex1, hex2⟩
      all_goals
        go_wp2_with fail
        go_loopw [8] (fun v8 wr2 => ∃ (i : Nat) (h : Bool) (who : Int) (L : List Wt), i ≤ S.length ∧ v8 = .int .i64 i ∧ MGood h who L ∧ asked h who L = S.drop i ∧ Holds b1 w wr2 (star (mP b1 h who L) (rowP 3 1 (.slice A4 S.length c4) S.length (ints S)))) (fun v8 _ => S.length - (intOf v8).toNat)
        case atStart => exact ⟨0, h, who, L, by omega, by simp, GD.out, by rw [AS.out]; rfl, H.out⟩
        case round =>
          clear GD AS H hLL
          obtain ⟨i, h, who, L, hi, rfl, hgd, hask, hh⟩ := hrel
          have H := Lib.hid hh
          have GD := Lib.hid hgd
          have AS := Lib.hid hask
          have hLL := asked_len h who L hgd
          rw [hask, List.length_drop] at hLL
          clear hh hgd hask
          by_cases hil : i < S.length
          · obtain ⟨ad, y, rfl, hy, hc⟩ := i_at H.out.swap.row.src hil
            have HR := Lib.hid (fun (w' : World) (L' : List Wt) (h' : Bool) (who' : Int) (hh : Holds b1 w w' (star (mP b1 h' who' L') (rowP 3 1 (.slice (some ad) S.length c4) S.length (ints S)))) => i_at (k := i + 1) hh.swap.row.src)
            obtain ⟨h', who', L', hE, ha⟩ := order_unlock (AS.out.trans (drop_cons hy))
            have hx := x_munlock H.out (SR.out _ _ _ _ _) (by omega) y
            have hgl := (unlock_both GD.out y).2
            rw [hE] at hx hgl
            dsimp only at hx hgl
            have GD' := Lib.hid hgl
            have AS' := Lib.hid ha
            have HX := Lib.hid hx
            clear hx hgl hE ha hy
            by_cases hil2 : i + 1 < S.length
            · go_wp2_with fail
              refine HX.out.mono ?_
              rintro e w3 ⟨rfl, h3⟩
              obtain ⟨ad', z, hadd, hz, hc'⟩ := HR.out _ _ _ _ h3 hil2
              injection hadd with hadd
              subst hadd
              have hc2 : w3.cell? ⟨ad.block, ad.off + (i + 1), none⟩ = some (.int .i64 z) := by simpa [Addr.add] using hc'
              clear hc'
              have hz' := drop_head hz
              rw [hz']
              have H3 := Lib.hid h3
              clear h3 hc hz hz'
              go_wp2_with fail
              go_roundw
              case rel => exact ⟨i + 1, h', who', L', by omega, by go_num, GD'.out, AS'.out, H3.out⟩
              case measure => simp [intOf]; omega
            · rw [drop_none (show S.length ≤ i + 1 by omega)] at HX
              go_wp2_with fail
              refine HX.out.mono ?_
              rintro e w3 ⟨rfl, h3⟩
              have H3 := Lib.hid h3
              clear h3 hc
              go_wp2_with fail
              go_roundw
              case rel => exact ⟨i + 1, h', who', L', by omega, by go_num, GD'.out, AS'.out, H3.out⟩
              case measure => simp [intOf]; omega
          · have hfin : h = false := by
              have := AS.out
              rw [List.drop_eq_nil_of_le (by omega)] at this
              cases h with
              | false => rfl
              | true => simp [asked] at this
            subst hfin
            have HH := Lib.hid (x_holder H.out)
            go_wp2_with fail
            refine HH.out.mono ?_
            rintro e w3 ⟨rfl, rfl⟩
            go_wp2_with fail
            refine (awake8 _).mono ?_
            rintro e w9 ⟨rfl, hk9⟩
            have K9 := Lib.hid hk9
            clear hk9
            go_wp2_with fail
            go_ret
            exact ⟨rfl, (hb _ H.out.below).then K9.out⟩
open Go.ChangeShapes Go.WideShapes Go.ChangeAt in
theorem morder_law : R.Law 4 Try.f4 R.any := by
  intro H enc W base args ds p hval hA hsz _ hlt
  rw [Try.params4] at hA hval
  obtain ⟨v0, vs0, d0, ds0, p0, q0, hargs, rfl, rfl, h0, r0⟩ := trodAll_cons hA
  obtain ⟨rfl, rfl, rfl⟩ := trodAll_nil r0
  obtain rfl : args = #[v0] := by cases args; simp_all
  obtain ⟨A, len, cap, l, rfl, h1, h2, hl⟩ := open_ints (hval 0 26 v0 rfl rfl) h0 (fun x hx => hlt x (List.mem_append_left _ hx))
  exact (morder_calls W A len cap l hl h1 h2).mono fun e w' h => ⟨h.1, h.2.below (Nat.le_refl _) (fun _ h => h.elim)⟩
end Go.Proofs.Ytmohpjkbhpgidaa.A
