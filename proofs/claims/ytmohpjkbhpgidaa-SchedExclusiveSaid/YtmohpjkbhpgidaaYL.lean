/-
  The scheduler: Run, whole. Printed by gen_vm.py.
-/
import Derived.Test.YtmohpjkbhpgidaaYK
namespace Go.Proofs.Ytmohpjkbhpgidaa.A
open Go.RowKit Go.Proofs.Ytmohpjkbhpgidaa.U
set_option linter.unusedVariables false
set_option linter.unusedSimpArgs false
set_option maxRecDepth 100000
set_option maxHeartbeats 800000

theorem wrap64_in {x : Int} (h0 : -9223372036854775808 ≤ x) (h1 : x < 9223372036854775808) : wrap64 x = x := by unfold wrap64; omega
def RunPost (R : List Ev × PS) (w : World) (e : Ending) (w' : World) : Prop :=
  ∃ A c, e = .returned (.tuple #[.slice A R.1.length c, .bool (pickT Tk.open_ R.2.T R.2.T.length).isEmpty]) ∧ Row w' 103 3 (.slice A R.1.length c) R.1.length (evsV R.1) ∧ Keep Nothing w w'
theorem run_end {w w' : World} {A : Option Addr} {c b bm : Nat} {S : PS} {l : List Ev} {R : List Ev × PS} (h : Holds w.heap.size w w' (star (rowP 103 3 (.slice A l.length c) l.length (evsV l)) (star (schE b bm S) none_))) (hr : (l, S) = R) :
    RunPost R w (.returned (.tuple #[.slice A l.length c, .bool (pickT Tk.open_ S.T S.T.length).isEmpty])) w' := by
  subst hr
  exact ⟨A, c, rfl, h.row, Keep.of_below h.below _⟩
theorem run_calls (w : World) (A Ap : Option Addr) (c np cp : Nat) (TS : List (List Op3)) (picks : List Int) (h : ArgOps w A TS) (hl : TS.length ≤ 1000000) (hp : U.Src w Ap 1 np (ints picks)) (hg : GoodS (newS TS) 0) :
    Calls Try.prog 55 #[.slice A TS.length c, .slice Ap np cp] w (RunPost (runX picks 10000 0 (newS TS) []) w) := by
  have hu := Try.underlying103
  have HN := Lib.hid (e_new w A c TS h hl)
  have HP := Lib.hid hp
  have HG := Lib.hid hg
  have hpl : picks.length = np := by have := hp.1; rw [ints, List.length_map] at this; omega
  clear h hl hp hg
  go_enter Try.func55, Try.ntmps55
  go_wp2_with fail
  refine HN.out.mono ?_
  rintro e w1 ⟨b, bm, rfl, hh⟩
  have H1 := Lib.hid (hh.newRow (schE_stable.star none_stable) (Row.nil _ 103 3) (Keep.same _ _) (fun k hk => by simp [Value.ownBlock] at hk))
  clear hh
  go_wp2_with fail
  go_loopw [7, 15] (fun vo vn wr => ∃ (k : Nat) (S : PS) (l : List Ev) (A2 : Option Addr) (c2 : Nat), k ≤ 10000 ∧ vn = .int .i64 k ∧ vo = .slice A2 l.length c2 ∧ l.length = k ∧ GoodS S k ∧ runX picks (10000 - k) k S l = runX picks 10000 0 (newS TS) [] ∧ Holds w.heap.size w wr (star (rowP 103 3 (.slice A2 l.length c2) l.length (evsV l)) (star (schE b bm S) none_))) (fun vo vn _ => 10000 - (intOf vn).toNat)
  case atStart => exact ⟨0, newS TS, [], none, 0, by omega, by simp, by simp, rfl, HG.out, rfl, H1.out⟩
  case round =>
    obtain ⟨k, S, l, A2, c2, hk, rfl, rfl, hlk, hgS, hrun, hh⟩ := hrel
    have HH := Lib.hid hh
    have GS := Lib.hid hgS
    have RN := Lib.hid hrun
    have LK := Lib.hid hlk
    have hlb : l.length ≤ 10000 := by omega
    have hE : Holds w.heap.size w wr (star (schE b bm S) (star (rowP 103 3 (.slice A2 l.length c2) l.length (evsV l)) none_)) := hh.perm (by ac_rfl)
    have HE := Lib.hid hE
    have RD := Lib.hid (fun w' (hk' : Keep Nothing wr w') => e_ready (hE.kept (schE_stable.star ((rowP_stable _ _ _ _ _).star none_stable)) hk') hgS.len)
    clear hh hgS hrun hlk hE
    by_cases hlt : k < 10000
    · go_wp2_with fail
      refine (RD.out _ (by repeat (first | with_reducible (exact Keep.same _ _) | with_reducible (apply Keep.drew) | with_reducible (apply Keep.alloc)))).mono ?_
      generalize hPL : pickT Tk.ready S.T S.T.length = L
      rintro e w2 ⟨A3, c3, rfl, hr3, hk3, hf3⟩
      have R3 := Lib.hid hr3
      have hkk := (Keep.then (by repeat (first | with_reducible (exact Keep.same _ _) | with_reducible (apply Keep.drew) | with_reducible (apply Keep.alloc)) : Keep Nothing wr _) hk3)
      have H3 := Lib.hid (HE.out.kept (schE_stable.star ((rowP_stable _ _ _ _ _).star none_stable)) hkk)
      have H2 := Lib.hid (HH.out.kept ((rowP_stable _ _ _ _ _).star (schE_stable.star none_stable)) hkk)
      have hLl : L.length ≤ 1000000 := by have := pickT_len Tk.ready S.T S.T.length; have := GS.out.len; rw [← hPL]; omega
      have PL := Lib.hid hPL
      clear hk3 hr3 hf3 hkk HH hPL
      rcases Nat.eq_zero_or_pos L.length with h0 | h0
      · have HH := H2
        have RX := Lib.hid (show (l, S) = runX picks 10000 0 (newS TS) [] by
          rw [← RN.out, show 10000 - k = (10000 - (k + 1)) + 1 by omega]
          show _ = (match roundX picks k S with | none => (l, S) | some (e, S') => runX picks (10000 - (k + 1)) (k + 1) S' (l ++ [e]))
          rw [round_none (by rw [PL.out]; exact h0)])
        have ED := Lib.hid (fun w' (hk' : Keep Nothing w2 w') => e_ended (H3.out.kept (schE_stable.star ((rowP_stable _ _ _ _ _).star none_stable)) hk') GS.out.len)
        have hz : ((L.length : Int) == 0) = true := by rw [beq_iff_eq]; omega
        go_wp2_with fail
        refine (ED.out _ (by repeat (first | with_reducible (exact Keep.same _ _) | with_reducible (apply Keep.drew) | with_reducible (apply Keep.alloc)))).mono ?_
        rintro e w5 ⟨rfl, hk5⟩
        have H5 := Lib.hid (HH.out.kept ((rowP_stable _ _ _ _ _).star (schE_stable.star none_stable)) (Keep.then (by repeat (first | with_reducible (exact Keep.same _ _) | with_reducible (apply Keep.drew) | with_reducible (apply Keep.alloc)) : Keep Nothing _ _) hk5))
        clear hk5
        go_wp2_with fail
        refine bodyPost_ret (v := .tuple #[.slice A2 l.length c2, .bool (pickT Tk.open_ S.T S.T.length).isEmpty]) (by simp [results, Try.results55, go_sem]) rfl ?_
        exact run_end H5.out RX.out
      · have hz : ((L.length : Int) == 0) = false := by rw [beq_eq_false_iff_ne]; omega
        by_cases hkn : k < np
        · obtain ⟨pk, hpk⟩ : ∃ pk, picks[k]? = some pk := ⟨_, List.getElem?_eq_getElem (by rw [hpl]; exact hkn)⟩
          obtain ⟨i, t, x, hq0, hq1, hLq, ht, hrd, hx, hrx⟩ := round_some (picks := picks) (n := k) (S := S) rfl (by rw [PL.out]; exact h0)
          rw [PL.out] at hq0 hq1 hLq
          have hpi : pickI picks k L.length = (pk.tmod (L.length : Int) + L.length).tmod L.length := by unfold pickI; rw [hpk]
          obtain ⟨q, hq⟩ : ∃ q : Nat, pickI picks k L.length = (q : Int) := ⟨_, (Int.toNat_of_nonneg hq0).symm⟩
          rw [hq] at hq1 hLq hpi
          simp only [Int.toNat_natCast] at hq1 hLq
          have hw : wrap64 (pk.tmod (L.length : Int) + L.length) = pk.tmod (L.length : Int) + L.length := by
            have h1 := Int.lt_tmod_of_pos pk (show (0 : Int) < L.length by omega)
            have h2 := Int.tmod_lt_of_pos pk (show (0 : Int) < L.length by omega)
            exact wrap64_in (by omega) (by omega)
          have hw2 : (wrap64 (pk.tmod (L.length : Int) + L.length)).tmod (L.length : Int) = (q : Int) := by rw [hw, hpi]
          obtain ⟨adp, rfl, hcp⟩ := HP.out.2 (by omega)
          have KB := Lib.hid (Keep.of_below H3.out.below Nothing)
          have cp := KB.out.cell (hcp k (.int .i64 pk) (by unfold ints; rw [List.getElem?_map, hpk]; rfl)) (fun h => h)
          clear hcp hq0 hpk hpi hw hq
          obtain ⟨adl, rfl, hcl⟩ := R3.out.src.2 (by omega)
          have cl := hcl q (.int .i64 (i : Int)) (by unfold ints; rw [List.getElem?_map, hLq]; rfl)
          clear hcl
          skip
          have ST := Lib.hid (fun w' (hk' : Keep Nothing w2 w') => e_step (H3.out.kept (schE_stable.star ((rowP_stable _ _ _ _ _).star none_stable)) hk') ((rowP_stable _ _ _ _ _).star none_stable) GS.out (by omega) i t ht hrd x hx)
          have GS' := Lib.hid (GS.out.step (x := x) ht hrd)
          have RX' := Lib.hid hrx
          clear ht hrd hx hrx hLq
          go_wp2_with fail
          refine (ST.out _ (by repeat (first | with_reducible (exact Keep.same _ _) | with_reducible (apply Keep.drew) | with_reducible (apply Keep.alloc)))).mono ?_
          rintro e w4 ⟨rfl, hh4⟩
          generalize hS' : (stepX S i t x).2 = S' at *
          generalize her : (stepX S i t x).1 = er at *
          have h4 : Holds w.heap.size w w4 (star (rowP 103 3 (.slice A2 l.length c2) l.length (evsV l)) (star (schE b bm S') none_)) := hh4.perm (by ac_rfl)
          have R4 := Lib.hid (h4.row)
          have B4 := Blk.fresh w4 103 #[.int .i64 (i : Int), .int .i64 (t.at_ : Int), .int .i64 er]
          have f0 := B4.cell 0
          have f1 := B4.cell 1
          have f2 := B4.cell 2
          have H4 := Lib.hid ((h4.alloc ((rowP_stable _ _ _ _ _).star (schE_stable.star none_stable)) (.cells #[.int .i64 (i : Int), .int .i64 (t.at_ : Int), .int .i64 er] 103)).alloc ((rowP_stable _ _ _ _ _).star (schE_stable.star none_stable)) (.cells #[.int .i64 (i : Int), .int .i64 (t.at_ : Int), .int .i64 er] 103))
          have SRC := Lib.hid (U.Src.fresh (w4.alloc (.cells #[.int .i64 (i : Int), .int .i64 (t.at_ : Int), .int .i64 er] 103)) #[.int .i64 (i : Int), .int .i64 (t.at_ : Int), .int .i64 er] 103 3 1 rfl)
          rw [size_alloc] at SRC
          have hml : l.length + 1 ≤ maxLen := by unfold maxLen; omega
          clear hS' her hh4 h4 B4
          go_wp2_with (at_builtin; refine wpList_app _ rfl EV (.tmp 49) (.tmp 51) rfl ((R4.out.alloc _).alloc _) SRC.out 1 rfl rfl (by simp [Value.oneCell']) hml (by omega) ?_)
          intro v5 w5 hr5 hg5 hl5
          obtain ⟨A5, c5, rfl, _, _⟩ := hr5.form
          have H5 := Lib.hid (H4.out.grew (schE_stable.star none_stable) hr5 hg5 (by rw [size_alloc, size_alloc]; exact hl5))
          clear hr5 hg5 hl5
          go_wp2_with fail
          go_roundw
          case rel =>
            refine ⟨k + 1, S', l ++ [⟨i, t.at_, er⟩], A5, c5, by omega, by go_num, by simp, by simp [LK.out], GS'.out, ?_, ?_⟩
            · rw [← RN.out, show 10000 - k = (10000 - (k + 1)) + 1 by omega]
              show _ = (match roundX picks k S with | none => (l, S) | some (e, S') => runX picks (10000 - (k + 1)) (k + 1) S' (l ++ [e]))
              rw [RX'.out]
            · have := H5.out
              rw [evsV_app, List.length_append]
              exact this
          case measure => simp [intOf]; omega
        · obtain ⟨i, t, x, hq0, hq1, hLq, ht, hrd, hx, hrx⟩ := round_some (picks := picks) (n := k) (S := S) rfl (by rw [PL.out]; exact h0)
          rw [PL.out] at hq0 hq1 hLq
          obtain ⟨q, hqz, hq⟩ : ∃ q : Nat, q = 0 ∧ pickI picks k L.length = (q : Int) := ⟨0, rfl, by unfold pickI; rw [List.getElem?_eq_none (by omega)]; rfl⟩
          rw [hq] at hq1 hLq
          simp only [Int.toNat_natCast] at hq1 hLq
          subst hqz
          clear hq0 hq
          obtain ⟨adl, rfl, hcl⟩ := R3.out.src.2 (by omega)
          have cl := hcl 0 (.int .i64 (i : Int)) (by unfold ints; rw [List.getElem?_map, hLq]; rfl)
          clear hcl
          rw [show adl.add 0 = adl from rfl] at cl
          have ST := Lib.hid (fun w' (hk' : Keep Nothing w2 w') => e_step (H3.out.kept (schE_stable.star ((rowP_stable _ _ _ _ _).star none_stable)) hk') ((rowP_stable _ _ _ _ _).star none_stable) GS.out (by omega) i t ht hrd x hx)
          have GS' := Lib.hid (GS.out.step (x := x) ht hrd)
          have RX' := Lib.hid hrx
          clear ht hrd hx hrx hLq
          go_wp2_with fail
          refine (ST.out _ (by repeat (first | with_reducible (exact Keep.same _ _) | with_reducible (apply Keep.drew) | with_reducible (apply Keep.alloc)))).mono ?_
          rintro e w4 ⟨rfl, hh4⟩
          generalize hS' : (stepX S i t x).2 = S' at *
          generalize her : (stepX S i t x).1 = er at *
          have h4 : Holds w.heap.size w w4 (star (rowP 103 3 (.slice A2 l.length c2) l.length (evsV l)) (star (schE b bm S') none_)) := hh4.perm (by ac_rfl)
          have R4 := Lib.hid (h4.row)
          have B4 := Blk.fresh w4 103 #[.int .i64 (i : Int), .int .i64 (t.at_ : Int), .int .i64 er]
          have f0 := B4.cell 0
          have f1 := B4.cell 1
          have f2 := B4.cell 2
          have H4 := Lib.hid ((h4.alloc ((rowP_stable _ _ _ _ _).star (schE_stable.star none_stable)) (.cells #[.int .i64 (i : Int), .int .i64 (t.at_ : Int), .int .i64 er] 103)).alloc ((rowP_stable _ _ _ _ _).star (schE_stable.star none_stable)) (.cells #[.int .i64 (i : Int), .int .i64 (t.at_ : Int), .int .i64 er] 103))
          have SRC := Lib.hid (U.Src.fresh (w4.alloc (.cells #[.int .i64 (i : Int), .int .i64 (t.at_ : Int), .int .i64 er] 103)) #[.int .i64 (i : Int), .int .i64 (t.at_ : Int), .int .i64 er] 103 3 1 rfl)
          rw [size_alloc] at SRC
          have hml : l.length + 1 ≤ maxLen := by unfold maxLen; omega
          clear hS' her hh4 h4 B4
          go_wp2_with (at_builtin; refine wpList_app _ rfl EV (.tmp 49) (.tmp 51) rfl ((R4.out.alloc _).alloc _) SRC.out 1 rfl rfl (by simp [Value.oneCell']) hml (by omega) ?_)
          intro v5 w5 hr5 hg5 hl5
          obtain ⟨A5, c5, rfl, _, _⟩ := hr5.form
          have H5 := Lib.hid (H4.out.grew (schE_stable.star none_stable) hr5 hg5 (by rw [size_alloc, size_alloc]; exact hl5))
          clear hr5 hg5 hl5
          go_wp2_with fail
          go_roundw
          case rel =>
            refine ⟨k + 1, S', l ++ [⟨i, t.at_, er⟩], A5, c5, by omega, by go_num, by simp, by simp [LK.out], GS'.out, ?_, ?_⟩
            · rw [← RN.out, show 10000 - k = (10000 - (k + 1)) + 1 by omega]
              show _ = (match roundX picks k S with | none => (l, S) | some (e, S') => runX picks (10000 - (k + 1)) (k + 1) S' (l ++ [e]))
              rw [RX'.out]
            · have := H5.out
              rw [evsV_app, List.length_append]
              exact this
          case measure => simp [intOf]; omega
    · obtain rfl : k = 10000 := by omega
      have RX := Lib.hid (show (l, S) = runX picks 10000 0 (newS TS) [] by rw [← RN.out]; rfl)
      have ED := Lib.hid (fun w' (hk' : Keep Nothing wr w') => e_ended (HE.out.kept (schE_stable.star ((rowP_stable _ _ _ _ _).star none_stable)) hk') GS.out.len)
      go_wp2_with fail
      refine (ED.out _ (by repeat (first | with_reducible (exact Keep.same _ _) | with_reducible (apply Keep.drew) | with_reducible (apply Keep.alloc)))).mono ?_
      rintro e w5 ⟨rfl, hk5⟩
      have H5 := Lib.hid (HH.out.kept ((rowP_stable _ _ _ _ _).star (schE_stable.star none_stable)) (Keep.then (by repeat (first | with_reducible (exact Keep.same _ _) | with_reducible (apply Keep.drew) | with_reducible (apply Keep.alloc)) : Keep Nothing _ _) hk5))
      clear hk5
      go_wp2_with fail
      refine bodyPost_ret (v := .tuple #[.slice A2 l.length c2, .bool (pickT Tk.open_ S.T S.T.length).isEmpty]) (by simp [results, Try.results55, go_sem]) rfl ?_
      exact run_end H5.out RX.out
end Go.Proofs.Ytmohpjkbhpgidaa.A
