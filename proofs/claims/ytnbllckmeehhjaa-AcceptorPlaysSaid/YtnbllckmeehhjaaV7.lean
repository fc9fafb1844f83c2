/-
  The reference's At, From, promise; rows of records and of entries, compared.
-/
import Derived.Test.YtnbllckmeehhjaaV6
namespace Go.Proofs.Ytnbllckmeehhjaa.U
open Go.RowKit
set_option linter.unusedVariables false
set_option linter.unusedSimpArgs false
theorem equalR (w : World) (d : Nat) (x y : A.Rc) : (Op.equalIn (d + 4) 62 (.agg x.cs) (.agg y.cs)).run Try.prog w = .ok (decide (x.k = y.k ∧ x.n = y.n) && eqE x.e y.e) w := by
  have hu54 := Try.underlying62
  have hu3 := Try.underlying3
  have hf : Try.prog.underlying 62 = some (.struct (Try.prog.fieldsOf 62)) := by kernel_rfl
  have hh : Try.prog.stoodInHeld 62 = false := by kernel_rfl
  unfold A.Rc.cs
  rw [run_equalIn_agg w (d + 3) 62 _ _ hf hh]
  have hfl : (Try.prog.fieldsOf 62).toList = (match Try.prog.underlying 62 with | some (.struct fs) => fs.toList | _ => []) := by kernel_rfl
  rw [hfl, hu54]
  have p0 : ∀ (a b c d e f g h i : Value) (W : World), (part 3 #[a, b, c, d, e, f, g, h, i] 0).run Try.prog W = .ok a W := fun a b c d e f g h i W => by rfl
  have p1 : ∀ (a b c d e f g h i : Value) (W : World), (part 3 #[a, b, c, d, e, f, g, h, i] 1).run Try.prog W = .ok b W := fun a b c d e f g h i W => by rfl
  have p2 : ∀ (a b c d e f g h i : Value) (W : World), (part 37 #[a, b, c, d, e, f, g, h, i] 2).run Try.prog W = .ok (.agg #[c, d, e, f, g, h, i]) W := fun a b c d e f g h i W => by rfl
  have q3 := fun x y => run_equalIn_int (P := Try.prog) w (d + 2) 3 .i64 .i64 x y hu3
  have q52 := equalE w d x.e y.e
  unfold Ent.cs at q52
  simp [Op.eqFields, p0, p1, p2, q3, q52, Result.andThen]
  generalize eqE x.e y.e = r at *
  by_cases h0 : x.k = y.k <;> by_cases h1 : x.n = y.n <;> simp [h0, h1, p0, p1, p2, q3, q52, Result.andThen]
  cases r <;> rfl
theorem neqR (w : World) (x : A.Rc) : (binOp .neq 62 (.agg x.cs) (.agg x.cs)).run Try.prog w = .ok (.bool false) w := by
  rw [run_neq_struct, show (10000 : Nat) = 9996 + 4 from rfl, equalR, eqE_same]; simp
end Go.Proofs.Ytnbllckmeehhjaa.U
namespace Go.Proofs.Ytnbllckmeehhjaa.A
open Go.RowKit Go.Proofs.Ytnbllckmeehhjaa.U
set_option linter.unusedVariables false
set_option linter.unusedSimpArgs false
set_option maxRecDepth 100000

set_option maxHeartbeats 6400000 in
theorem entries37 (w : World) (L : List Ent) (A A' : Option Addr) (c c' : Nat) (h : U.Src w A 7 L.length (ents L)) (h' : U.Src w A' 7 L.length (ents L)) (hL : L.length ≤ 1000000) :
    Calls Try.prog 37 #[.slice A L.length c, .slice A' L.length c'] w (fun e w' => e = .returned (.bool true) ∧ Keep Nothing w w') := by
  have hu37 := Try.underlying37
  have S1 := Lib.hid h
  have S2 := Lib.hid h'
  have K := Lib.hid (Keep.same Nothing w)
  clear h h'
  go_enter Try.func37, Try.ntmps37
  go_wp2_with fail
  go_loopw [5] (fun v wr => Drew w wr ∧ ∃ k : Nat, k ≤ L.length ∧ v = .int .i64 k) (fun v _ => L.length - (intOf v).toNat)
  case atStart => exact ⟨Drew.same _, 0, by omega, by simp⟩
  case round =>
    obtain ⟨⟨nd, rfl⟩, k, hk, rfl⟩ := hrel
    by_cases hlt : k < L.length
    · obtain ⟨ad, y, rfl, hy, c0, c1, c2, c3, c4, c5, c6⟩ := ent_at S1.out hlt
      obtain ⟨ad', y', rfl, hy', c0', c1', c2', c3', c4', c5', c6'⟩ := ent_at S2.out hlt
      rw [hy] at hy'
      injection hy' with hy'
      subst hy'
      have hq := fun w => neqE w y y
      simp only [eqE_same, Bool.not_true] at hq
      unfold Ent.cs at hq
      clear hy
      go_wp2_with fail
      go_quiet (fail)
      go_wp2_with fail
      go_roundw
      case rel => exact ⟨(Drew.same _).more _, k + 1, by omega, by go_num⟩
      case measure => simp [intOf]; omega
    · go_wp2_with fail
      go_ret
      exact ⟨rfl, K.out.drewN _⟩
set_option maxHeartbeats 6400000 in
theorem recs25 (w : World) (L : List Rc) (A A' : Option Addr) (c c' : Nat) (h : U.Src w A 9 L.length (recs L)) (h' : U.Src w A' 9 L.length (recs L)) (hL : L.length ≤ 1000000) :
    Calls Try.prog 25 #[.slice A L.length c, .slice A' L.length c'] w (fun e w' => e = .returned (.bool true) ∧ Keep Nothing w w') := by
  have hu62 := Try.underlying62
  have S1 := Lib.hid h
  have S2 := Lib.hid h'
  have K := Lib.hid (Keep.same Nothing w)
  clear h h'
  go_enter Try.func25, Try.ntmps25
  go_wp2_with fail
  go_loopw [5] (fun v wr => Drew w wr ∧ ∃ k : Nat, k ≤ L.length ∧ v = .int .i64 k) (fun v _ => L.length - (intOf v).toNat)
  case atStart => exact ⟨Drew.same _, 0, by omega, by simp⟩
  case round =>
    obtain ⟨⟨nd, rfl⟩, k, hk, rfl⟩ := hrel
    by_cases hlt : k < L.length
    · obtain ⟨ad, y, rfl, hy, c0, c1, c2, c3, c4, c5, c6, c7, c8⟩ := rec_at S1.out hlt
      obtain ⟨ad', y', rfl, hy', c0', c1', c2', c3', c4', c5', c6', c7', c8'⟩ := rec_at S2.out hlt
      rw [hy] at hy'
      injection hy' with hy'
      subst hy'
      have hq := fun w => neqR w y
      unfold Rc.cs at hq
      clear hy
      go_wp2_with fail
      go_quiet (fail)
      go_wp2_with fail
      go_roundw
      case rel => exact ⟨(Drew.same _).more _, k + 1, by omega, by go_num⟩
      case measure => simp [intOf]; omega
    · go_wp2_with fail
      go_ret
      exact ⟨rfl, K.out.drewN _⟩
section
variable {B : Nat} {w0 w : World} {Q : SP} {b : Nat} {D : DS}
set_option maxHeartbeats 6400000 in
theorem x_at36 (h : Holds B w0 w (star (dP 74 b D) Q)) (hL : D.es.length ≤ 1000000) (s : Int) : Calls Try.prog 36 #[.pointer (some ⟨b, 0, none⟩), .int .i64 s] w (AtPost D.es s w) := by
  have hu := Try.underlying74
  have hu2 := Try.underlying24
  have hu3 := Try.underlying37
  obtain ⟨A, c, _, _, _, d3, _, hrow, _⟩ := d_cells h
  have K0 := (Keep.same Nothing w).alloc (.cells zes 37)
  have e3 := K0.cell d3 (fun h => h)
  have K1 := Lib.hid K0
  have S1 := Lib.hid (src_keptE hrow.src K0)
  clear h d3 hrow K0
  go_enter Try.func36, Try.ntmps36
  go_wp2_with fail
  go_loopw [6] (fun v wr => wr = w.alloc (.cells zes 37) ∧ ∃ k : Nat, k ≤ D.es.length ∧ v = .int .i64 k ∧ Hid (∀ (j : Nat) (x : Ent), j < k → D.es[j]? = some x → isSlot s x = false)) (fun v _ => D.es.length - (intOf v).toNat)
  case atStart => exact ⟨rfl, 0, by omega, by simp, Lib.hid (fun j x hj _ => by omega)⟩
  case round =>
    obtain ⟨rfl, k, hk, rfl, hno⟩ := hrel
    by_cases hlt : k < D.es.length
    · obtain ⟨ad, y, rfl, hy, c0, c1, c2, c3, c4, c5, c6⟩ := ent_at S1.out hlt
      have HY := Lib.hid hy
      clear hy
      by_cases hs : y.a = s
      · have g1 : (y.a == s) = true := by rw [beq_iff_eq]; exact hs
        have E := Lib.hid (findV_some HY.out (by unfold isSlot; exact g1) hno.out)
        clear hs
        go_wp2_with fail
        refine bodyPost_ret (v := .tuple #[y.val, .bool true]) (by simp [results, Try.results36, go_sem, hu3]) rfl ?_
        unfold AtPost
        rw [E.out]
        exact ⟨rfl, (Keep.same Nothing w).alloc _⟩
      · have g1 : (y.a == s) = false := by rw [beq_eq_false_iff_ne]; exact hs
        have NO := Lib.hid (show ∀ (j : Nat) (x : Ent), j < k + 1 → D.es[j]? = some x → isSlot s x = false from fun j x hj hx => by
          by_cases hjk : j < k
          · exact hno.out j x hjk hx
          · obtain rfl : j = k := by omega
            rw [HY.out] at hx
            injection hx with hx
            subst hx
            exact g1)
        clear hs
        go_wp2_with fail
        go_roundw
        case rel => exact ⟨trivial, k + 1, by omega, by go_num, NO⟩
        case measure => simp [intOf]; omega
    · have E := Lib.hid (findV_none (L := D.es) (s := s) (fun j x hx => hno.out j x (by have := (List.getElem?_eq_some_iff.1 hx).1; omega) hx))
      obtain rfl : k = D.es.length := by omega
      go_wp2_with fail
      refine bodyPost_ret (v := .tuple #[.agg zes, .bool false]) (by simp [results, Try.results36, go_sem, hu3]) rfl ?_
      unfold AtPost
      rw [E.out]
      exact ⟨rfl, (Keep.same Nothing w).alloc _⟩
theorem from_take {L : List Ent} {k : Nat} {y : Ent} (h : L[k]? = some y) (s : Int) : from_ (L.take (k + 1)) s = from_ (L.take k) s ++ if s ≤ y.a then [y] else [] := by
  rw [List.take_add_one, h]
  unfold from_
  rw [List.filter_append]
  congr 1
  simp only [Option.toList_some, List.filter_cons, List.filter_nil, decide_eq_true_eq]
theorem from_len (L : List Ent) (s : Int) : (from_ L s).length ≤ L.length := List.length_filter_le _ _
set_option maxHeartbeats 6400000 in
theorem x_from38 (h : Holds B w0 w (star (dP 74 b D) Q)) (hL : D.es.length ≤ 1000000) (s : Int) : Calls Try.prog 38 #[.pointer (some ⟨b, 0, none⟩), .int .i64 s] w (FreshEnts (from_ D.es s) w) := by
  have hu := Try.underlying74
  have hu2 := Try.underlying24
  have hu3 := Try.underlying37
  obtain ⟨A, c, _, _, _, d3, _, hrow, _⟩ := d_cells h
  have S0 := Lib.hid hrow.src
  have D3 := Lib.hid d3
  have hb : ∀ w', Below w.heap.size w w' → Keep Nothing w w' := fun w' h => Keep.of_below h _
  have hmax : maxLen = 9223372036854775807 := by rfl
  have H0 := Lib.hid (Holds.newRow (e := 37) (size := 7) (v := .slice none 0 0) (n := 0) (xs := []) (Holds.start w) none_stable (Row.nil _ 37 7) (Keep.same _ _) (fun k hk => by simp [Value.ownBlock] at hk))
  clear h d3 hrow
  go_enter Try.func38, Try.ntmps38
  go_wp2_with fail
  go_loopw [5, 6] (fun v5 v wr => ∃ (k : Nat) (L5 : List Ent) (A5 : Option Addr) (c5 : Nat), k ≤ D.es.length ∧ v = .int .i64 k ∧ v5 = .slice A5 L5.length c5 ∧ Hid (from_ (D.es.take k) s = L5) ∧ L5.length ≤ k ∧ Holds w.heap.size w wr (star (rowP 37 7 (.slice A5 L5.length c5) L5.length (ents L5)) none_)) (fun _ v _ => D.es.length - (intOf v).toNat)
  case atStart => exact ⟨0, [], none, 0, by omega, by simp, rfl, Lib.hid (by rw [List.take_zero]; rfl), by simp, H0.out⟩
  case round =>
    obtain ⟨k, L5, A5, c5, hk, rfl, rfl, hfr, hl5, hh⟩ := hrel
    have H := Lib.hid hh
    have e3 := (hb _ hh.below).cell D3.out (fun h => h)
    clear hh
    by_cases hlt : k < D.es.length
    · obtain ⟨ad, y, rfl, hy, c0, c1, c2, c3, c4, c5', c6⟩ := ent_at (src_keptE S0.out (hb _ H.out.below)) hlt
      have FT := Lib.hid (from_take hy s)
      clear hy
      by_cases hs : s ≤ y.a
      · obtain ⟨L6, hL6⟩ : ∃ L6, L5 ++ [y] = L6 := ⟨_, rfl⟩
        have FN := Lib.hid (show from_ (D.es.take (k + 1)) s = L6 by rw [FT.out, if_pos hs, hfr.out, hL6])
        have hl6 : L5.length + 1 = L6.length := by rw [← hL6]; simp
        have EL := Lib.hid (show ents L5 ++ y.cl = ents L6 by rw [← hL6, ents_app, ents_one1])
        have R4 := Lib.hid (H.out.row.alloc (.cells y.cs 37))
        have hs' : decide (s ≤ y.a) = true := decide_eq_true hs
        have hb1 : L5.length + 1 ≤ maxLen := by omega
        have hb2 : (L5.length + 1) * 64 ≤ 140737488355328 := by omega
        clear hL6 hs
        go_wp2_with (at_builtin; refine wpList_app _ rfl EE (.tmp 28) (.tmp 37) rfl R4.out (Src.fresh _ y.cs 37 7 1 rfl) 1 rfl (by simp [Act.eval, Act.put]) (by simp [Value.oneCell']) hb1 hb2 ?_)
        intro v5 w5 hr hg hloc
        have H5 := (H.out.alloc (by repeat (first | exact none_stable | exact dP_stable _ _ _ | exact blkP_stable _ _ _ | exact rowP_stable _ _ _ _ _ | apply Stable.star)) (.cells y.cs 37)).grew (by repeat (first | exact none_stable | exact dP_stable _ _ _ | exact blkP_stable _ _ _ | exact rowP_stable _ _ _ _ _ | apply Stable.star)) hr hg (by simpa using hloc)
        rw [show ents L5 ++ y.cs.toList = ents L6 from EL.out] at H5
        have hr2 := H5.row
        obtain ⟨A6, c6', rfl, _, _⟩ := hr2.form
        have H6 := Lib.hid H5
        clear hr hg hloc H5 hr2
        go_wp2_with fail
        go_roundw
        case rel => exact ⟨k + 1, L6, A6, c6', by omega, by go_num, rfl, FN, by omega, H6.out⟩
        case measure => simp [intOf]; omega
      · have hs' : decide (s ≤ y.a) = false := decide_eq_false hs
        have FN := Lib.hid (show from_ (D.es.take (k + 1)) s = L5 by rw [FT.out, if_neg hs, hfr.out, List.append_nil])
        clear hs
        go_wp2_with fail
        go_roundw
        case rel => exact ⟨k + 1, L5, A5, c5, by omega, by go_num, rfl, FN, by omega, H.out⟩
        case measure => simp [intOf]; omega
    · obtain rfl : k = D.es.length := by omega
      have E := Lib.hid (show L5 = from_ D.es s by rw [← hfr.out, List.take_length])
      go_wp2_with fail
      go_ret
      rw [← E.out]
      exact ⟨A5, c5, rfl, H.out.row, hb _ H.out.below, own_le H.out⟩
/-- What promise gives in the reference. -/
def recQ (D : DS) (x : Int) : List Rc := if x = D.pr then [] else [⟨1, x, zeroE⟩]
set_option maxHeartbeats 6400000 in
theorem x_promise39 (h : Holds B w0 w (star (dP 74 b D) Q)) (hQ : Stable Q) (x : Int) : Calls Try.prog 39 #[.pointer (some ⟨b, 0, none⟩), .int .i64 x] w (fun e w' => ∃ A c, e = .returned (.slice A (recQ D x).length c) ∧
    Holds B w0 w' (star (rowP 62 9 (.slice A (recQ D x).length c) (recQ D x).length (recs (recQ D x))) (star (dP 74 b ⟨x, D.ba, D.sn, D.es⟩) Q))) := by
  have hu := Try.underlying74
  have hu2 := Try.underlying24
  obtain ⟨A, c, d0, _, _, _, fr, _, _⟩ := d_cells h
  have f0 := fr 0
  have H := Lib.hid h
  have SQ := Lib.hid hQ
  have SD := Lib.hid (dP_stable 74 b)
  clear h hQ fr
  unfold recQ
  by_cases hx : x = D.pr
  · have g1 : (x == D.pr) = true := by rw [beq_iff_eq]; exact hx
    have HX := Lib.hid hx
    clear hx
    go_enter Try.func39, Try.ntmps39
    go_wp2_with fail
    go_ret
    exact ⟨none, 0, rfl, Holds.newRow H.out ((SD.out D).star SQ.out) (Row.nil _ 62 9) (Keep.same _ _) (fun k hk => by simp [Value.ownBlock] at hk)⟩
  · have g1 : (x == D.pr) = false := by rw [beq_eq_false_iff_ne]; exact hx
    rw [if_neg hx]
    have HS := Lib.hid (d_setpr H.out SQ.out (by decide) x)
    have RF := Lib.hid (Row.fresh (w.setCell ⟨b, 0, none⟩ (.int .i64 x)) 62 9 1 (⟨1, x, zeroE⟩ : Rc).cs rfl (by decide))
    clear hx
    go_enter Try.func39, Try.ntmps39
    go_wp2_with fail
    go_ret
    exact ⟨some ⟨(w.setCell ⟨b, 0, none⟩ (.int .i64 x)).heap.size, 0, none⟩, 1, by simp, Holds.newRow HS.out ((SD.out _).star SQ.out) (by rw [recs_one1]; exact RF.out) ((Keep.same _ _).alloc _) (fun k hk => Nat.le_of_eq (Option.some.inj hk))⟩
end
end Go.Proofs.Ytnbllckmeehhjaa.A
