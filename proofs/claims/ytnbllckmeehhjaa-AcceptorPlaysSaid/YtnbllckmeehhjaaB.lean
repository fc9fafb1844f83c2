/-
  slices.DeleteFunc on a row of entries.
-/
import Derived.Test.YtnbllckmeehhjaaA
namespace Go.Proofs.Ytnbllckmeehhjaa.A
open Go.RowKit Go.Proofs.Ytnbllckmeehhjaa.U
set_option linter.unusedVariables false
set_option linter.unusedSimpArgs false
set_option maxRecDepth 100000

def over (s : Int) (x : Ent) : Bool := decide (s < x.a)
abbrev keepO (L : List Ent) (s : Int) : List Ent := L.filter (over s)
theorem keepO_above (L : List Ent) (s : Int) : keepO L s = above L s := rfl
theorem not_over (s : Int) (x : Ent) : (!over s x) = decide (x.a ≤ s) := by
  unfold over
  by_cases h : s < x.a
  · rw [decide_eq_true h, decide_eq_false (by omega)]; rfl
  · rw [decide_eq_false h, decide_eq_true (by omega)]; rfl
theorem is41o (w : World) (x : Ent) (p : Nat) (s : Int) (hp : w.cell? ⟨p, 0, none⟩ = some (.int .i64 s)) : Calls Try.prog 41 #[x.val, .pointer (some ⟨p, 0, none⟩)] w (fun e w' => e = .returned (.bool (!over s x)) ∧ Keep Nothing w w') := by
  rw [not_over]; exact is41 w x p s hp
theorem first_over {L : List Ent} {s i : Int} (h : FirstP L (fun x => decide (x.a ≤ s)) i) : (i = -1 ∧ ∀ (j : Nat) (x : Ent), L[j]? = some x → over s x = true) ∨ ∃ (k : Nat) (x : Ent), i = k ∧ L[k]? = some x ∧ over s x = false ∧ ∀ (j : Nat) (y : Ent), j < k → L[j]? = some y → over s y = true := by
  have f : ∀ x : Ent, decide (x.a ≤ s) = false → over s x = true := fun x hx => by rw [← not_over] at hx; simpa using hx
  rcases h with ⟨rfl, h⟩ | ⟨k, x, rfl, hx, h1, h2⟩
  · exact .inl ⟨rfl, fun j x hx => f x (h j x hx)⟩
  · exact .inr ⟨k, x, rfl, hx, by dsimp only at h1; rw [← not_over] at h1; simpa using h1, fun j y hj hy => f y (h2 j y hj hy)⟩
theorem filter_all {L : List Ent} {s : Int} (h : ∀ (j : Nat) (x : Ent), L[j]? = some x → over s x = true) : keepO L s = L := by
  unfold keepO
  rw [List.filter_eq_self]
  intro x hx
  obtain ⟨i, hi, e⟩ := List.mem_iff_getElem.1 hx
  exact h i x (by rw [List.getElem?_eq_getElem hi, e])
/-- clear behind the first i entries of one's own row. -/
theorem row_clear {w : World} {ad : Addr} {n c i : Nat} {M : List Ent} (h : Row w 37 7 (.slice (some ad) n c) n (ents M)) (hi : i < n) :
    ∃ w', (∀ ty, (Builtin.clear_ #[22] ty #[.slice (some (ad.add (i * 7))) (n - i) (c - i)]).run Try.prog w = .ok (.tuple #[]) w') ∧ Row w' 37 7 (.slice (some ad) i c) i (ents (M.take i)) ∧ Keep (fun k => k = ad.block) w w' := by
  have hl := row_len h
  rcases h.2 with ⟨h0, _⟩ | ⟨g, o, cap, cur, hv, hb, h1, h2, h3, h4⟩
  · cases h0
  · injection hv with e1 _ e3
    injection e1 with e1
    subst e1 e3
    have hzl : (Builtin.zeroCells zeroE.val.cells (n - i)).toList.length = (n - i) * 7 := by simp [size_zeroCells, EE.zero]
    refine ⟨_, fun ty => by rw [addAt]; exact run_clear w EE ty (n := n - i) hb (by omega) (by omega) (by intro u hu; simp [zeroE, zeroC, Value.cells] at hu; rcases hu with rfl | rfl | rfl <;> rfl), ?_, (Keep.same (fun k => k = g) w).setRow (g := g) (.inl rfl) _⟩
    have hcl : cur.toList.length = cur.size := by simp
    refine ⟨by rw [ents_len, List.length_take]; omega, .inr ⟨g, o, c, _, rfl, hb.setRow _, by omega, h2, ?_, ?_⟩⟩
    · simp only [List.size_toArray, List.length_append, List.length_take, List.length_drop, hcl, hzl]
      omega
    · rw [← ents_take, ← h4]
      have e1 : cur.toList.take (o + i * 7) = cur.toList.take o ++ (cur.toList.drop o).take (i * 7) := List.take_add ..
      have l0 : (cur.toList.take o).length = o := by rw [List.length_take]; omega
      have d0 : ∀ Y : List Value, (cur.toList.take o ++ Y).drop o = Y := fun Y => by
        have := List.drop_left (l₁ := cur.toList.take o) (l₂ := Y)
        rwa [l0] at this
      have l1 : ((cur.toList.drop o).take (i * 7)).length = i * 7 := by rw [List.length_take, List.length_drop]; omega
      show List.take (i * 7) (List.drop o (_ ++ _ ++ _)) = _
      rw [e1, List.append_assoc, List.append_assoc, d0, List.take_append, l1, List.take_of_length_le (by rw [l1]; omega), Nat.sub_self, List.take_zero, List.append_nil, List.take_take, Nat.min_eq_left (by omega)]
theorem drop_at {L M : List Ent} {j : Nat} (h : M.drop j = L.drop j) : M[j]? = L[j]? := by
  have := congrArg (fun l => l[0]?) h
  simpa [List.getElem?_drop] using this
theorem keepO_next {L : List Ent} {s : Int} {j : Nat} {x : Ent} (hx : L[j]? = some x) : keepO (L.take (j + 1)) s = keepO (L.take j) s ++ (if over s x then [x] else []) := by
  obtain ⟨hj, he⟩ := List.getElem?_eq_some_iff.1 hx
  unfold keepO
  rw [List.take_succ_eq_append_getElem hj, he, List.filter_append]
  cases h : over s x <;> simp [h]
theorem keepO_len (L : List Ent) (s : Int) (j : Nat) (hj : j ≤ L.length) : (keepO (L.take j) s).length ≤ j := by
  unfold keepO
  refine Nat.le_trans (List.length_filter_le _ _) ?_
  rw [List.length_take]
  omega
theorem set_take {M : List Ent} {i j : Nat} {x : Ent} {R : List Ent} (hij : i < j) (hj : j ≤ M.length) (h : M.take i = R) : (M.set i x).take (i + 1) = R ++ [x] := by
  have hi : i < (M.set i x).length := by rw [List.length_set]; omega
  rw [List.take_succ_eq_append_getElem hi, List.getElem_set_self, List.take_set_of_le (Nat.le_refl _), h]
theorem set_drop {M : List Ent} {i j : Nat} {x : Ent} (hij : i < j) : (M.set i x).drop j = M.drop j := by
  rw [List.drop_set, if_pos hij]
set_option maxHeartbeats 12800000 in
theorem del_func (w : World) (A : Option Addr) (n c : Nat) (L : List Ent) (h : Row w 37 7 (.slice A n c) n (ents L)) (p : Nat) (s : Int) (hp : w.cell? ⟨p, 0, none⟩ = some (.int .i64 s)) (hpn : (Value.slice A n c).ownBlock ≠ some p) :
    Calls Try.prog 40 #[.slice A n c, .func (.func 41) #[] #[.pointer (some ⟨p, 0, none⟩)]] w (fun e w' => ∃ m, e = .returned (.slice A m c) ∧ m = (keepO L s).length ∧ Row w' 37 7 (.slice A m c) m (ents (keepO L s)) ∧ Keep (fun k => (Value.slice A n c).ownBlock = some k) w w') := by
  have hu := Try.underlying37
  have hlen := h.len
  unfold maxLen at hlen
  have HR := Lib.hid h
  have HL := Lib.hid (row_len h)
  have HP := Lib.hid hp
  have HX := Lib.hid (ix_41 w A n c L h.src hlen p _ (tells41 hp))
  have PN := Lib.hid hpn
  obtain ⟨A', c', e1, hnc, hcm⟩ := h.form
  injection e1 with eA en ec
  subst eA ec
  clear en
  clear h hp hpn
  go_enter Try.func40, Try.ntmps40
  go_wp2_with fail
  refine HX.out.mono ?_
  rintro e w1 ⟨i0, rfl, hi, hk⟩
  have K1 := Lib.hid hk
  clear hk
  rcases first_over hi with ⟨rfl, hall⟩ | ⟨k, x0, rfl, hx0, hx1, hx2⟩
  · have E := Lib.hid (filter_all hall)
    have R1 := Lib.hid (HR.out.keep K1.out (fun _ _ h => h))
    clear hall
    go_wp2_with fail
    go_ret
    exact ⟨n, rfl, by rw [E.out]; exact HL.out.symm, by rw [E.out]; exact R1.out, K1.out.wider (fun i h => h.elim)⟩
  · have hkl : k < n := by have := (List.getElem?_eq_some_iff.1 hx0).1; have := HL.out; omega
    obtain ⟨ad, _, rfl, _, _⟩ := ent_at HR.out.src hkl
    have Q0 := Lib.hid (show keepO (L.take (k + 1)) s = L.take k by
      rw [keepO_next hx0, hx1]
      simp only [Bool.false_eq_true, if_false, List.append_nil]
      refine filter_all fun j y hy => ?_
      have hj := (List.getElem?_eq_some_iff.1 hy).1
      rw [List.length_take] at hj
      rw [List.getElem?_take, if_pos (by omega)] at hy
      exact hx2 j y (by omega) hy)
    have R1 := Lib.hid (HR.out.keep K1.out (fun _ _ h => h))
    have w1' : IntKind.i64.wrap ((k : Int) + 1) = ((k + 1 : Nat) : Int) := by rw [IntKind.wrap_i64]; omega
    clear hx0 hx1 hx2
    have gk : ((k : Int) == -1) = false := by rw [beq_eq_false_iff_ne]; omega
    go_wp2_with fail
    go_loopw [5, 6] (fun vi vj wr => ∃ (i j : Nat) (M : List Ent), i < j ∧ j ≤ n ∧ vi = .int .i64 i ∧ vj = .int .i64 j ∧ M.take i = keepO (L.take j) s ∧ M.drop j = L.drop j ∧ Row wr 37 7 (.slice (some ad) n c) n (ents M) ∧ Keep (fun k => (Value.slice (some ad) n c).ownBlock = some k) w wr) (fun vi vj _ => n - (intOf vj).toNat)
    case atStart => exact ⟨k, k + 1, L, by omega, by omega, by simp, by simp, Q0.out.symm, rfl, R1.out, K1.out.wider (fun i h => h.elim)⟩
    case round =>
      obtain ⟨i, j, M, hij, hjn, rfl, rfl, hM1, hM2, hr, hk⟩ := hrel
      have M1 := Lib.hid hM1
      have M2 := Lib.hid hM2
      have RW := Lib.hid hr
      have KW := Lib.hid hk
      have ML := Lib.hid (row_len hr)
      clear hM1 hM2 hr hk
      by_cases hlt : j < n
      · obtain ⟨ad', x, hade, hx, he⟩ := ent_at RW.out.src hlt
        injection hade with hade
        subst hade
        obtain ⟨c0, c1, c2, c3, c4, c5, c6⟩ := he
        have XL := Lib.hid (show L[j]? = some x by rw [← drop_at M2.out]; exact hx)
        have KA := Lib.hid (KW.out.alloc (.cells x.cs 37))
        have RA := Lib.hid (RW.out.alloc (.cells x.cs 37))
        have HI := Lib.hid (is41o (wr.alloc (.cells x.cs 37)) x p s (KA.out.cell HP.out PN.out))
        have DA := Lib.hid (Blk.fresh wr 37 x.cs)
        have NB := Lib.hid (show ∀ g, (Value.slice (some ad) n c).ownBlock = some g → g ≠ wr.heap.size from fun g hg e => by have := RW.out.lt g hg; omega)
        clear hx
        cases hi : over s x with
        | true =>
          rw [hi] at HI
          have HF := Lib.hid hi
          clear hi
          go_wp2_with fail
          refine HI.out.mono ?_
          rintro e w2 ⟨rfl, hk2⟩
          have K2 := Lib.hid (KA.out.then (hk2.wider (fun i h => h.elim)))
          have D2 := DA.out.keep hk2 (fun h => h)
          have e0 := D2.cell 0
          have e1 := D2.cell 1
          have e2 := D2.cell 2
          have e3 := D2.cell 3
          have e4 := D2.cell 4
          have e5 := D2.cell 5
          have e6 := D2.cell 6
          obtain ⟨hpo, hown, hrp, hkp⟩ := row_putE (RA.out.keep hk2 (fun _ _ h => h)) (k := i) (by omega) x
          have RP := Lib.hid hrp
          have OW := Lib.hid hown
          have KP := Lib.hid hkp
          unfold PutOk at hpo
          obtain ⟨⟨u0, a0⟩, f0, ⟨u1, a1⟩, f1, ⟨u2, a2⟩, f2, ⟨u3, a3⟩, f3, ⟨u4, a4⟩, f4, ⟨u5, a5⟩, f5, ⟨u6, a6⟩, f6⟩ := hpo
          unfold putE at RP KP
          clear hk2 D2 c0 c1 c2 c3 c4 c5 c6 hown hrp hkp
          go_wp2_with fail
          go_roundw
          case rel =>
            have hj1 : j ≤ M.length := by have := ML.out; omega
            exact ⟨i + 1, j + 1, M.set i x, by omega, by omega, by go_num, by go_num, by rw [keepO_next XL.out, HF.out]; exact set_take hij hj1 M1.out, by
              rw [set_drop (by omega)]
              have := congrArg (List.drop 1) M2.out
              simpa [List.drop_drop] using this, RP.out, K2.out.then (KP.out.wider (fun g hg => .inl (by rw [hg]; exact OW.out)))⟩
          case measure => simp [intOf]; omega
        | false =>
          rw [hi] at HI
          have HF := Lib.hid hi
          clear hi
          go_wp2_with fail
          refine HI.out.mono ?_
          rintro e w2 ⟨rfl, hk2⟩
          have K2 := Lib.hid (KA.out.then (hk2.wider (fun i h => h.elim)))
          have R2 := Lib.hid (RA.out.keep hk2 (fun _ _ h => h))
          clear hk2 c0 c1 c2 c3 c4 c5 c6
          go_wp2_with fail
          go_roundw
          case rel => exact ⟨i, j + 1, M, by omega, by omega, by simp, by go_num, by rw [keepO_next XL.out, HF.out]; simpa using M1.out, by
            have := congrArg (List.drop 1) M2.out
            simpa [List.drop_drop] using this, R2.out, K2.out⟩
          case measure => simp [intOf]; omega
      · obtain rfl : j = n := by omega
        have hic : ¬ c = i := by omega
        have hs1 : ∀ w, (Instr.slice 22 (.slice (some ad) j c) (some (.int .i64 (i : Int))) none none).run Try.prog w = .ok (.slice (some (ad.add (i * 7))) (j - i) (c - i)) w := fun w => by
          rw [run_from w EE (some ad) j c i (i : Int) rfl (by omega), if_neg hic]; rfl
        have hs2 : ∀ w, (Instr.slice 22 (.slice (some ad) j c) none (some (.int .i64 (i : Int))) none).run Try.prog w = .ok (.slice (some ad) i c) w := fun w =>
          run_upto w EE (some ad) j c i (i : Int) rfl (by omega)
        obtain ⟨wc, hcl, hrc, hkc⟩ := row_clear RW.out hij
        have RC := Lib.hid hrc
        have KC := Lib.hid hkc
        have E := Lib.hid (show M.take i = keepO L s by rw [M1.out, List.take_of_length_le (by have := HL.out; omega)])
        have HI := Lib.hid (show i = (keepO L s).length by rw [← E.out, List.length_take]; have := ML.out; omega)
        clear hrc hkc hic
        go_wp2_with fail
        go_ret
        exact ⟨i, rfl, HI.out, by rw [← E.out]; exact RC.out, KW.out.then (KC.out.wider (fun g hg => .inl (by
          rcases RW.out.2 with ⟨h0, _⟩ | ⟨g', o, _, _, hv, _⟩
          · cases h0
          · injection hv with e1
            injection e1 with e1
            subst e1
            rw [hg]; rfl)))⟩
end Go.Proofs.Ytnbllckmeehhjaa.A
