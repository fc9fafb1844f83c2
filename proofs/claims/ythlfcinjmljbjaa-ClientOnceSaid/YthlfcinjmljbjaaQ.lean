/-
  append of a text's bytes on a slice that is one's own.
-/
import Derived.Test.YthlfcinjmljbjaaS
import Derived.Lib.AppendStr
namespace Go.Proofs.Ythlfcinjmljbjaa.U
open Go.RowKit Go.Lib
set_option linter.unusedVariables false

section
variable {P : Program} (w : World)
theorem run_app_str {t e : TypeId} {bytes : Nat} {z : Value} (E : Elem P t e 1 bytes z) (u ty : TypeId) (hu : P.underlying u = some .string)
    (v : Value) (n : Nat) (xs : List Value) (hrow : Row w e 1 v n xs) (s : ByteArray)
    (h63 : n + s.size ≤ maxLen) (hbytes : (n + s.size) * bytes ≤ 140737488355328) :
    ∃ v' w', (Builtin.append_ #[t, u] ty #[v, .string s]).run P w = .ok v' w' ∧ Row w' e 1 v' (n + s.size) (xs ++ strCells s) ∧ w.grownBy w' v.ownBlock ∧ (v'.ownBlock = v.ownBlock ∨ v'.ownBlock = some w.heap.size) := by
  obtain ⟨i, hi, hz, hsize, hby⟩ := info_parts E.info
  have ht := E.slice
  have hzs := E.zero
  subst hby
  have hnl := strCells_length s
  have hsmall : n + s.size ≤ 9223372036854775807 := by simp only [maxLen] at h63; omega
  have hlen : (xs ++ strCells s).length = (n + s.size) * 1 := by rw [List.length_append, hrow.1, hnl, Nat.add_mul]; omega
  have grown : ∀ (old : Nat), old < n + s.size → ∀ (row : Option Nat),
      Row (w.drew.alloc (.cells (xs.toArray ++ (strCells s).toArray ++ Builtin.zeroCells z.cells (grownCap w (n + s.size) old e - (n + s.size))) e)) e 1
        (.slice (some ⟨w.heap.size, 0, none⟩) (n + s.size) (grownCap w (n + s.size) old e)) (n + s.size) (xs ++ strCells s) ∧
      w.grownBy (w.drew.alloc (.cells (xs.toArray ++ (strCells s).toArray ++ Builtin.zeroCells z.cells (grownCap w (n + s.size) old e - (n + s.size))) e)) row := by
    intro old ho row
    have hge := grownCap_ge w (n + s.size) old e
    have hcm : grownCap w (n + s.size) old e ≤ maxLen := grownCap_le_maxLen w (n + s.size) old e h63
    have hx1 := hrow.1
    refine ⟨⟨hlen, .inr ⟨w.heap.size, 0, _, _, rfl, heap_alloc_new w.drew _, hge, hcm, ?_, ?_⟩⟩, ⟨rfl, rfl, rfl, by simp, fun k hk _ => Below.heap_alloc w.drew _ k hk⟩⟩
    · simp only [Array.size_append, List.size_toArray, size_zeroCells, hzs, hx1, hnl]
      omega
    · simp only [Array.toList_append, List.append_assoc, List.drop_zero]
      rw [← List.append_assoc, ← hlen]
      exact List.take_left
  by_cases hm0 : s.size = 0
  · have hn : strCells s = [] := List.eq_nil_of_length_eq_zero (by omega)
    have he : s = ByteArray.empty := ByteArray.ext (Array.eq_empty_of_size_eq_zero hm0)
    subst he
    obtain ⟨A', c', rfl, hc1, hc2⟩ := hrow.form
    refine ⟨_, w, ?_, by simpa [hn] using hrow, World.grownBy.refl w _, .inl rfl⟩
    have hz0 : ByteArray.empty.size = 0 := rfl
    have hf := run_firstCells_string (P := P) w i.size ByteArray.empty
    rw [hn] at hf
    cases A' <;> simp [Builtin.append_, run_underlying ht, run_underlying hu, sizeOf, typeInfo, hi, Builtin.lenOf, hz0, hc1, storeCells, Builtin.firstCells]
  · rcases hrow.2 with ⟨rfl, rfl⟩ | ⟨g, o, cap, cur, rfl, hb, hnc, hcm, hcs, htake⟩
    · have hx : xs = [] := List.eq_nil_of_length_eq_zero (by simpa using hrow.1)
      subst hx
      have hr := run_append_nil_string (P := P) w t u ty e i z ht hu hi hz s (by omega) (by omega) (by have hb := hbytes; simp only [Nat.zero_add] at hb; omega)
      have hgr := grown 0 (by omega) (Value.ownBlock (.slice none 0 0))
      have ec : (s.data.map (fun b => Value.int .u8 b.toNat)) = (strCells s).toArray := by
        apply Array.ext'
        simp [strCells]
      rw [ec] at hr
      simp only [Nat.zero_add, List.nil_append, Array.empty_append] at hgr ⊢
      exact ⟨_, _, hr, hgr.1, hgr.2, .inr rfl⟩
    · by_cases hroom : n + s.size ≤ cap
      · have hfit : o + n * 1 + 0 + (strCells s).length ≤ cur.size := by rw [hnl]; omega
        have hf := run_firstCells_string (P := P) w 1 s
        have hst := run_storeCells_at P g (o + n * 1) e (strCells s) 0 cur w hb hfit (strCells_oneCell s)
        simp only [Nat.add_zero] at hst
        have hr : (Builtin.append_ #[t, u] ty #[.slice (some ⟨g, o, none⟩) n cap, .string s]).run P w =
            .ok (.slice (some ⟨g, o, none⟩) (n + s.size) cap) (w.setRow g (cur.toList.take (o + n * 1) ++ strCells s ++ cur.toList.drop (o + n * 1 + (strCells s).length)).toArray) := by
          rw [Nat.mul_one] at hst ⊢
          simp [Builtin.append_, run_underlying ht, run_underlying hu, sizeOf, typeInfo, hi, hsize, Builtin.lenOf, hroom, hf, addAt, hst]
        refine ⟨_, _, hr, ⟨hlen, .inr ⟨g, o, cap, _, rfl, setRow_heap w g cur _ e _ hb, hroom, hcm, ?_, ?_⟩⟩, ⟨rfl, rfl, rfl, by simp, fun k _ hk => setRow_other w g k _ (fun e => hk (by simp [Value.ownBlock, e]))⟩, .inl rfl⟩
        · simp only [List.size_toArray, List.length_append, List.length_take, List.length_drop, Array.length_toList]
          omega
        · have ho : o ≤ (cur.toList.take (o + n * 1)).length := by simp only [List.length_take, Array.length_toList]; omega
          have hd : (cur.toList.take (o + n * 1)).drop o = xs := by rw [List.drop_take, Nat.add_sub_cancel_left]; exact htake
          simp only [List.append_assoc]
          rw [List.drop_append_of_le_length ho, hd, ← List.append_assoc, ← hlen]
          exact List.take_left
      · have holds : ∀ j u, xs[j]? = some u → w.cell? ((⟨g, o, none⟩ : Addr).add j) = some u := by
          have hs := (show Row w e 1 (.slice (some ⟨g, o, none⟩) n cap) n xs from hrow).src
          intro j u hu
          rcases Nat.eq_zero_or_pos n with h0 | h0
          · subst h0
            have hx : xs = [] := List.eq_nil_of_length_eq_zero (by simpa using hrow.1)
            subst hx
            simp at hu
          · obtain ⟨ad', he, hc⟩ := hs.2 h0
            injection he with he
            subst he
            exact hc j u hu
        have hr := run_append_grow_string (P := P) w t u ty e i z ht hu hi hz ⟨g, o, none⟩ n cap xs (by rw [hsize]; exact hrow.1) holds s (by omega) (by omega) (growslice_fits (by omega) hbytes)
        have hgr := grown cap (by omega) (Value.ownBlock (.slice (some ⟨g, o, none⟩) n cap))
        exact ⟨_, _, hr, hgr.1, hgr.2, .inr rfl⟩
theorem wpList_app_str {ops : Array Oper} {rest : List Oper} {o : Oper} {a : Act} {Q : Exit → Act → World → Prop} (hgd : o.guard = none) {t e u : TypeId} {bytes : Nat} {z : Value} (E : Elem P t e 1 bytes z) (hu : P.underlying u = some .string) (s x : Operand)
    (ho : o.op = .call { callee := .builtin .append, args := #[s, x], argTypes := #[t, u] })
    {v : Value} {n : Nat} {xs : List Value} (hrow : Row w e 1 v n xs) (b : ByteArray) (hs : a.eval s = v) (hx : a.eval x = .string b)
    (h63 : n + b.size ≤ maxLen) (hbytes : (n + b.size) * bytes ≤ 140737488355328)
    (h : ∀ v' w', Row w' e 1 v' (n + b.size) (xs ++ strCells b) → w.grownBy w' v.ownBlock → (v'.ownBlock = v.ownBlock ∨ v'.ownBlock = some w.heap.size) → wpList P ops Q rest (a.put o.dst v') w') :
    wpList P ops Q (o :: rest) a w :=
  wpList_plain hgd fun K hK => by
    obtain ⟨v', w', hrun, h2, h3, h4⟩ := run_app_str (P := P) w E u o.type hu v n xs hrow b h63 hbytes
    unfold Oper.wp execOp
    simp only [ho, resolve, invoke, builtin, Sem.run_bind, Sem.run_pure, Result.andThen_ok, List.map_toArray, List.map_cons, List.map_nil, hs, hx, hrun]
    exact hK _ _ (h v' w' h2 h3 h4)
end
end Go.Proofs.Ythlfcinjmljbjaa.U
