/-
  Cmds: the examples; commands and entries as arguments.
-/
import Derived.Test.YtjojibgihoebaaaV2
namespace Go.Proofs.Ytjojibgihoebaaa.A
open Go.RowKit Go.Proofs.Ytjojibgihoebaaa.U
set_option linter.unusedVariables false
set_option linter.unusedSimpArgs false
set_option maxRecDepth 100000

def cA : Cmd := ⟨5, 3, 1, ⟨#[97]⟩, 0⟩
def cB : Cmd := ⟨5, 3, 1, ByteArray.empty, 0⟩
def sA : ByteArray := ⟨#[10, 6, 2, 1, 97, 0]⟩
def eA : Ent := ⟨1, 9, zeroC⟩
def sE : ByteArray := ⟨#[2, 18, 5, 0, 0, 0, 0, 0]⟩
theorem cA_64 : In64 cA := ⟨by decide, by decide, by decide, by decide⟩
theorem cB_64 : In64 cB := ⟨by decide, by decide, by decide, by decide⟩
theorem eA_64 : EIn64 eA := ⟨by decide, by decide, ⟨by decide, by decide, by decide, by decide⟩⟩
theorem cA_may : mayB cA = true := by decide
theorem cB_may : mayB cB = false := by decide
theorem zC_may : mayB zeroC = true := by decide
theorem eA_may : entB eA = true := by decide
theorem kA : encS cA = sA := by
  rw [encS_may cA_may]
  have e1 : u64L (zig cA.k) = [10] := u64L_small (by decide)
  have e2 : u64L (zig cA.s) = [6] := u64L_small (by decide)
  have e3 : u64L (zig cA.q) = [2] := u64L_small (by decide)
  have e4 : u64L cA.nm.size = [1] := u64L_small (by decide)
  have e5 : u64L (zig cA.n) = [0] := u64L_small (by decide)
  unfold encL
  rw [e1, e2, e3, e4, e5]
  rfl
theorem kZ : encS zeroC = ⟨#[0, 0, 0, 0, 0]⟩ := by
  rw [encS_may zC_may]
  have e1 : u64L (zig zeroC.k) = [0] := u64L_small (by decide)
  have e2 : u64L (zig zeroC.s) = [0] := u64L_small (by decide)
  have e3 : u64L (zig zeroC.q) = [0] := u64L_small (by decide)
  have e4 : u64L zeroC.nm.size = [0] := u64L_small (by decide)
  have e5 : u64L (zig zeroC.n) = [0] := u64L_small (by decide)
  unfold encL
  rw [e1, e2, e3, e4, e5]
  rfl
theorem kE : entS eA = sE := by
  rw [entS_may eA_may]
  unfold entL
  rw [show eA.c = zeroC from rfl, kZ]
  have e1 : u64L (zig eA.a) = [2] := u64L_small (by decide)
  have e2 : u64L (zig eA.b) = [18] := u64L_small (by decide)
  have e3 : u64L (ByteArray.mk #[0, 0, 0, 0, 0]).size = [5] := u64L_small (by decide)
  rw [e1, e2, e3]
  rfl
theorem kD : decOk sA = true ∧ decR sA = cA := by
  obtain ⟨h1, h2⟩ := dec_enc cA_64 cA_may
  rw [kA] at h1 h2
  exact ⟨h2, by rw [decR_ok h2, h1]⟩
theorem kN : decOk ⟨#[]⟩ = false ∧ decR ⟨#[]⟩ = zeroC := by
  have h0 : rdU (ByteArray.mk #[]) 0 0 = none := rdU_out (by decide)
  have x1 : dx1 ⟨#[]⟩ = ⟨⟨#[]⟩, true⟩ := uN_none rfl h0
  have x2 : dx2 ⟨#[]⟩ = ⟨⟨#[]⟩, true⟩ := by unfold dx2; rw [x1]; exact uN_bad rfl
  have x3 : dx3 ⟨#[]⟩ = ⟨⟨#[]⟩, true⟩ := by unfold dx3; rw [x2]; exact uN_bad rfl
  have x4 : dx4 ⟨#[]⟩ = ⟨⟨#[]⟩, true⟩ := by unfold dx4; rw [x3, (t_bad (by rw [uN_bad rfl])).2]; exact uN_bad rfl
  have x5 : dx5 ⟨#[]⟩ = ⟨⟨#[]⟩, true⟩ := by unfold dx5; rw [x4]; exact uN_bad rfl
  have h : decOk ⟨#[]⟩ = false := by unfold decOk; rw [x5]; rfl
  exact ⟨h, by unfold decR; rw [h]; rfl⟩
set_option maxHeartbeats 6400000 in
theorem cawake_calls (w : World) : Calls Try.prog 39 #[] w (fun e w' => e = .returned (.bool true) ∧ Keep Nothing w w') := by
  have hu := Try.underlying52
  have hu2 := Try.underlying54
  have hb : ∀ w', Below w.heap.size w w' → Keep Nothing w w' := fun w' h => Keep.of_below h _
  have E1 : Hid (∀ w, Calls Try.prog 33 #[.agg #[.int .i64 5, .int .i64 3, .int .i64 1, .string ⟨#[97]⟩, .int .i64 0]] w (fun e w' => e = .returned (.tuple #[.string ⟨#[10, 6, 2, 1, 97, 0]⟩, .int .i64 0]) ∧ Keep Nothing w w')) :=
    Lib.hid fun w => by have := enc_calls w cA cA_64; rw [cA_may, kA] at this; exact this
  have E2 : Hid (∀ w, Calls Try.prog 40 #[.string ⟨#[10, 6, 2, 1, 97, 0]⟩] w (fun e w' => e = .returned (.tuple #[.agg #[.int .i64 5, .int .i64 3, .int .i64 1, .string ⟨#[97]⟩, .int .i64 0], .int .i64 0]) ∧ Keep Nothing w w')) :=
    Lib.hid fun w => by have := dec_calls w sA (by decide); rw [kD.1, kD.2] at this; exact this
  have E3 : Hid (∀ w, Calls Try.prog 33 #[.agg #[.int .i64 5, .int .i64 3, .int .i64 1, .string ByteArray.empty, .int .i64 0]] w (fun e w' => e = .returned (.tuple #[.string ByteArray.empty, .int .i64 1]) ∧ Keep Nothing w w')) :=
    Lib.hid fun w => by have := enc_calls w cB cB_64; rw [cB_may, show encS cB = ByteArray.empty by unfold encS; rw [cB_may]; rfl] at this; exact this
  have E4 : Hid (∀ w, Calls Try.prog 35 #[.agg #[.int .i64 1, .int .i64 9, .int .i64 0, .int .i64 0, .int .i64 0, .string ByteArray.empty, .int .i64 0]] w (fun e w' => e = .returned (.tuple #[.string ⟨#[2, 18, 5, 0, 0, 0, 0, 0]⟩, .int .i64 0]) ∧ Keep Nothing w w')) :=
    Lib.hid fun w => by have := eenc_calls w eA eA_64; rw [eA_may, kE] at this; exact this
  have E5 : Hid (∀ w, Calls Try.prog 40 #[.string ⟨#[]⟩] w (fun e w' => e = .returned (.tuple #[.agg zcs, .int .i64 2]) ∧ Keep Nothing w w')) :=
    Lib.hid fun w => by have := dec_calls w ⟨#[]⟩ (by decide); rw [kN.1, kN.2] at this; exact this
  have E6 : Hid (∀ w, Calls Try.prog 37 #[.agg zcs] w (fun e w' => e = .returned (.int .i64 0) ∧ Keep Nothing w w')) :=
    Lib.hid fun w => by have := check_calls w zeroC; rw [zC_may] at this; exact this
  have H0 := Lib.hid (Holds.start w)
  have SN := Lib.hid none_stable
  have SB := Lib.hid blkP_stable
  go_enter Try.func39, Try.ntmps39
  go_wp2_with fail
  refine (E1.out _).mono ?_
  rintro e w1 ⟨rfl, hk⟩
  have H1 := Lib.hid (H0.out.kept SN.out hk)
  clear hk
  go_wp2_with fail
  refine (E2.out _).mono ?_
  rintro e w2 ⟨rfl, hk⟩
  have H2 := Lib.hid ((H1.out.kept SN.out hk).newBlk SN.out 52 #[.int .i64 5, .int .i64 3, .int .i64 1, .string ⟨#[97]⟩, .int .i64 0])
  clear hk
  go_wp2_with fail
  refine (E3.out _).mono ?_
  rintro e w3 ⟨rfl, hk⟩
  have H3 := Lib.hid (H2.out.kept ((SB.out _ _ _).star SN.out) hk)
  clear hk
  go_wp2_with fail
  refine (E4.out _).mono ?_
  rintro e w4 ⟨rfl, hk⟩
  have H4 := Lib.hid (H3.out.kept ((SB.out _ _ _).star SN.out) hk)
  clear hk
  go_wp2_with fail
  refine (E5.out _).mono ?_
  rintro e w5 ⟨rfl, hk⟩
  have H5 := Lib.hid ((H4.out.kept ((SB.out _ _ _).star SN.out) hk).alloc ((SB.out _ _ _).star SN.out) (.cells zcs 52))
  clear hk
  have d3 := (blk_at H5.out).cell 3
  go_wp2_with fail
  refine (E6.out _).mono ?_
  rintro e w6 ⟨rfl, hk⟩
  have H6 := Lib.hid (H5.out.kept ((SB.out _ _ _).star SN.out) hk)
  clear hk
  go_wp2_with fail
  go_ret
  exact ⟨rfl, hb _ H6.out.below⟩
theorem cells52 : Try.prog.cellsOf 52 = 5 := by kernel_rfl
theorem cells54 : Try.prog.cellsOf 54 = 7 := by kernel_rfl
theorem cells3' : Try.prog.cellsOf 3 = 1 := by kernel_rfl
theorem cells9' : Try.prog.cellsOf 9 = 1 := by kernel_rfl
/-- The fields of a struct that is read, each of any size. -/
theorem struct_parts {H : Type} {enc : TypeId × Value → H} {W : World} {b0 n t : Nat} {sp : Nat → Bool} {held : Bool} {cs : List Value} {x : DataW H × List MemPlace} {fs : Array Field} (hs : Try.prog.underlying t = some (.struct fs))
    (ht : DataW.trod enc Try.prog W b0 sp held n t cs = some x) : cs.length = Try.prog.cellsOf t ∧ ∃ m, ∀ (i ty off : Nat), (fs[i]?).map (fun f => (f.type, f.offset)) = some (ty, off) →
      ∃ y, DataW.trod enc Try.prog W b0 sp held m ty ((cs.drop off).take (Try.prog.cellsOf ty)) = some y ∧ ∀ p ∈ y.2, p ∈ x.2 := by
  obtain ⟨xs, m, _, rfl, hcl, hxl, hf⟩ := DataW.trod_struct hs ht
  refine ⟨hcl, m, fun i ty off hi => ?_⟩
  cases hfi : fs[i]? with
  | none => rw [hfi] at hi; cases hi
  | some f =>
    rw [hfi] at hi
    simp only [Option.map_some, Option.some.injEq, Prod.mk.injEq] at hi
    obtain ⟨rfl, rfl⟩ := hi
    have k := hf i f hfi
    have hil : i < xs.length := by rw [hxl]; exact (Array.getElem?_eq_some_iff.1 hfi).1
    rw [List.getElem?_eq_getElem hil] at k
    exact ⟨_, k, fun p hp => List.mem_flatMap.2 ⟨_, List.getElem_mem hil, hp⟩⟩
theorem cmd_cells {H : Type} {enc : TypeId × Value → H} {W : World} {b0 n : Nat} {cs : List Value} {y : DataW H × List MemPlace} (ht : DataW.trod enc Try.prog W b0 (fun _ => true) true n 52 cs = some y) :
    ∃ c : Cmd, cs = c.cs.toList ∧ In64 c ∧ c.nm.size ≤ maxLen := by
  obtain ⟨hcl, m, hf⟩ := R.struct_fields Try.underlying52 ht
  rw [cells52] at hcl
  obtain ⟨v0, y0, g0, k0, _⟩ := hf 0 3 0 rfl cells3' (by omega)
  obtain ⟨v1, y1, g1, k1, _⟩ := hf 1 3 1 rfl cells3' (by omega)
  obtain ⟨v2, y2, g2, k2, _⟩ := hf 2 3 2 rfl cells3' (by omega)
  obtain ⟨v3, y3, g3, k3, _⟩ := hf 3 9 3 rfl cells9' (by omega)
  obtain ⟨v4, y4, g4, k4, _⟩ := hf 4 3 4 rfl cells3' (by omega)
  obtain ⟨n0, l0, _, w0⟩ := DataW.trod_int Try.underlying3 k0
  obtain ⟨n1, l1, _, w1⟩ := DataW.trod_int Try.underlying3 k1
  obtain ⟨n2, l2, _, w2⟩ := DataW.trod_int Try.underlying3 k2
  obtain ⟨s, l3, _, hm⟩ := DataW.trod_string Try.underlying9 k3
  obtain ⟨n4, l4, _, w4⟩ := DataW.trod_int Try.underlying3 k4
  injection l0 with l0 _
  injection l1 with l1 _
  injection l2 with l2 _
  injection l3 with l3 _
  injection l4 with l4 _
  subst l0 l1 l2 l3 l4
  refine ⟨⟨n0, n1, n2, s, n4⟩, List.ext_getElem? fun i => ?_, ⟨wf_i64 w0, wf_i64 w1, wf_i64 w2, wf_i64 w4⟩, hm⟩
  match i with
  | 0 => exact g0
  | 1 => exact g1
  | 2 => exact g2
  | 3 => exact g3
  | 4 => exact g4
  | i + 5 => rw [List.getElem?_eq_none (by omega), List.getElem?_eq_none (by simp [Cmd.cs])]
theorem ent_cells {H : Type} {enc : TypeId × Value → H} {W : World} {b0 n : Nat} {cs : List Value} {y : DataW H × List MemPlace} (ht : DataW.trod enc Try.prog W b0 (fun _ => true) true n 54 cs = some y) :
    ∃ x : Ent, cs = x.cs.toList ∧ EIn64 x ∧ x.c.nm.size ≤ maxLen := by
  obtain ⟨hcl, m, hf⟩ := R.struct_fields Try.underlying54 ht
  obtain ⟨_, m', hp⟩ := struct_parts Try.underlying54 ht
  rw [cells54] at hcl
  obtain ⟨v0, y0, g0, k0, _⟩ := hf 0 3 0 rfl cells3' (by omega)
  obtain ⟨v1, y1, g1, k1, _⟩ := hf 1 3 1 rfl cells3' (by omega)
  obtain ⟨y2, k2, _⟩ := hp 2 52 2 rfl
  rw [cells52] at k2
  obtain ⟨n0, l0, _, w0⟩ := DataW.trod_int Try.underlying3 k0
  obtain ⟨n1, l1, _, w1⟩ := DataW.trod_int Try.underlying3 k1
  obtain ⟨c, hc, c64, hn⟩ := cmd_cells k2
  injection l0 with l0 _
  injection l1 with l1 _
  subst l0 l1
  refine ⟨⟨n0, n1, c⟩, ?_, ⟨wf_i64 w0, wf_i64 w1, c64⟩, hn⟩
  have e : cs = cs.take 2 ++ (cs.drop 2).take 5 := by
    rw [List.take_of_length_le (l := cs.drop 2) (by rw [List.length_drop]; omega), List.take_append_drop]
  rw [hc] at e
  rw [e]
  have e2 : cs.take 2 = [.int .i64 n0, .int .i64 n1] := by
    match cs, hcl, g0, g1 with
    | a :: b :: r, _, g0, g1 =>
      simp at g0 g1
      subst g0 g1
      rfl
  rw [e2]
  rfl
end Go.Proofs.Ytjojibgihoebaaa.A
