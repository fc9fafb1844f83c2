/-
  The reference's scheduler: object. Printed by gen_wa.py.
-/
import Derived.Test.YtmohpjkbhpgidaaYK
import Derived.Test.YtmohpjkbhpgidaaRO
import Derived.Test.YtmohpjkbhpgidaaF
namespace Go.Proofs.Ytmohpjkbhpgidaa.A
open Go.RowKit Go.Proofs.Ytmohpjkbhpgidaa.U
set_option linter.unusedVariables false
set_option linter.unusedSimpArgs false
set_option maxRecDepth 100000
set_option maxHeartbeats 1600000

/-- A task of the reference, in its row. -/
structure RTk where
  T : Tk
  vo : Value
  vr : Value
abbrev RTk.cl (r : RTk) : List Value := [r.vo, .int .i64 r.T.at_, .bool r.T.blk, r.vr]
def rtV (R : List RTk) : List Value := R.flatMap RTk.cl
theorem ER : Elem Try.prog 152 157 4 64 (.agg #[.slice none 0 0, .int .i64 0, .bool false, .slice none 0 0]) := ⟨Try.underlying152, by kernel_rfl, by rfl, by decide⟩
theorem rtV_app (L M : List RTk) : rtV (L ++ M) = rtV L ++ rtV M := by simp [rtV]
theorem rtV_len (L : List RTk) : (rtV L).length = L.length * 4 := by
  induction L with
  | nil => rfl
  | cons x L ih => show (x.cl ++ rtV L).length = _; rw [List.length_append, ih, List.length_cons]; simp; omega
theorem rtV_get {L : List RTk} {k : Nat} {x : RTk} (h : L[k]? = some x) (j : Nat) (hj : j < 4) : (rtV L)[k * 4 + j]? = x.cl[j]? := by
  induction L generalizing k with
  | nil => simp at h
  | cons y L ih =>
    show (y.cl ++ rtV L)[k * 4 + j]? = _
    cases k with
    | zero =>
      simp at h; subst h
      rw [List.getElem?_append_left (by simp; omega)]
      simp
    | succ k =>
      rw [List.getElem?_append_right (by simp; omega)]
      simp at h
      rw [← ih h]
      congr 1
      simp; omega
abbrev rtI (r : RTk) : SP := star (rowP 97 3 r.vo r.T.ops.length (opsV r.T.ops)) (rowP 3 1 r.vr r.T.runs.length (ints r.T.runs))
theorem rtI_stable (r : RTk) : Stable (rtI r) := (rowP_stable _ _ _ _ _).star (rowP_stable _ _ _ _ _)
def rinP : List RTk → SP
  | [] => none_
  | r :: R => star (rtI r) (rinP R)
theorem rinP_stable : ∀ R, Stable (rinP R)
  | [] => none_stable
  | r :: R => (rtI_stable r).star (rinP_stable R)
theorem rinP_push : ∀ (R : List RTk) (r : RTk), rinP (R ++ [r]) = star (rtI r) (rinP R)
  | [], r => rfl
  | y :: R, r => by
    show star (rtI y) (rinP (R ++ [r])) = star (rtI r) (star (rtI y) (rinP R))
    rw [rinP_push R r]; ac_rfl
theorem rinP_take : ∀ (R : List RTk) (i : Nat) (r : RTk), R[i]? = some r → ∃ Z, Stable Z ∧ rinP R = star (rtI r) Z ∧ ∀ r', rinP (R.set i r') = star (rtI r') Z
  | [], i, x, h => by simp at h
  | y :: l, 0, x, h => by
    simp only [List.getElem?_cons_zero, Option.some.injEq] at h
    subst h
    exact ⟨rinP l, rinP_stable l, rfl, fun r' => rfl⟩
  | y :: l, i + 1, x, h => by
    obtain ⟨Z, hZ, e1, e2⟩ := rinP_take l i x (by simpa using h)
    refine ⟨star (rtI y) Z, (rtI_stable y).star hZ, ?_, fun r' => ?_⟩
    · show star (rtI y) (rinP l) = _
      rw [e1]; ac_rfl
    · show star (rtI y) (rinP (l.set i r')) = _
      rw [e2]; ac_rfl
/-- What is read of a task. -/
structure RAt (w : World) (p : Addr) (r : RTk) : Prop where
  o : w.cell? p = some r.vo
  a : w.cell? ⟨p.block, p.off + 1, none⟩ = some (.int .i64 r.T.at_)
  b : w.cell? ⟨p.block, p.off + 2, none⟩ = some (.bool r.T.blk)
  r : w.cell? ⟨p.block, p.off + 3, none⟩ = some r.vr
theorem rt_at {w : World} {A : Option Addr} {L : List RTk} {n k : Nat} (h : U.Src w A 4 n (rtV L)) (hk : k < n) : ∃ (ad : Addr) (x : RTk), A = some ad ∧ L[k]? = some x ∧ RAt w (ad.add (k * 4)) x := by
  have hl : L.length = n := by have := h.1; rw [rtV_len] at this; omega
  obtain ⟨ad, rfl, hc⟩ := h.2 (by omega)
  have hx : L[k]? = some (L[k]'(by omega)) := List.getElem?_eq_getElem (by omega)
  have hc' : ∀ j u, (L[k]'(by omega)).cl[j]? = some u → w.cell? (ad.add (k * 4 + j)) = some u := fun j u hu => hc _ _ (by
    have hj : j < 4 := (List.getElem?_eq_some_iff.1 hu).1
    rw [rtV_get hx j hj]
    exact hu)
  have g : ∀ j u, 0 < j → (L[k]'(by omega)).cl[j]? = some u → w.cell? ⟨(ad.add (k * 4)).block, (ad.add (k * 4)).off + j, none⟩ = some u := fun j u hj hu => by
    rw [← addLater ad (k * 4) j hj]; exact hc' j u hu
  exact ⟨ad, _, rfl, hx, hc' 0 _ rfl, g 1 _ (by omega) rfl, g 2 _ (by omega) rfl, g 3 _ (by omega) rfl⟩
theorem RAt.keep {w w' : World} {p : Addr} {x : RTk} {S : Nat → Prop} (h : RAt w p x) (hk : Keep S w w') (hn : ¬ S p.block) : RAt w' p x :=
  ⟨hk.cell h.o hn, hk.cell h.a hn, hk.cell h.b hn, hk.cell h.r hn⟩
/-- The tasks of a scheduler, to be read. -/
structure RTasks (w : World) (b : Nat) (R : List RTk) (A : Option Addr) (c : Nat) : Prop where
  c0 : w.cell? ⟨b, 0, none⟩ = some (.slice A R.length c)
  src : U.Src w A 4 R.length (rtV R)
  form : ∀ r ∈ R, ∃ A1 c1 A2 c2, r.vo = .slice A1 r.T.ops.length c1 ∧ r.vr = .slice A2 r.T.runs.length c2
  len : R.length ≤ 1000000
theorem RTasks.keep {w w' : World} {b : Nat} {R : List RTk} {A : Option Addr} {c : Nat} (h : RTasks w b R A c) (hk : Keep Nothing w w') : RTasks w' b R A c :=
  ⟨hk.cell h.c0 (fun h => h), ⟨h.src.1, fun h0 => let ⟨ad, e, hc⟩ := h.src.2 h0; ⟨ad, e, fun j u hu => hk.cell (hc j u hu) (fun h => h)⟩⟩, h.form, h.len⟩
theorem wrap_ok {x : Int} (h0 : -9223372036854775808 ≤ x) (h1 : x < 9223372036854775808) : wrap64 x = x := by unfold wrap64; omega
theorem past109 (w : World) (A : Option Addr) (n c a : Nat) (L : List Op3) (h : U.Src w A 3 n (opsV L)) (hn : n ≤ 1000000) (ha : a ≤ n) :
    Calls Try.prog 109 #[.slice A n c, .int .i64 a] w (fun e w' => e = .returned (.int .i64 (a + pastL 1 (L.drop a) : Nat)) ∧ Keep Nothing w w') := by
  have hu := Try.underlying97
  have hu2 := Try.underlying99
  have H := Lib.hid h
  have HL := Lib.hid (osrc_len h)
  have HA := Lib.hid ha
  clear h ha
  go_enter Try.func109, Try.ntmps109
  go_wp2_with fail
  go_loopw [1, 5] (fun av vd wr => ∃ (k : Nat) (D : Int), av = .int .i64 k ∧ vd = .int .i64 D ∧ 1 ≤ D ∧ D ≤ k + 1 ∧ k ≤ n ∧ k + pastL D.toNat (L.drop k) = a + pastL 1 (L.drop a) ∧ Keep Nothing w wr) (fun av _ _ => n - (intOf av).toNat)
  case atStart => exact ⟨a, 1, rfl, rfl, by omega, by omega, HA.out, rfl, (by repeat (first | with_reducible (exact Keep.same _ _) | with_reducible (apply Keep.drew) | with_reducible (apply Keep.alloc)))⟩
  case round =>
    obtain ⟨k, D, rfl, rfl, hD0, hD1, hk, hp, hkw⟩ := hrel
    have HP := Lib.hid hp
    have KW := Lib.hid hkw
    clear hp hkw
    by_cases hlt : k < n
    · obtain ⟨ad, x, rfl, hx, o0, o1, o2⟩ := op_at (src_keep H.out KW.out) hlt
      have HX := Lib.hid hx
      have HLT := Lib.hid hlt
      have HD := Lib.hid (show 1 ≤ D ∧ D ≤ k + 1 from ⟨hD0, hD1⟩)
      have hw1 : wrap64 ((k : Int) + 1) = (k : Int) + 1 := wrap_ok (by omega) (by omega)
      have hw2 : wrap64 (D + 1) = D + 1 := wrap_ok (by omega) (by omega)
      have hw3 : wrap64 (D - 1) = D - 1 := wrap_ok (by omega) (by omega)
      have hk7 := (show x.k = 7 ∨ x.k = 8 ∨ (x.k ≠ 7 ∧ x.k ≠ 8) by omega)
      clear hx o1 o2 hD0 hD1 hk
      rcases hk7 with q | q | ⟨q, q'⟩
      · have d7 : (x.k == 7) = true := by simp [q]
        have dz : (D + 1 == 0) = false := by have := HD.out; simp; omega
        have HK := Lib.hid q
        clear q
        go_wp2_with fail
        go_roundw
        case rel =>
          refine ⟨k + 1, D + 1, by go_num, (by rw [wrap_ok (by have := HD.out; have := HLT.out; omega) (by have := HD.out; have := HLT.out; omega)]), by have := HD.out; omega, by have := HD.out; omega, HLT.out, ?_, KW.out.then (by repeat (first | with_reducible (exact Keep.same _ _) | with_reducible (apply Keep.drew) | with_reducible (apply Keep.alloc)))⟩
          rw [← HP.out, pastL_next HX.out (by have := HD.out; omega), if_pos HK.out, show (D + 1).toNat = D.toNat + 1 by have := HD.out; omega]
          omega
        case measure => have := HLT.out; simp [intOf]; omega
      · have d7 : (x.k == 7) = false := by simp [q]
        have d8 : (x.k == 8) = true := by simp [q]
        have HK := Lib.hid q
        clear q
        rcases (show D = 1 ∨ 1 < D by have := HD.out; omega) with h1 | h1
        · have dz : (D - 1 == 0) = true := by simp; omega
          have H1 := Lib.hid h1
          clear h1
          go_wp2_with fail
          go_ret
          refine ⟨?_, KW.out.then (by repeat (first | with_reducible (exact Keep.same _ _) | with_reducible (apply Keep.drew) | with_reducible (apply Keep.alloc)))⟩
          have := HP.out
          rw [pastL_next HX.out (by rw [H1.out]; decide), if_neg (by have := HK.out; omega), if_pos HK.out, H1.out, show ((1 : Int).toNat - 1) = 0 from rfl, pastL_zero] at this
          rw [← this]
          simp
        · have dz : (D - 1 == 0) = false := by simp; omega
          have H1 := Lib.hid h1
          clear h1
          go_wp2_with fail
          go_roundw
          case rel =>
            refine ⟨k + 1, D - 1, by go_num, (by rw [wrap_ok (by have := HD.out; have := HLT.out; omega) (by have := HD.out; have := HLT.out; omega)]), by have := H1.out; omega, by have := HD.out; omega, HLT.out, ?_, KW.out.then (by repeat (first | with_reducible (exact Keep.same _ _) | with_reducible (apply Keep.drew) | with_reducible (apply Keep.alloc)))⟩
            rw [← HP.out, pastL_next HX.out (by have := HD.out; omega), if_neg (by have := HK.out; omega), if_pos HK.out, show (D - 1).toNat = D.toNat - 1 by have := HD.out; omega]
            omega
          case measure => have := HLT.out; simp [intOf]; omega
      · have d7 : (x.k == 7) = false := by simp [q]
        have d8 : (x.k == 8) = false := by simp [q']
        have dz : (D == 0) = false := by have := HD.out; simp; omega
        have HK := Lib.hid (And.intro q q')
        clear q q'
        go_wp2_with fail
        go_roundw
        case rel =>
          refine ⟨k + 1, D, by go_num, rfl, by have := HD.out; omega, by have := HD.out; omega, HLT.out, ?_, KW.out.then (by repeat (first | with_reducible (exact Keep.same _ _) | with_reducible (apply Keep.drew) | with_reducible (apply Keep.alloc)))⟩
          rw [← HP.out, pastL_next HX.out (by have := HD.out; omega), if_neg HK.out.1, if_neg HK.out.2]
          omega
        case measure => have := HLT.out; simp [intOf]; omega
    · have EK := Lib.hid (show k = a + pastL 1 (L.drop a) by rw [← HP.out, List.drop_eq_nil_of_le (by rw [HL.out]; omega), pastL_nil]; rfl)
      clear hk hD0 hD1
      go_wp2_with fail
      go_ret
      exact ⟨by (rw [← EK.out]; rfl), KW.out.then (by repeat (first | with_reducible (exact Keep.same _ _) | with_reducible (apply Keep.drew) | with_reducible (apply Keep.alloc)))⟩
end Go.Proofs.Ytmohpjkbhpgidaa.A
namespace Go.Proofs.Ytmohpjkbhpgidaa.A
open Go.RowKit Go.Proofs.Ytmohpjkbhpgidaa.U
set_option linter.unusedVariables false
set_option linter.unusedSimpArgs false
set_option maxRecDepth 100000
set_option maxHeartbeats 1600000

/-- A struct is loaded, whole, from where its cells lie. -/
theorem load_at {ty : TypeId} (w : World) (a : Addr) (cs : List Value) (d : TypeDesc) (hc : ∀ j u, cs[j]? = some u → w.cell? (a.add j) = some u)
    (hu : Try.prog.underlying ty = some d) (hd : (match d with | .struct _ | .array _ _ => true | _ => false) = true) (hi : (Try.prog.info? ty).map (·.size) = some cs.length) :
    (loadVar ty a).run Try.prog w = .ok (.agg cs.toArray) w := by
  have hl := run_loadCells_list (P := Try.prog) w a cs hc
  cases hq : Try.prog.info? ty with
  | none => rw [hq] at hi; cases hi
  | some i =>
    have hs : i.size = cs.length := by rw [hq] at hi; simpa using hi
    have hagg : (isAgg ty).run Try.prog w = .ok true w := by
      unfold isAgg
      rw [Sem.run_bind, run_underlying hu w]
      cases d <;> simp_all
    simp [loadVar, Sem.run_bind, hagg, sizeOf, typeInfo, hq, hs, hl]
theorem wpList_load_at {ops : Array Oper} {rest : List Oper} {o : Oper} {a : Act} {w : World} {Q : Exit → Act → World → Prop} (ty : TypeId) (x : Operand) (ho : o.op = .load ty x) (hw : Region.wanted o (yielded ops a.tmps) = true)
    (p : Addr) (hx : a.eval x = .pointer (some p)) (cs : List Value) (d : TypeDesc) (hc : ∀ j u, cs[j]? = some u → w.cell? (p.add j) = some u)
    (hu : Try.prog.underlying ty = some d) (hd : (match d with | .struct _ | .array _ _ => true | _ => false) = true) (hi : (Try.prog.info? ty).map (·.size) = some cs.length)
    (h : wpList Try.prog ops Q rest (a.put o.dst (.agg cs.toArray)) w) : wpList Try.prog ops Q (o :: rest) a w :=
  wpList_step fun K hK => by
    rw [if_pos hw]
    unfold Oper.wp execOp
    simp only [ho, hx, Instr.loadAt, Instr.sureAddr, Sem.run_bind, Sem.run_pure, Result.andThen_ok, load_at w p cs d hc hu hd hi]
    exact hK _ _ h
theorem held_row {B : Nat} {w0 w : World} {Q : SP} {b t : Nat} {cs : Array Value} (h : Holds B w0 w (star (blkP b t cs) Q)) (hQ : Stable Q) (cs' : Array Value) : Holds B w0 (w.setRow b cs') (star (blkP b t cs') Q) :=
  h.did_left hQ fun F ⟨hb, hf⟩ => ⟨F, ⟨hb.setRow cs', hf⟩, (Keep.same F w).setRow (.inl ((hf b).2 rfl)) cs', fun k hk => .inl hk⟩
def kindR : OS → Int
  | .m .. => 0
  | .r .. => 1
  | .g .. => 2
  | .o .. => 3
def OS.RP (b : Nat) : OS → SP
  | .m h who L => smP b (whoOf h who) (tasks L)
  | .r W wr L => rrP b W wr L
  | .g n L => qP 87 b [.int .i64 n] L
  | .o W ov L => rP b W ov L
theorem OS.RP_stable (b : Nat) : ∀ s, Stable (OS.RP b s)
  | .m .. => qP_stable _ _ _ _
  | .r .. => rrP_stable _ _ _ _
  | .g .. => qP_stable _ _ _ _
  | .o .. => rP_stable _ _ _ _
/-- An object of the reference. -/
structure RO where
  num : Int
  g : Nat
  st : OS
abbrev pAt (o : RO) (k : Int) : Value := .pointer (if kindR o.st = k then some ⟨o.g, 0, none⟩ else none)
abbrev RO.cl (o : RO) : List Value := [.int .i64 (kindR o.st), .int .i64 o.num, pAt o 0, pAt o 1, pAt o 2, pAt o 3]
abbrev RO.key (o : RO) : Int × Int := (kindR o.st, o.num)
def roV (O : List RO) : List Value := O.flatMap RO.cl
theorem EOb : Elem Try.prog 153 160 6 48 (.agg #[.int .i64 0, .int .i64 0, .pointer none, .pointer none, .pointer none, .pointer none]) := ⟨Try.underlying153, by kernel_rfl, by rfl, by decide⟩
theorem roV_app (L M : List RO) : roV (L ++ M) = roV L ++ roV M := by simp [roV]
theorem roV_len (L : List RO) : (roV L).length = L.length * 6 := by
  induction L with
  | nil => rfl
  | cons x L ih => show (x.cl ++ roV L).length = _; rw [List.length_append, ih, List.length_cons]; simp; omega
theorem roV_get {L : List RO} {k : Nat} {x : RO} (h : L[k]? = some x) (j : Nat) (hj : j < 6) : (roV L)[k * 6 + j]? = x.cl[j]? := by
  induction L generalizing k with
  | nil => simp at h
  | cons y L ih =>
    show (y.cl ++ roV L)[k * 6 + j]? = _
    cases k with
    | zero =>
      simp at h; subst h
      rw [List.getElem?_append_left (by simp; omega)]
      simp
    | succ k =>
      rw [List.getElem?_append_right (by simp; omega)]
      simp at h
      rw [← ih h]
      congr 1
      simp; omega
theorem ro_at {w : World} {A : Option Addr} {L : List RO} {n k : Nat} (h : U.Src w A 6 n (roV L)) (hk : k < n) : ∃ (ad : Addr) (x : RO), A = some ad ∧ L[k]? = some x ∧ ∀ j u, x.cl[j]? = some u → w.cell? ((ad.add (k * 6)).add j) = some u := by
  have hl : L.length = n := by have := h.1; rw [roV_len] at this; omega
  obtain ⟨ad, rfl, hc⟩ := h.2 (by omega)
  have hx : L[k]? = some (L[k]'(by omega)) := List.getElem?_eq_getElem (by omega)
  refine ⟨ad, _, rfl, hx, fun j u hu => ?_⟩
  rw [U.addAdd]
  exact hc _ _ (by
    have hj : j < 6 := (List.getElem?_eq_some_iff.1 hu).1
    rw [roV_get hx j hj]
    exact hu)
def robP : List RO → SP
  | [] => none_
  | o :: O => star (OS.RP o.g o.st) (robP O)
theorem robP_stable : ∀ O, Stable (robP O)
  | [] => none_stable
  | o :: O => (OS.RP_stable _ _).star (robP_stable O)
theorem robP_push : ∀ (O : List RO) (o : RO), robP (O ++ [o]) = star (OS.RP o.g o.st) (robP O)
  | [], o => rfl
  | y :: O, o => by
    show star (OS.RP y.g y.st) (robP (O ++ [o])) = star (OS.RP o.g o.st) (star (OS.RP y.g y.st) (robP O))
    rw [robP_push O o]; ac_rfl
theorem robP_take : ∀ (O : List RO) (i : Nat) (o : RO), O[i]? = some o → ∃ Z, Stable Z ∧ robP O = star (OS.RP o.g o.st) Z ∧ ∀ o' : RO, robP (O.set i o') = star (OS.RP o'.g o'.st) Z
  | [], i, x, h => by simp at h
  | y :: l, 0, x, h => by
    simp only [List.getElem?_cons_zero, Option.some.injEq] at h
    subst h
    exact ⟨robP l, robP_stable l, rfl, fun o' => rfl⟩
  | y :: l, i + 1, x, h => by
    obtain ⟨Z, hZ, e1, e2⟩ := robP_take l i x (by simpa using h)
    refine ⟨star (OS.RP y.g y.st) Z, (OS.RP_stable _ _).star hZ, ?_, fun o' => ?_⟩
    · show star (OS.RP y.g y.st) (robP l) = _
      rw [e1]; ac_rfl
    · show star (OS.RP y.g y.st) (robP (l.set i o')) = _
      rw [e2]; ac_rfl
theorem roV_set {O : List RO} {i : Nat} {o o' : RO} (h : O[i]? = some o) (hc : o'.cl = o.cl) : roV (O.set i o') = roV O := by
  induction O generalizing i with
  | nil => simp at h
  | cons y l ih =>
    cases i with
    | zero => simp at h; subst h; show o'.cl ++ roV l = y.cl ++ roV l; rw [hc]
    | succ i => show y.cl ++ roV (l.set i o') = y.cl ++ roV l; rw [ih (by simpa using h)]
/-- The reference's scheduler, in parts. -/
abbrev rBlk (b : Nat) (R : List RTk) (O : List RO) (A : Option Addr) (c : Nat) (A' : Option Addr) (c' : Nat) : SP := blkP b 155 #[.slice A R.length c, .slice A' O.length c']
abbrev rRow (R : List RTk) (A : Option Addr) (c : Nat) : SP := rowP 157 4 (.slice A R.length c) R.length (rtV R)
abbrev oRow (O : List RO) (A : Option Addr) (c : Nat) : SP := rowP 160 6 (.slice A O.length c) O.length (roV O)
def refP (b : Nat) (A : Option Addr) (c : Nat) (R : List RTk) (O : List RO) : SP := fun w F => ∃ A' c', star (rBlk b R O A c A' c') (star (rRow R A c) (star (oRow O A' c') (star (rinP R) (robP O)))) w F
theorem refP_stable (b : Nat) (A : Option Addr) (c : Nat) (R : List RTk) (O : List RO) : Stable (refP b A c R O) where
  keep := fun ⟨A', c', h⟩ hk hn => ⟨A', c', ((blkP_stable _ _ _).star ((rowP_stable _ _ _ _ _).star ((rowP_stable _ _ _ _ _).star ((rinP_stable R).star (robP_stable O))))).keep h hk hn⟩
  lt := fun ⟨A', c', h⟩ hk => ((blkP_stable _ _ _).star ((rowP_stable _ _ _ _ _).star ((rowP_stable _ _ _ _ _).star ((rinP_stable R).star (robP_stable O))))).lt h hk
section
variable {B : Nat} {w0 w : World} {Q : SP} {b : Nat} {A : Option Addr} {c : Nat} {R : List RTk} {O : List RO}
theorem ref_open (h : Holds B w0 w (star (refP b A c R O) Q)) : ∃ A' c', Holds B w0 w (star (rBlk b R O A c A' c') (star (rRow R A c) (star (oRow O A' c') (star (rinP R) (star (robP O) Q))))) := by
  obtain ⟨F, ⟨F1, F2, ⟨A', c', h1⟩, h2, h3, h4⟩, hr⟩ := h
  have g : Holds B w0 w (star (star (rBlk b R O A c A' c') (star (rRow R A c) (star (oRow O A' c') (star (rinP R) (robP O))))) Q) := ⟨F, ⟨F1, F2, h1, h2, h3, h4⟩, hr⟩
  exact ⟨A', c', g.perm (by ac_rfl)⟩
theorem ref_close {A' : Option Addr} {c' : Nat} (h : Holds B w0 w (star (rBlk b R O A c A' c') (star (rRow R A c) (star (oRow O A' c') (star (rinP R) (star (robP O) Q)))))) : Holds B w0 w (star (refP b A c R O) Q) := by
  have g : Holds B w0 w (star (star (rBlk b R O A c A' c') (star (rRow R A c) (star (oRow O A' c') (star (rinP R) (robP O))))) Q) := h.perm (by ac_rfl)
  obtain ⟨F, ⟨F1, F2, h1, h2, h3, h4⟩, hr⟩ := g
  exact ⟨F, ⟨F1, F2, ⟨A', c', h1⟩, h2, h3, h4⟩, hr⟩
theorem rin_form : ∀ {R : List RTk} {Q : SP}, Holds B w0 w (star (rinP R) Q) → ∀ r ∈ R, Row w 97 3 r.vo r.T.ops.length (opsV r.T.ops) ∧ Row w 3 1 r.vr r.T.runs.length (ints r.T.runs)
  | [], Q, h, x, hx => by cases hx
  | y :: R, Q, h, x, hx => by
    have g : Holds B w0 w (star (rowP 97 3 y.vo y.T.ops.length (opsV y.T.ops)) (star (rowP 3 1 y.vr y.T.runs.length (ints y.T.runs)) (star (rinP R) Q))) := h.perm (by
      show star (star (star (rowP 97 3 y.vo y.T.ops.length (opsV y.T.ops)) (rowP 3 1 y.vr y.T.runs.length (ints y.T.runs))) (rinP R)) Q = _
      ac_rfl)
    have g2 : Holds B w0 w (star (rowP 3 1 y.vr y.T.runs.length (ints y.T.runs)) (star (rinP R) (star (rowP 97 3 y.vo y.T.ops.length (opsV y.T.ops)) Q))) := g.perm (by ac_rfl)
    rcases List.mem_cons.1 hx with rfl | hx
    · exact ⟨g.row, g2.row⟩
    · exact rin_form (show Holds B w0 w (star (rinP R) (star (rowP 3 1 y.vr y.T.runs.length (ints y.T.runs)) (star (rowP 97 3 y.vo y.T.ops.length (opsV y.T.ops)) Q))) from g.perm (by ac_rfl)) x hx
theorem ref_tasks (h : Holds B w0 w (star (refP b A c R O) Q)) (hl : R.length ≤ 1000000) : RTasks w b R A c := by
  obtain ⟨A', c', h1⟩ := ref_open h
  have h2 : Holds B w0 w (star (rRow R A c) (star (rBlk b R O A c A' c') (star (oRow O A' c') (star (rinP R) (star (robP O) Q))))) := h1.perm (by ac_rfl)
  have h3 : Holds B w0 w (star (rinP R) (star (rRow R A c) (star (rBlk b R O A c A' c') (star (oRow O A' c') (star (robP O) Q))))) := h1.perm (by ac_rfl)
  refine ⟨(blk_at' h1).cell 0, h2.row.src, fun r hr => ?_, hl⟩
  obtain ⟨q1, q2⟩ := rin_form h3 r hr
  obtain ⟨A1, c1, e1, _⟩ := q1.form
  obtain ⟨A2, c2, e2, _⟩ := q2.form
  exact ⟨A1, c1, A2, c2, e1, e2⟩
/-- The tasks' row out of the scheduler. -/
theorem ref_row (h : Holds B w0 w (star (refP b A c R O) Q)) : ∃ Z, Stable Z ∧ Holds B w0 w (star (rRow R A c) (star (rinP R) (star Z Q))) ∧
    ∀ (w' : World) (R' : List RTk) (Q' : SP), R'.length = R.length → Holds B w0 w' (star (rRow R' A c) (star (rinP R') (star Z Q'))) → Holds B w0 w' (star (refP b A c R' O) Q') := by
  obtain ⟨A', c', h1⟩ := ref_open h
  refine ⟨star (rBlk b R O A c A' c') (star (oRow O A' c') (robP O)), (blkP_stable _ _ _).star ((rowP_stable _ _ _ _ _).star (robP_stable _)), h1.perm (by ac_rfl), fun w' R' Q' hl h => ref_close (A' := A') (c' := c') ?_⟩
  have h2 : Holds B w0 w' (star (rBlk b R O A c A' c') (star (rRow R' A c) (star (oRow O A' c') (star (rinP R') (star (robP O) Q'))))) := h.perm (by ac_rfl)
  unfold rBlk
  rw [hl]
  exact h2
end
theorem Row.put1 {w : World} {e : TypeId} {size n c : Nat} {ad : Addr} {xs : List Value} (h : Row w e size (.slice (some ad) n c) n xs) {j : Nat} (hj : j < n * size) (u : Value) :
    Row (w.setCell (ad.add j) u) e size (.slice (some ad) n c) n (xs.set j u) ∧ w.frozen? (ad.add j) = false ∧ (Value.slice (some ad) n c).ownBlock = some (ad.add j).block := by
  rcases h.2 with ⟨h0, _⟩ | ⟨g, o, cap, cur, hv, hb, h1, h2, h3, h4⟩
  · cases h0
  · injection hv with e1 _ e3
    injection e1 with e1
    subst e1 e3
    rw [Addr.add_mid]
    have hlt : n * size ≤ c * size := Nat.mul_le_mul_right _ h1
    refine ⟨⟨by rw [List.length_set]; exact h.1, .inr ⟨g, o, c, cur.setIfInBounds (o + j) u, rfl, hb.put (o + j) u, h1, h2, by rw [Array.size_setIfInBounds]; exact h3, ?_⟩⟩, hb.free (o + j), rfl⟩
    rw [← h4, Array.toList_setIfInBounds]
    apply List.ext_getElem?
    intro i
    rw [List.getElem?_take, List.getElem?_drop, List.getElem?_set, List.getElem?_set, List.getElem?_take, List.getElem?_drop, List.length_take, List.length_drop, Array.length_toList]
    by_cases hij : j = i
    · subst hij
      simp only [hj, if_true]
      rw [if_pos (by omega), if_pos (by omega)]
    · have hne : ¬ (o + j = o + i) := by omega
      simp only [hij, hne, if_false]
theorem Holds.rowPut {B : Nat} {w0 w : World} {Q : SP} {e : TypeId} {size n c : Nat} {ad : Addr} {xs : List Value} (h : Holds B w0 w (star (rowP e size (.slice (some ad) n c) n xs) Q)) (hQ : Stable Q) {j : Nat} (hj : j < n * size) (u : Value) :
    Holds B w0 (w.setCell (ad.add j) u) (star (rowP e size (.slice (some ad) n c) n (xs.set j u)) Q) :=
  h.did_left hQ fun F ⟨hr, hF⟩ => ⟨F, ⟨(Row.put1 hr hj u).1, hF⟩, (Keep.same F w).set (.inl ((hF _).2 (Row.put1 hr hj u).2.2)) u, fun k hk => .inl hk⟩
theorem rtV_set {R : List RTk} {i : Nat} {r r' : RTk} (h : R[i]? = some r) {j : Nat} (hj : j < 4) {u : Value} (hc : r'.cl = r.cl.set j u) : (rtV R).set (i * 4 + j) u = rtV (R.set i r') := by
  induction R generalizing i with
  | nil => simp at h
  | cons y l ih =>
    cases i with
    | zero =>
      simp at h; subst h
      show (y.cl ++ rtV l).set (0 * 4 + j) u = r'.cl ++ rtV l
      rw [hc, List.set_append_left _ _ (by simp; omega)]
      simp
    | succ i =>
      show (y.cl ++ rtV l).set ((i + 1) * 4 + j) u = y.cl ++ rtV (l.set i r')
      rw [List.set_append_right _ _ (by simp; omega), ← ih (by simpa using h)]
      congr 2
      simp; omega
/-- A cell of a task of the reference is set. -/
theorem ref_set {B : Nat} {w0 w : World} {Q : SP} {b : Nat} {ad : Addr} {c : Nat} {R : List RTk} {O : List RO} (h : Holds B w0 w (star (refP b (some ad) c R O) Q)) (hQ : Stable Q) {i : Nat} {r r' : RTk} (hR : R[i]? = some r) {j : Nat} (hj0 : 0 < j) (hj : j < 4) {u : Value} (hc : r'.cl = r.cl.set j u) (hI : rtI r' = rtI r) :
    w.frozen? ⟨(ad.add (i * 4)).block, (ad.add (i * 4)).off + j, none⟩ = false ∧ Holds B w0 (w.setCell ⟨(ad.add (i * 4)).block, (ad.add (i * 4)).off + j, none⟩ u) (star (refP b (some ad) c (R.set i r') O) Q) := by
  obtain ⟨Z, hZ, h1, back⟩ := ref_row h
  have hil := (List.getElem?_eq_some_iff.1 hR).1
  have hlt : i * 4 + j < R.length * 4 := by omega
  rw [← addLater ad (i * 4) j hj0]
  refine ⟨(Row.put1 h1.row hlt u).2.1, back _ _ _ (by rw [List.length_set]) ?_⟩
  have h2 := Holds.rowPut h1 ((rinP_stable _).star (hZ.star hQ)) hlt u
  rw [rtV_set hR hj hc] at h2
  obtain ⟨Y, hY, e1, e2⟩ := rinP_take R i r hR
  unfold rRow
  rw [List.length_set, e2, hI, ← e1]
  exact h2
end Go.Proofs.Ytmohpjkbhpgidaa.A
namespace Go.Proofs.Ytmohpjkbhpgidaa.A
open Go.RowKit Go.Proofs.Ytmohpjkbhpgidaa.U
set_option linter.unusedVariables false
set_option linter.unusedSimpArgs false
set_option maxRecDepth 100000
set_option maxHeartbeats 1600000

def freshR (k : Int) : OS := if k = 0 then .m false 0 [] else if k = 1 then .r [] false [] else if k = 2 then .g 0 [] else .o (-1) false []
def ObjPost (B : Nat) (w0 : World) (b : Nat) (A : Option Addr) (c : Nat) (R : List RTk) (O : List RO) (n : Int × Int) (Q : SP) (e : Ending) (w' : World) : Prop :=
  ∃ (O' : List RO) (j : Nat) (o : RO), e = .returned (.agg o.cl.toArray) ∧ O'[j]? = some o ∧ o.key = n ∧ (∀ (j' : Nat) (o' : RO), j' < j → O'[j']? = some o' → o'.key ≠ n) ∧ (O' = O ∨ (O' = O ++ [o] ∧ o.st = freshR n.1 ∧ ∀ o ∈ O, o.key ≠ n)) ∧ Holds B w0 w' (star (refP b A c R O') Q)
theorem rnew_0 (w : World) : OS.RP w.heap.size (.m false 0 []) (w.alloc (.cells #[.int .i64 (-1), .slice none 0 0] 62)) (fun k => k = w.heap.size) := q_new w 62 [.int .i64 (-1)]
theorem rnew_1 (w : World) : OS.RP w.heap.size (.r [] false []) (w.alloc (.cells #[.slice none 0 0, .bool false, .slice none 0 0] 29)) (fun k => k = w.heap.size) := rrP_new w
theorem rnew_2 (w : World) : OS.RP w.heap.size (.g 0 []) (w.alloc (.cells #[.int .i64 0, .slice none 0 0] 87)) (fun k => k = w.heap.size) := q_new w 87 [.int .i64 0]
theorem rnew_3 (w : World) : OS.RP w.heap.size (.o (-1) false []) (w.alloc (.cells #[.int .i64 (-1), .bool false, .slice none 0 0] 81)) (fun k => k = w.heap.size) := q_new w 81 [.int .i64 (-1), .bool false]
section
variable {B : Nat} {w0 w : World} {Q : SP} {b : Nat} {A : Option Addr} {c : Nat} {R : List RTk} {O : List RO}
theorem object94_0 (h : Holds B w0 w (star (refP b A c R O) Q)) (hQ : Stable Q) (hO : O.length ≤ 1000000) (n : Int) :
    Calls Try.prog 94 #[.pointer (some ⟨b, 0, none⟩), .int .i64 0, .int .i64 n] w (ObjPost B w0 b A c R O (0, n) Q) := by
  have hu := Try.underlying155
  have hu2 := Try.underlying160
  have hi6 : (Try.prog.info? 160).map (·.size) = some 6 := by kernel_rfl
  have HQ := Lib.hid hQ
  have HO := Lib.hid hO
  have SQ := Lib.hid (show Stable (star (refP b A c R O) Q) from (refP_stable _ _ _ _ _).star hQ)
  have H1 := Lib.hid (h.newBlk SQ.out 160 #[.int .i64 0, .int .i64 0, .pointer none, .pointer none, .pointer none, .pointer none])
  clear h hQ hO
  go_enter Try.func94, Try.ntmps94
  go_wp2_with fail
  go_loopw [7] (fun iv wr => ∃ k : Nat, k ≤ O.length ∧ iv = .int .i64 k ∧ (∀ (j : Nat) (o : RO), j < k → O[j]? = some o → o.key ≠ (0, n)) ∧ Holds B w0 wr (star (blkP w.heap.size 160 #[.int .i64 0, .int .i64 0, .pointer none, .pointer none, .pointer none, .pointer none]) (star (refP b A c R O) Q))) (fun iv _ => O.length - (intOf iv).toNat)
  case atStart => exact ⟨0, by omega, by simp, fun j o hj => by omega, H1.out⟩
  case round =>
    obtain ⟨k, hk, rfl, hall, hh⟩ := hrel
    have HH := Lib.hid hh
    have HA := Lib.hid hall
    have h2 : Holds B w0 wr (star (refP b A c R O) (star (blkP w.heap.size 160 #[.int .i64 0, .int .i64 0, .pointer none, .pointer none, .pointer none, .pointer none]) Q)) := hh.perm (by ac_rfl)
    obtain ⟨A', c', h3⟩ := ref_open h2
    have H3 := Lib.hid h3
    have b1 := (blk_at' h3).cell 1
    have hOl := HO.out
    clear hh hall h2 h3
    by_cases hlt : k < O.length
    · have HLT := Lib.hid hlt
      have h4 : Holds B w0 wr (star (oRow O A' c') (star (rBlk b R O A c A' c') (star (rRow R A c) (star (rinP R) (star (robP O) (star (blkP w.heap.size 160 #[.int .i64 0, .int .i64 0, .pointer none, .pointer none, .pointer none, .pointer none]) Q)))))) := H3.out.perm (by ac_rfl)
      obtain ⟨ad, o, hA, ho, hc⟩ := ro_at h4.row.src hlt
      subst hA
      have HOO := Lib.hid ho
      have LD := Lib.hid hc
      have e0 : wr.cell? (ad.add (k * 6)) = some (.int .i64 (kindR o.st)) := by have := hc 0 _ rfl; rw [U.addAdd, Nat.add_zero] at this; exact this
      have e1 : wr.cell? ⟨(ad.add (k * 6)).block, (ad.add (k * 6)).off + 1, none⟩ = some (.int .i64 o.num) := by have := hc 1 _ rfl; rw [U.addAdd, addLater ad (k * 6) 1 (by omega)] at this; exact this
      clear h4 hc ho
      rcases Decidable.em (kindR o.st = 0) with hk1 | hk1
      · have d1 : (kindR o.st == 0) = true := by simp [hk1]
        rcases Decidable.em (o.num = n) with hn | hn
        · have d2 : (o.num == n) = true := by simp [hn]
          have KEY := Lib.hid (show o.key = (0, n) by rw [← hk1, ← hn])
          have BZ := Lib.hid (blk_at' HH.out)
          clear hk1 hn
          go_wp2_with (first | (refine wpList_load_at 160 (.tmp 45) (by rfl) (by rfl) (ad.add (k * 6)) (by rfl) o.cl _ LD.out hu2 rfl hi6 ?_) | (refine wpList_store_row (by rfl) 160 (.tmp 6) (.tmp 46) (by rfl) w.heap.size o.cl.toArray (by rfl) (by rfl) 160 #[.int .i64 0, .int .i64 0, .pointer none, .pointer none, .pointer none, .pointer none] BZ.out hi6 rfl (by simp [Value.oneCell']) ?_))
          refine bodyPost_ret (v := .agg o.cl.toArray) (results_cell_row (by rfl) _ _ w.heap.size 160 o.cl.toArray (0, 0) _ (by rfl) (BZ.out.setRow o.cl.toArray) hu2 rfl hi6) rfl ?_
          exact ⟨O, k, o, rfl, HOO.out, KEY.out, fun j' o' hj ho' => HA.out j' o' hj ho', .inl rfl, (held_row HH.out SQ.out o.cl.toArray).drop⟩
        · have d2 : (o.num == n) = false := by simp [hn]
          have NK := Lib.hid (show o.key ≠ (0, n) from fun e => hn (Prod.mk.inj e).2)
          clear hk1 hn
          go_wp2_with fail
          go_roundw
          case rel => exact ⟨k + 1, HLT.out, by go_num, fun j o' hj ho' => by
            rcases (show j < k ∨ j = k by omega) with h | rfl
            · exact HA.out j o' h ho'
            · rw [HOO.out] at ho'; injection ho' with ho'; rw [← ho']; exact NK.out, HH.out.kept ((blkP_stable _ _ _).star SQ.out) kn⟩
          case measure => have := HLT.out; simp [intOf]; omega
      · have d1 : (kindR o.st == 0) = false := by simp [hk1]
        have NK := Lib.hid (show o.key ≠ (0, n) from fun e => hk1 (Prod.mk.inj e).1)
        clear hk1
        go_wp2_with fail
        go_roundw
        case rel => exact ⟨k + 1, HLT.out, by go_num, fun j o' hj ho' => by
          rcases (show j < k ∨ j = k by omega) with h | rfl
          · exact HA.out j o' h ho'
          · rw [HOO.out] at ho'; injection ho' with ho'; rw [← ho']; exact NK.out, HH.out.kept ((blkP_stable _ _ _).star SQ.out) kn⟩
        case measure => have := HLT.out; simp [intOf]; omega
    · obtain rfl : k = O.length := by omega
      have NF := Lib.hid (show ∀ o ∈ O, o.key ≠ (0, n) from fun o ho => by
        obtain ⟨i, hi, he⟩ := List.getElem_of_mem ho
        exact HA.out i o hi (by rw [List.getElem?_eq_getElem hi, he]))
      have S3 := Lib.hid (show Stable (star (rBlk b R O A c A' c') (star (rRow R A c) (star (oRow O A' c') (star (rinP R) (star (robP O) (star (blkP w.heap.size 160 #[.int .i64 0, .int .i64 0, .pointer none, .pointer none, .pointer none, .pointer none]) Q)))))) from (blkP_stable _ _ _).star ((rowP_stable _ _ _ _ _).star ((rowP_stable _ _ _ _ _).star ((rinP_stable _).star ((robP_stable _).star ((blkP_stable _ _ _).star HQ.out))))))
      have n1 := H3.out.newBlk S3.out 160 #[.int .i64 0, .int .i64 n, .pointer (some ⟨wr.heap.size + 1, 0, none⟩), .pointer none, .pointer none, .pointer none]
      have n2 := n1.more ((blkP_stable _ _ _).star S3.out) (F := fun k => k = (wr.alloc (.cells #[.int .i64 0, .int .i64 n, .pointer (some ⟨wr.heap.size + 1, 0, none⟩), .pointer none, .pointer none, .pointer none] 160)).heap.size) (rnew_0 (wr.alloc (.cells #[.int .i64 0, .int .i64 n, .pointer (some ⟨wr.heap.size + 1, 0, none⟩), .pointer none, .pointer none, .pointer none] 160))) ((Keep.same _ _).alloc _) (fun k hk => by omega)
      rw [size_alloc] at n2
      have n5 : Holds B w0 ((wr.alloc (.cells #[.int .i64 0, .int .i64 n, .pointer (some ⟨wr.heap.size + 1, 0, none⟩), .pointer none, .pointer none, .pointer none] 160)).alloc (.cells #[.int .i64 (-1), .slice none 0 0] 62)) (star (blkP wr.heap.size 160 #[.int .i64 0, .int .i64 n, .pointer (some ⟨wr.heap.size + 1, 0, none⟩), .pointer none, .pointer none, .pointer none]) (star (OS.RP (wr.heap.size + 1) (.m false 0 [])) (star (rBlk b R O A c A' c') (star (rRow R A c) (star (oRow O A' c') (star (rinP R) (star (robP O) (star (blkP w.heap.size 160 #[.int .i64 0, .int .i64 0, .pointer none, .pointer none, .pointer none, .pointer none]) Q)))))))) := n2.perm (by ac_rfl)
      have B5 := blk_at' n5
      have hH : (fun w' => w'.cell? ⟨wr.heap.size, 0, none⟩ = some (.int .i64 0) ∧ w'.cell? ⟨wr.heap.size, 1, none⟩ = some (.int .i64 n) ∧ w'.cell? ⟨wr.heap.size, 2, none⟩ = some (.pointer (some ⟨wr.heap.size + 1, 0, none⟩)) ∧ w'.cell? ⟨wr.heap.size, 3, none⟩ = some (.pointer none) ∧ w'.cell? ⟨wr.heap.size, 4, none⟩ = some (.pointer none) ∧ w'.cell? ⟨wr.heap.size, 5, none⟩ = some (.pointer none)) ((wr.alloc (.cells #[.int .i64 0, .int .i64 n, .pointer (some ⟨wr.heap.size + 1, 0, none⟩), .pointer none, .pointer none, .pointer none] 160)).alloc (.cells #[.int .i64 (-1), .slice none 0 0] 62)) := ⟨B5.cell 0, B5.cell 1, B5.cell 2, B5.cell 3, B5.cell 4, B5.cell 5⟩
      dsimp only at hH
      have HN := Lib.hid (show Holds B w0 ((wr.alloc (.cells #[.int .i64 0, .int .i64 n, .pointer (some ⟨wr.heap.size + 1, 0, none⟩), .pointer none, .pointer none, .pointer none] 160)).alloc (.cells #[.int .i64 (-1), .slice none 0 0] 62)) (star (oRow O A' c') (star (rBlk b R O A c A' c') (star (rRow R A c) (star (rinP R) (star (robP O) (star (blkP wr.heap.size 160 #[.int .i64 0, .int .i64 n, .pointer (some ⟨wr.heap.size + 1, 0, none⟩), .pointer none, .pointer none, .pointer none]) (star (OS.RP (wr.heap.size + 1) (.m false 0 [])) (star (blkP w.heap.size 160 #[.int .i64 0, .int .i64 0, .pointer none, .pointer none, .pointer none, .pointer none]) Q)))))))) from n5.perm (by ac_rfl))
      have BB := blk_at' (show Holds B w0 ((wr.alloc (.cells #[.int .i64 0, .int .i64 n, .pointer (some ⟨wr.heap.size + 1, 0, none⟩), .pointer none, .pointer none, .pointer none] 160)).alloc (.cells #[.int .i64 (-1), .slice none 0 0] 62)) (star (rBlk b R O A c A' c') (star (oRow O A' c') (star (rRow R A c) (star (rinP R) (star (robP O) (star (blkP wr.heap.size 160 #[.int .i64 0, .int .i64 n, .pointer (some ⟨wr.heap.size + 1, 0, none⟩), .pointer none, .pointer none, .pointer none]) (star (OS.RP (wr.heap.size + 1) (.m false 0 [])) (star (blkP w.heap.size 160 #[.int .i64 0, .int .i64 0, .pointer none, .pointer none, .pointer none, .pointer none]) Q)))))))) from n5.perm (by ac_rfl))
      have bb1 := BB.cell 1
      have bb2 := (BB.alloc (.cells #[.int .i64 0, .int .i64 n, .pointer (some ⟨wr.heap.size + 1, 0, none⟩), .pointer none, .pointer none, .pointer none] 160)).cell 1
      obtain ⟨WX, hWX⟩ : ∃ WX, (wr.alloc (.cells #[.int .i64 0, .int .i64 n, .pointer (some ⟨wr.heap.size + 1, 0, none⟩), .pointer none, .pointer none, .pointer none] 160)).alloc (.cells #[.int .i64 (-1), .slice none 0 0] 62) = WX := ⟨_, rfl⟩
      rw [hWX] at hH HN bb1 bb2
      have RW := Lib.hid (fun (X' : World) (hX : Keep Nothing WX X') => (HN.out.kept ((rowP_stable _ _ _ _ _).star ((blkP_stable _ _ _).star ((rowP_stable _ _ _ _ _).star ((rinP_stable _).star ((robP_stable _).star ((blkP_stable _ _ _).star ((OS.RP_stable _ _).star ((blkP_stable _ _ _).star HQ.out)))))))) hX).row)
      have SRC := Lib.hid (show U.Src (WX.alloc (.cells #[.int .i64 0, .int .i64 n, .pointer (some ⟨wr.heap.size + 1, 0, none⟩), .pointer none, .pointer none, .pointer none] 160)) (some ⟨WX.heap.size, 0, none⟩) 6 1 [.int .i64 0, .int .i64 n, .pointer (some ⟨wr.heap.size + 1, 0, none⟩), .pointer none, .pointer none, .pointer none] from U.Src.fresh WX #[.int .i64 0, .int .i64 n, .pointer (some ⟨wr.heap.size + 1, 0, none⟩), .pointer none, .pointer none, .pointer none] 160 6 1 rfl)
      have HWX := Lib.hid hWX
      clear n1 n2 n5 B5 BB hWX hk hlt
      go_wp2_with fail
      refine (smnew_calls _).mono ?_
      rintro e wm ⟨rfl, rfl⟩
      go_wp2_with fail
      rw [HWX.out]
      refine wp_region_noPanic ?_
      refine wp_region_held_drew (S := (fun w' => w'.cell? ⟨wr.heap.size, 0, none⟩ = some (.int .i64 0) ∧ w'.cell? ⟨wr.heap.size, 1, none⟩ = some (.int .i64 n) ∧ w'.cell? ⟨wr.heap.size, 2, none⟩ = some (.pointer (some ⟨wr.heap.size + 1, 0, none⟩)) ∧ w'.cell? ⟨wr.heap.size, 3, none⟩ = some (.pointer none) ∧ w'.cell? ⟨wr.heap.size, 4, none⟩ = some (.pointer none) ∧ w'.cell? ⟨wr.heap.size, 5, none⟩ = some (.pointer none))) (by kernel_rfl) hH (fun hHeld => ?_)
      refine tk 0 ?_
      (try simp only [pn])
      refine tk 1 ?_
      (try simp only [pn])
      refine tk 2 ?_
      (try simp only [pn])
      refine tk 3 ?_
      (try simp only [pn])
      refine tk 5 ?_
      (try simp only [pn])
      refine wpAnyH_ready (rs := [4, 6]) (by kernel_rfl) (by simp) ?_
      refine AllReadyH.cons (o := _) (by simp only [List.getElem?_toArray, List.getElem?_cons_succ, List.getElem?_cons_zero]; rfl) (fun K hK => ?_) (AllReadyH.cons (o := _) (by simp only [List.getElem?_toArray, List.getElem?_cons_succ, List.getElem?_cons_zero]; rfl) (fun K hK => ?_) AllReadyH.nil)
      · go_simp
        refine hK.out _ _ (hHeld) (fun hHeld => ?_)
        clear hK K
        (try simp only [pn])
        refine rd 6 (fun K hK => ?_)
        go_simp
        refine hK.out _ _ (⟨((Keep.same Nothing _).alloc _).cell hHeld.1 (fun h => h), ((Keep.same Nothing _).alloc _).cell hHeld.2.1 (fun h => h), ((Keep.same Nothing _).alloc _).cell hHeld.2.2.1 (fun h => h), ((Keep.same Nothing _).alloc _).cell hHeld.2.2.2.1 (fun h => h), ((Keep.same Nothing _).alloc _).cell hHeld.2.2.2.2.1 (fun h => h), ((Keep.same Nothing _).alloc _).cell hHeld.2.2.2.2.2 (fun h => h)⟩) (fun hHeld => ?_)
        clear hK K
        (try simp only [pn])
        refine rd 7 (fun K hK => ?_)
        refine step_app _ (by rfl) EOb (.tmp 71) (.tmp 73) (by rfl) (RW.out _ kn) (src_keep SRC.out kn) 1 (by simp [Act.eval, Act.put]) (by simp [Act.eval, Act.put]) (by simp [Value.oneCell']) (by have := HO.out; unfold maxLen; omega) (by have := HO.out; omega) ?_
        intro A9 c9 w9 hr9 hg9 hl9
        have N7 := Holds.grew (HN.out.kept ((rowP_stable _ _ _ _ _).star ((blkP_stable _ _ _).star ((rowP_stable _ _ _ _ _).star ((rinP_stable _).star ((robP_stable _).star ((blkP_stable _ _ _).star ((OS.RP_stable _ _).star ((blkP_stable _ _ _).star HQ.out)))))))) kn) ((blkP_stable _ _ _).star ((rowP_stable _ _ _ _ _).star ((rinP_stable _).star ((robP_stable _).star ((blkP_stable _ _ _).star ((OS.RP_stable _ _).star ((blkP_stable _ _ _).star HQ.out))))))) hr9 hg9 hl9
        have N8 : Holds B w0 w9 (star (rBlk b R O A c A' c') (star (rowP 160 6 (.slice A9 (O.length + 1) c9) (O.length + 1) (roV O ++ [.int .i64 0, .int .i64 n, .pointer (some ⟨wr.heap.size + 1, 0, none⟩), .pointer none, .pointer none, .pointer none])) (star (rRow R A c) (star (rinP R) (star (robP O) (star (blkP wr.heap.size 160 #[.int .i64 0, .int .i64 n, .pointer (some ⟨wr.heap.size + 1, 0, none⟩), .pointer none, .pointer none, .pointer none]) (star (OS.RP (wr.heap.size + 1) (.m false 0 [])) (star (blkP w.heap.size 160 #[.int .i64 0, .int .i64 0, .pointer none, .pointer none, .pointer none, .pointer none]) Q)))))))) := N7.perm (by ac_rfl)
        have a9 := (blk_at' N8).cell 1
        have f9 := (blk_at' N8).free 1
        have N9 := N8.setBlk ((rowP_stable _ _ _ _ _).star ((rowP_stable _ _ _ _ _).star ((rinP_stable _).star ((robP_stable _).star ((blkP_stable _ _ _).star ((OS.RP_stable _ _).star ((blkP_stable _ _ _).star HQ.out))))))) 1 (.slice A9 (O.length + 1) c9)
        have B9 := blk_at' (show Holds B w0 w9 (star (blkP wr.heap.size 160 #[.int .i64 0, .int .i64 n, .pointer (some ⟨wr.heap.size + 1, 0, none⟩), .pointer none, .pointer none, .pointer none]) (star (rBlk b R O A c A' c') (star (rowP 160 6 (.slice A9 (O.length + 1) c9) (O.length + 1) (roV O ++ [.int .i64 0, .int .i64 n, .pointer (some ⟨wr.heap.size + 1, 0, none⟩), .pointer none, .pointer none, .pointer none])) (star (rRow R A c) (star (rinP R) (star (robP O) (star (OS.RP (wr.heap.size + 1) (.m false 0 [])) (star (blkP w.heap.size 160 #[.int .i64 0, .int .i64 0, .pointer none, .pointer none, .pointer none, .pointer none]) Q)))))))) from N7.perm (by ac_rfl))
        have k9 : (fun w' => w'.cell? ⟨wr.heap.size, 0, none⟩ = some (.int .i64 0) ∧ w'.cell? ⟨wr.heap.size, 1, none⟩ = some (.int .i64 n) ∧ w'.cell? ⟨wr.heap.size, 2, none⟩ = some (.pointer (some ⟨wr.heap.size + 1, 0, none⟩)) ∧ w'.cell? ⟨wr.heap.size, 3, none⟩ = some (.pointer none) ∧ w'.cell? ⟨wr.heap.size, 4, none⟩ = some (.pointer none) ∧ w'.cell? ⟨wr.heap.size, 5, none⟩ = some (.pointer none)) w9 := ⟨B9.cell 0, B9.cell 1, B9.cell 2, B9.cell 3, B9.cell 4, B9.cell 5⟩
        have N10 : Holds B w0 (w9.setCell ⟨b, 1, none⟩ (.slice A9 (O.length + 1) c9)) (star (blkP w.heap.size 160 #[.int .i64 0, .int .i64 0, .pointer none, .pointer none, .pointer none, .pointer none]) (star (blkP b 155 #[.slice A R.length c, (.slice A9 (O.length + 1) c9)]) (star (rowP 160 6 (.slice A9 (O.length + 1) c9) (O.length + 1) (roV O ++ [.int .i64 0, .int .i64 n, .pointer (some ⟨wr.heap.size + 1, 0, none⟩), .pointer none, .pointer none, .pointer none])) (star (rRow R A c) (star (rinP R) (star (robP O) (star (blkP wr.heap.size 160 #[.int .i64 0, .int .i64 n, .pointer (some ⟨wr.heap.size + 1, 0, none⟩), .pointer none, .pointer none, .pointer none]) (star (OS.RP (wr.heap.size + 1) (.m false 0 [])) Q)))))))) := N9.perm (by
          show star (blkP b 155 #[.slice A R.length c, (.slice A9 (O.length + 1) c9)]) _ = _
          ac_rfl)
        have B10 := blk_at' (show Holds B w0 (w9.setCell ⟨b, 1, none⟩ (.slice A9 (O.length + 1) c9)) (star (blkP wr.heap.size 160 #[.int .i64 0, .int .i64 n, .pointer (some ⟨wr.heap.size + 1, 0, none⟩), .pointer none, .pointer none, .pointer none]) (star (blkP w.heap.size 160 #[.int .i64 0, .int .i64 0, .pointer none, .pointer none, .pointer none, .pointer none]) (star (blkP b 155 #[.slice A R.length c, (.slice A9 (O.length + 1) c9)]) (star (rowP 160 6 (.slice A9 (O.length + 1) c9) (O.length + 1) (roV O ++ [.int .i64 0, .int .i64 n, .pointer (some ⟨wr.heap.size + 1, 0, none⟩), .pointer none, .pointer none, .pointer none])) (star (rRow R A c) (star (rinP R) (star (robP O) (star (OS.RP (wr.heap.size + 1) (.m false 0 [])) Q)))))))) from N10.perm (by ac_rfl))
        have k10 : (fun w' => w'.cell? ⟨wr.heap.size, 0, none⟩ = some (.int .i64 0) ∧ w'.cell? ⟨wr.heap.size, 1, none⟩ = some (.int .i64 n) ∧ w'.cell? ⟨wr.heap.size, 2, none⟩ = some (.pointer (some ⟨wr.heap.size + 1, 0, none⟩)) ∧ w'.cell? ⟨wr.heap.size, 3, none⟩ = some (.pointer none) ∧ w'.cell? ⟨wr.heap.size, 4, none⟩ = some (.pointer none) ∧ w'.cell? ⟨wr.heap.size, 5, none⟩ = some (.pointer none)) (w9.setCell ⟨b, 1, none⟩ (.slice A9 (O.length + 1) c9)) := ⟨B10.cell 0, B10.cell 1, B10.cell 2, B10.cell 3, B10.cell 4, B10.cell 5⟩
        have H10 := Lib.hid N10
        have BZ := Lib.hid (blk_at' N10)
        clear N7 N8 N9 N10 B9 B10 hr9 hg9 hl9
        refine hK.out _ _ k9 (fun hHeld => ?_)
        clear hK K k9
        (try simp only [pn])
        refine tk 8 ?_
        (try simp only [pn])
        refine tk 9 ?_
        (try simp only [pn])
        refine rd 10 (fun K hK => ?_)
        go_simp
        refine hK.out _ _ (k10) (fun hHeld => ?_)
        clear hK K
        (try simp only [pn])
        refine wpAnyH_done (by kernel_rfl) ?_ _
        refine NoPanic.normal ?_
        clear a9 f9
        obtain ⟨x0, x1, x2, x3, x4, x5⟩ := k10
        go_wp2_with (refine wpList_store_row (by rfl) 160 (.tmp 6) (.tmp 77) (by rfl) w.heap.size #[.int .i64 0, .int .i64 n, .pointer (some ⟨wr.heap.size + 1, 0, none⟩), .pointer none, .pointer none, .pointer none] (by rfl) (by rfl) 160 #[.int .i64 0, .int .i64 0, .pointer none, .pointer none, .pointer none, .pointer none] BZ.out hi6 rfl (by simp [Value.oneCell']) ?_)
        go_wp2_with fail
        refine bodyPost_ret (v := .agg #[.int .i64 0, .int .i64 n, .pointer (some ⟨wr.heap.size + 1, 0, none⟩), .pointer none, .pointer none, .pointer none]) (results_cell_row (by rfl) _ _ w.heap.size 160 #[.int .i64 0, .int .i64 n, .pointer (some ⟨wr.heap.size + 1, 0, none⟩), .pointer none, .pointer none, .pointer none] (0, 0) _ (by rfl) (BZ.out.setRow #[.int .i64 0, .int .i64 n, .pointer (some ⟨wr.heap.size + 1, 0, none⟩), .pointer none, .pointer none, .pointer none]) hu2 rfl hi6) rfl ?_
        have h11 := (held_row H10.out ((blkP_stable _ _ _).star ((rowP_stable _ _ _ _ _).star ((rowP_stable _ _ _ _ _).star ((rinP_stable _).star ((robP_stable _).star ((blkP_stable _ _ _).star ((OS.RP_stable _ _).star HQ.out))))))) #[.int .i64 0, .int .i64 n, .pointer (some ⟨wr.heap.size + 1, 0, none⟩), .pointer none, .pointer none, .pointer none]).drop
        have h12 : Holds B w0 _ (star (blkP wr.heap.size 160 #[.int .i64 0, .int .i64 n, .pointer (some ⟨wr.heap.size + 1, 0, none⟩), .pointer none, .pointer none, .pointer none]) (star (blkP b 155 #[.slice A R.length c, (.slice A9 (O.length + 1) c9)]) (star (rRow R A c) (star (rowP 160 6 (.slice A9 (O.length + 1) c9) (O.length + 1) (roV O ++ [.int .i64 0, .int .i64 n, .pointer (some ⟨wr.heap.size + 1, 0, none⟩), .pointer none, .pointer none, .pointer none])) (star (rinP R) (star (star (OS.RP (wr.heap.size + 1) (.m false 0 [])) (robP O)) Q)))))) := h11.perm (by ac_rfl)
        refine ⟨O ++ [(⟨n, wr.heap.size + 1, .m false 0 []⟩ : RO)], O.length, (⟨n, wr.heap.size + 1, .m false 0 []⟩ : RO), rfl, by simp, rfl, fun j' o' hj ho' => NF.out o' (List.mem_of_getElem? (by rw [List.getElem?_append_left hj] at ho'; exact ho')), .inr ⟨rfl, rfl, NF.out⟩, ?_⟩
        have e1 : (O ++ [(⟨n, wr.heap.size + 1, .m false 0 []⟩ : RO)]).length = O.length + 1 := by simp
        have e2 : roV (O ++ [(⟨n, wr.heap.size + 1, .m false 0 []⟩ : RO)]) = roV O ++ [.int .i64 0, .int .i64 n, .pointer (some ⟨wr.heap.size + 1, 0, none⟩), .pointer none, .pointer none, .pointer none] := by rw [roV_app]; rfl
        refine ref_close (A' := A9) (c' := c9) ?_
        unfold rBlk oRow
        rw [e1, e2, robP_push]
        exact h12.drop
      · go_simp
        refine hK.out _ _ (⟨((Keep.same Nothing _).alloc _).cell hHeld.1 (fun h => h), ((Keep.same Nothing _).alloc _).cell hHeld.2.1 (fun h => h), ((Keep.same Nothing _).alloc _).cell hHeld.2.2.1 (fun h => h), ((Keep.same Nothing _).alloc _).cell hHeld.2.2.2.1 (fun h => h), ((Keep.same Nothing _).alloc _).cell hHeld.2.2.2.2.1 (fun h => h), ((Keep.same Nothing _).alloc _).cell hHeld.2.2.2.2.2 (fun h => h)⟩) (fun hHeld => ?_)
        clear hK K
        (try simp only [pn])
        refine rd 4 (fun K hK => ?_)
        go_simp
        refine hK.out _ _ (hHeld) (fun hHeld => ?_)
        clear hK K
        (try simp only [pn])
        refine rd 7 (fun K hK => ?_)
        refine step_app _ (by rfl) EOb (.tmp 71) (.tmp 73) (by rfl) (RW.out _ kn) (src_keep SRC.out kn) 1 (by simp [Act.eval, Act.put]) (by simp [Act.eval, Act.put]) (by simp [Value.oneCell']) (by have := HO.out; unfold maxLen; omega) (by have := HO.out; omega) ?_
        intro A9 c9 w9 hr9 hg9 hl9
        have N7 := Holds.grew (HN.out.kept ((rowP_stable _ _ _ _ _).star ((blkP_stable _ _ _).star ((rowP_stable _ _ _ _ _).star ((rinP_stable _).star ((robP_stable _).star ((blkP_stable _ _ _).star ((OS.RP_stable _ _).star ((blkP_stable _ _ _).star HQ.out)))))))) kn) ((blkP_stable _ _ _).star ((rowP_stable _ _ _ _ _).star ((rinP_stable _).star ((robP_stable _).star ((blkP_stable _ _ _).star ((OS.RP_stable _ _).star ((blkP_stable _ _ _).star HQ.out))))))) hr9 hg9 hl9
        have N8 : Holds B w0 w9 (star (rBlk b R O A c A' c') (star (rowP 160 6 (.slice A9 (O.length + 1) c9) (O.length + 1) (roV O ++ [.int .i64 0, .int .i64 n, .pointer (some ⟨wr.heap.size + 1, 0, none⟩), .pointer none, .pointer none, .pointer none])) (star (rRow R A c) (star (rinP R) (star (robP O) (star (blkP wr.heap.size 160 #[.int .i64 0, .int .i64 n, .pointer (some ⟨wr.heap.size + 1, 0, none⟩), .pointer none, .pointer none, .pointer none]) (star (OS.RP (wr.heap.size + 1) (.m false 0 [])) (star (blkP w.heap.size 160 #[.int .i64 0, .int .i64 0, .pointer none, .pointer none, .pointer none, .pointer none]) Q)))))))) := N7.perm (by ac_rfl)
        have a9 := (blk_at' N8).cell 1
        have f9 := (blk_at' N8).free 1
        have N9 := N8.setBlk ((rowP_stable _ _ _ _ _).star ((rowP_stable _ _ _ _ _).star ((rinP_stable _).star ((robP_stable _).star ((blkP_stable _ _ _).star ((OS.RP_stable _ _).star ((blkP_stable _ _ _).star HQ.out))))))) 1 (.slice A9 (O.length + 1) c9)
        have B9 := blk_at' (show Holds B w0 w9 (star (blkP wr.heap.size 160 #[.int .i64 0, .int .i64 n, .pointer (some ⟨wr.heap.size + 1, 0, none⟩), .pointer none, .pointer none, .pointer none]) (star (rBlk b R O A c A' c') (star (rowP 160 6 (.slice A9 (O.length + 1) c9) (O.length + 1) (roV O ++ [.int .i64 0, .int .i64 n, .pointer (some ⟨wr.heap.size + 1, 0, none⟩), .pointer none, .pointer none, .pointer none])) (star (rRow R A c) (star (rinP R) (star (robP O) (star (OS.RP (wr.heap.size + 1) (.m false 0 [])) (star (blkP w.heap.size 160 #[.int .i64 0, .int .i64 0, .pointer none, .pointer none, .pointer none, .pointer none]) Q)))))))) from N7.perm (by ac_rfl))
        have k9 : (fun w' => w'.cell? ⟨wr.heap.size, 0, none⟩ = some (.int .i64 0) ∧ w'.cell? ⟨wr.heap.size, 1, none⟩ = some (.int .i64 n) ∧ w'.cell? ⟨wr.heap.size, 2, none⟩ = some (.pointer (some ⟨wr.heap.size + 1, 0, none⟩)) ∧ w'.cell? ⟨wr.heap.size, 3, none⟩ = some (.pointer none) ∧ w'.cell? ⟨wr.heap.size, 4, none⟩ = some (.pointer none) ∧ w'.cell? ⟨wr.heap.size, 5, none⟩ = some (.pointer none)) w9 := ⟨B9.cell 0, B9.cell 1, B9.cell 2, B9.cell 3, B9.cell 4, B9.cell 5⟩
        have N10 : Holds B w0 (w9.setCell ⟨b, 1, none⟩ (.slice A9 (O.length + 1) c9)) (star (blkP w.heap.size 160 #[.int .i64 0, .int .i64 0, .pointer none, .pointer none, .pointer none, .pointer none]) (star (blkP b 155 #[.slice A R.length c, (.slice A9 (O.length + 1) c9)]) (star (rowP 160 6 (.slice A9 (O.length + 1) c9) (O.length + 1) (roV O ++ [.int .i64 0, .int .i64 n, .pointer (some ⟨wr.heap.size + 1, 0, none⟩), .pointer none, .pointer none, .pointer none])) (star (rRow R A c) (star (rinP R) (star (robP O) (star (blkP wr.heap.size 160 #[.int .i64 0, .int .i64 n, .pointer (some ⟨wr.heap.size + 1, 0, none⟩), .pointer none, .pointer none, .pointer none]) (star (OS.RP (wr.heap.size + 1) (.m false 0 [])) Q)))))))) := N9.perm (by
          show star (blkP b 155 #[.slice A R.length c, (.slice A9 (O.length + 1) c9)]) _ = _
          ac_rfl)
        have B10 := blk_at' (show Holds B w0 (w9.setCell ⟨b, 1, none⟩ (.slice A9 (O.length + 1) c9)) (star (blkP wr.heap.size 160 #[.int .i64 0, .int .i64 n, .pointer (some ⟨wr.heap.size + 1, 0, none⟩), .pointer none, .pointer none, .pointer none]) (star (blkP w.heap.size 160 #[.int .i64 0, .int .i64 0, .pointer none, .pointer none, .pointer none, .pointer none]) (star (blkP b 155 #[.slice A R.length c, (.slice A9 (O.length + 1) c9)]) (star (rowP 160 6 (.slice A9 (O.length + 1) c9) (O.length + 1) (roV O ++ [.int .i64 0, .int .i64 n, .pointer (some ⟨wr.heap.size + 1, 0, none⟩), .pointer none, .pointer none, .pointer none])) (star (rRow R A c) (star (rinP R) (star (robP O) (star (OS.RP (wr.heap.size + 1) (.m false 0 [])) Q)))))))) from N10.perm (by ac_rfl))
        have k10 : (fun w' => w'.cell? ⟨wr.heap.size, 0, none⟩ = some (.int .i64 0) ∧ w'.cell? ⟨wr.heap.size, 1, none⟩ = some (.int .i64 n) ∧ w'.cell? ⟨wr.heap.size, 2, none⟩ = some (.pointer (some ⟨wr.heap.size + 1, 0, none⟩)) ∧ w'.cell? ⟨wr.heap.size, 3, none⟩ = some (.pointer none) ∧ w'.cell? ⟨wr.heap.size, 4, none⟩ = some (.pointer none) ∧ w'.cell? ⟨wr.heap.size, 5, none⟩ = some (.pointer none)) (w9.setCell ⟨b, 1, none⟩ (.slice A9 (O.length + 1) c9)) := ⟨B10.cell 0, B10.cell 1, B10.cell 2, B10.cell 3, B10.cell 4, B10.cell 5⟩
        have H10 := Lib.hid N10
        have BZ := Lib.hid (blk_at' N10)
        clear N7 N8 N9 N10 B9 B10 hr9 hg9 hl9
        refine hK.out _ _ k9 (fun hHeld => ?_)
        clear hK K k9
        (try simp only [pn])
        refine tk 8 ?_
        (try simp only [pn])
        refine tk 9 ?_
        (try simp only [pn])
        refine rd 10 (fun K hK => ?_)
        go_simp
        refine hK.out _ _ (k10) (fun hHeld => ?_)
        clear hK K
        (try simp only [pn])
        refine wpAnyH_done (by kernel_rfl) ?_ _
        refine NoPanic.normal ?_
        clear a9 f9
        obtain ⟨x0, x1, x2, x3, x4, x5⟩ := k10
        go_wp2_with (refine wpList_store_row (by rfl) 160 (.tmp 6) (.tmp 77) (by rfl) w.heap.size #[.int .i64 0, .int .i64 n, .pointer (some ⟨wr.heap.size + 1, 0, none⟩), .pointer none, .pointer none, .pointer none] (by rfl) (by rfl) 160 #[.int .i64 0, .int .i64 0, .pointer none, .pointer none, .pointer none, .pointer none] BZ.out hi6 rfl (by simp [Value.oneCell']) ?_)
        go_wp2_with fail
        refine bodyPost_ret (v := .agg #[.int .i64 0, .int .i64 n, .pointer (some ⟨wr.heap.size + 1, 0, none⟩), .pointer none, .pointer none, .pointer none]) (results_cell_row (by rfl) _ _ w.heap.size 160 #[.int .i64 0, .int .i64 n, .pointer (some ⟨wr.heap.size + 1, 0, none⟩), .pointer none, .pointer none, .pointer none] (0, 0) _ (by rfl) (BZ.out.setRow #[.int .i64 0, .int .i64 n, .pointer (some ⟨wr.heap.size + 1, 0, none⟩), .pointer none, .pointer none, .pointer none]) hu2 rfl hi6) rfl ?_
        have h11 := (held_row H10.out ((blkP_stable _ _ _).star ((rowP_stable _ _ _ _ _).star ((rowP_stable _ _ _ _ _).star ((rinP_stable _).star ((robP_stable _).star ((blkP_stable _ _ _).star ((OS.RP_stable _ _).star HQ.out))))))) #[.int .i64 0, .int .i64 n, .pointer (some ⟨wr.heap.size + 1, 0, none⟩), .pointer none, .pointer none, .pointer none]).drop
        have h12 : Holds B w0 _ (star (blkP wr.heap.size 160 #[.int .i64 0, .int .i64 n, .pointer (some ⟨wr.heap.size + 1, 0, none⟩), .pointer none, .pointer none, .pointer none]) (star (blkP b 155 #[.slice A R.length c, (.slice A9 (O.length + 1) c9)]) (star (rRow R A c) (star (rowP 160 6 (.slice A9 (O.length + 1) c9) (O.length + 1) (roV O ++ [.int .i64 0, .int .i64 n, .pointer (some ⟨wr.heap.size + 1, 0, none⟩), .pointer none, .pointer none, .pointer none])) (star (rinP R) (star (star (OS.RP (wr.heap.size + 1) (.m false 0 [])) (robP O)) Q)))))) := h11.perm (by ac_rfl)
        refine ⟨O ++ [(⟨n, wr.heap.size + 1, .m false 0 []⟩ : RO)], O.length, (⟨n, wr.heap.size + 1, .m false 0 []⟩ : RO), rfl, by simp, rfl, fun j' o' hj ho' => NF.out o' (List.mem_of_getElem? (by rw [List.getElem?_append_left hj] at ho'; exact ho')), .inr ⟨rfl, rfl, NF.out⟩, ?_⟩
        have e1 : (O ++ [(⟨n, wr.heap.size + 1, .m false 0 []⟩ : RO)]).length = O.length + 1 := by simp
        have e2 : roV (O ++ [(⟨n, wr.heap.size + 1, .m false 0 []⟩ : RO)]) = roV O ++ [.int .i64 0, .int .i64 n, .pointer (some ⟨wr.heap.size + 1, 0, none⟩), .pointer none, .pointer none, .pointer none] := by rw [roV_app]; rfl
        refine ref_close (A' := A9) (c' := c9) ?_
        unfold rBlk oRow
        rw [e1, e2, robP_push]
        exact h12.drop
theorem object94_1 (h : Holds B w0 w (star (refP b A c R O) Q)) (hQ : Stable Q) (hO : O.length ≤ 1000000) (n : Int) :
    Calls Try.prog 94 #[.pointer (some ⟨b, 0, none⟩), .int .i64 1, .int .i64 n] w (ObjPost B w0 b A c R O (1, n) Q) := by
  have hu := Try.underlying155
  have hu2 := Try.underlying160
  have hi6 : (Try.prog.info? 160).map (·.size) = some 6 := by kernel_rfl
  have HQ := Lib.hid hQ
  have HO := Lib.hid hO
  have SQ := Lib.hid (show Stable (star (refP b A c R O) Q) from (refP_stable _ _ _ _ _).star hQ)
  have H1 := Lib.hid (h.newBlk SQ.out 160 #[.int .i64 0, .int .i64 0, .pointer none, .pointer none, .pointer none, .pointer none])
  clear h hQ hO
  go_enter Try.func94, Try.ntmps94
  go_wp2_with fail
  go_loopw [7] (fun iv wr => ∃ k : Nat, k ≤ O.length ∧ iv = .int .i64 k ∧ (∀ (j : Nat) (o : RO), j < k → O[j]? = some o → o.key ≠ (1, n)) ∧ Holds B w0 wr (star (blkP w.heap.size 160 #[.int .i64 0, .int .i64 0, .pointer none, .pointer none, .pointer none, .pointer none]) (star (refP b A c R O) Q))) (fun iv _ => O.length - (intOf iv).toNat)
  case atStart => exact ⟨0, by omega, by simp, fun j o hj => by omega, H1.out⟩
  case round =>
    obtain ⟨k, hk, rfl, hall, hh⟩ := hrel
    have HH := Lib.hid hh
    have HA := Lib.hid hall
    have h2 : Holds B w0 wr (star (refP b A c R O) (star (blkP w.heap.size 160 #[.int .i64 0, .int .i64 0, .pointer none, .pointer none, .pointer none, .pointer none]) Q)) := hh.perm (by ac_rfl)
    obtain ⟨A', c', h3⟩ := ref_open h2
    have H3 := Lib.hid h3
    have b1 := (blk_at' h3).cell 1
    have hOl := HO.out
    clear hh hall h2 h3
    by_cases hlt : k < O.length
    · have HLT := Lib.hid hlt
      have h4 : Holds B w0 wr (star (oRow O A' c') (star (rBlk b R O A c A' c') (star (rRow R A c) (star (rinP R) (star (robP O) (star (blkP w.heap.size 160 #[.int .i64 0, .int .i64 0, .pointer none, .pointer none, .pointer none, .pointer none]) Q)))))) := H3.out.perm (by ac_rfl)
      obtain ⟨ad, o, hA, ho, hc⟩ := ro_at h4.row.src hlt
      subst hA
      have HOO := Lib.hid ho
      have LD := Lib.hid hc
      have e0 : wr.cell? (ad.add (k * 6)) = some (.int .i64 (kindR o.st)) := by have := hc 0 _ rfl; rw [U.addAdd, Nat.add_zero] at this; exact this
      have e1 : wr.cell? ⟨(ad.add (k * 6)).block, (ad.add (k * 6)).off + 1, none⟩ = some (.int .i64 o.num) := by have := hc 1 _ rfl; rw [U.addAdd, addLater ad (k * 6) 1 (by omega)] at this; exact this
      clear h4 hc ho
      rcases Decidable.em (kindR o.st = 1) with hk1 | hk1
      · have d1 : (kindR o.st == 1) = true := by simp [hk1]
        rcases Decidable.em (o.num = n) with hn | hn
        · have d2 : (o.num == n) = true := by simp [hn]
          have KEY := Lib.hid (show o.key = (1, n) by rw [← hk1, ← hn])
          have BZ := Lib.hid (blk_at' HH.out)
          clear hk1 hn
          go_wp2_with (first | (refine wpList_load_at 160 (.tmp 45) (by rfl) (by rfl) (ad.add (k * 6)) (by rfl) o.cl _ LD.out hu2 rfl hi6 ?_) | (refine wpList_store_row (by rfl) 160 (.tmp 6) (.tmp 46) (by rfl) w.heap.size o.cl.toArray (by rfl) (by rfl) 160 #[.int .i64 0, .int .i64 0, .pointer none, .pointer none, .pointer none, .pointer none] BZ.out hi6 rfl (by simp [Value.oneCell']) ?_))
          refine bodyPost_ret (v := .agg o.cl.toArray) (results_cell_row (by rfl) _ _ w.heap.size 160 o.cl.toArray (0, 0) _ (by rfl) (BZ.out.setRow o.cl.toArray) hu2 rfl hi6) rfl ?_
          exact ⟨O, k, o, rfl, HOO.out, KEY.out, fun j' o' hj ho' => HA.out j' o' hj ho', .inl rfl, (held_row HH.out SQ.out o.cl.toArray).drop⟩
        · have d2 : (o.num == n) = false := by simp [hn]
          have NK := Lib.hid (show o.key ≠ (1, n) from fun e => hn (Prod.mk.inj e).2)
          clear hk1 hn
          go_wp2_with fail
          go_roundw
          case rel => exact ⟨k + 1, HLT.out, by go_num, fun j o' hj ho' => by
            rcases (show j < k ∨ j = k by omega) with h | rfl
            · exact HA.out j o' h ho'
            · rw [HOO.out] at ho'; injection ho' with ho'; rw [← ho']; exact NK.out, HH.out.kept ((blkP_stable _ _ _).star SQ.out) kn⟩
          case measure => have := HLT.out; simp [intOf]; omega
      · have d1 : (kindR o.st == 1) = false := by simp [hk1]
        have NK := Lib.hid (show o.key ≠ (1, n) from fun e => hk1 (Prod.mk.inj e).1)
        clear hk1
        go_wp2_with fail
        go_roundw
        case rel => exact ⟨k + 1, HLT.out, by go_num, fun j o' hj ho' => by
          rcases (show j < k ∨ j = k by omega) with h | rfl
          · exact HA.out j o' h ho'
          · rw [HOO.out] at ho'; injection ho' with ho'; rw [← ho']; exact NK.out, HH.out.kept ((blkP_stable _ _ _).star SQ.out) kn⟩
        case measure => have := HLT.out; simp [intOf]; omega
    · obtain rfl : k = O.length := by omega
      have NF := Lib.hid (show ∀ o ∈ O, o.key ≠ (1, n) from fun o ho => by
        obtain ⟨i, hi, he⟩ := List.getElem_of_mem ho
        exact HA.out i o hi (by rw [List.getElem?_eq_getElem hi, he]))
      have S3 := Lib.hid (show Stable (star (rBlk b R O A c A' c') (star (rRow R A c) (star (oRow O A' c') (star (rinP R) (star (robP O) (star (blkP w.heap.size 160 #[.int .i64 0, .int .i64 0, .pointer none, .pointer none, .pointer none, .pointer none]) Q)))))) from (blkP_stable _ _ _).star ((rowP_stable _ _ _ _ _).star ((rowP_stable _ _ _ _ _).star ((rinP_stable _).star ((robP_stable _).star ((blkP_stable _ _ _).star HQ.out))))))
      have n1 := H3.out.newBlk S3.out 160 #[.int .i64 1, .int .i64 n, .pointer none, .pointer (some ⟨wr.heap.size + 1, 0, none⟩), .pointer none, .pointer none]
      have n2 := n1.more ((blkP_stable _ _ _).star S3.out) (F := fun k => k = (wr.alloc (.cells #[.int .i64 1, .int .i64 n, .pointer none, .pointer (some ⟨wr.heap.size + 1, 0, none⟩), .pointer none, .pointer none] 160)).heap.size) (rnew_1 (wr.alloc (.cells #[.int .i64 1, .int .i64 n, .pointer none, .pointer (some ⟨wr.heap.size + 1, 0, none⟩), .pointer none, .pointer none] 160))) ((Keep.same _ _).alloc _) (fun k hk => by omega)
      rw [size_alloc] at n2
      have n5 : Holds B w0 ((wr.alloc (.cells #[.int .i64 1, .int .i64 n, .pointer none, .pointer (some ⟨wr.heap.size + 1, 0, none⟩), .pointer none, .pointer none] 160)).alloc (.cells #[.slice none 0 0, .bool false, .slice none 0 0] 29)) (star (blkP wr.heap.size 160 #[.int .i64 1, .int .i64 n, .pointer none, .pointer (some ⟨wr.heap.size + 1, 0, none⟩), .pointer none, .pointer none]) (star (OS.RP (wr.heap.size + 1) (.r [] false [])) (star (rBlk b R O A c A' c') (star (rRow R A c) (star (oRow O A' c') (star (rinP R) (star (robP O) (star (blkP w.heap.size 160 #[.int .i64 0, .int .i64 0, .pointer none, .pointer none, .pointer none, .pointer none]) Q)))))))) := n2.perm (by ac_rfl)
      have B5 := blk_at' n5
      have hH : (fun w' => w'.cell? ⟨wr.heap.size, 0, none⟩ = some (.int .i64 1) ∧ w'.cell? ⟨wr.heap.size, 1, none⟩ = some (.int .i64 n) ∧ w'.cell? ⟨wr.heap.size, 2, none⟩ = some (.pointer none) ∧ w'.cell? ⟨wr.heap.size, 3, none⟩ = some (.pointer (some ⟨wr.heap.size + 1, 0, none⟩)) ∧ w'.cell? ⟨wr.heap.size, 4, none⟩ = some (.pointer none) ∧ w'.cell? ⟨wr.heap.size, 5, none⟩ = some (.pointer none)) ((wr.alloc (.cells #[.int .i64 1, .int .i64 n, .pointer none, .pointer (some ⟨wr.heap.size + 1, 0, none⟩), .pointer none, .pointer none] 160)).alloc (.cells #[.slice none 0 0, .bool false, .slice none 0 0] 29)) := ⟨B5.cell 0, B5.cell 1, B5.cell 2, B5.cell 3, B5.cell 4, B5.cell 5⟩
      dsimp only at hH
      have HN := Lib.hid (show Holds B w0 ((wr.alloc (.cells #[.int .i64 1, .int .i64 n, .pointer none, .pointer (some ⟨wr.heap.size + 1, 0, none⟩), .pointer none, .pointer none] 160)).alloc (.cells #[.slice none 0 0, .bool false, .slice none 0 0] 29)) (star (oRow O A' c') (star (rBlk b R O A c A' c') (star (rRow R A c) (star (rinP R) (star (robP O) (star (blkP wr.heap.size 160 #[.int .i64 1, .int .i64 n, .pointer none, .pointer (some ⟨wr.heap.size + 1, 0, none⟩), .pointer none, .pointer none]) (star (OS.RP (wr.heap.size + 1) (.r [] false [])) (star (blkP w.heap.size 160 #[.int .i64 0, .int .i64 0, .pointer none, .pointer none, .pointer none, .pointer none]) Q)))))))) from n5.perm (by ac_rfl))
      have BB := blk_at' (show Holds B w0 ((wr.alloc (.cells #[.int .i64 1, .int .i64 n, .pointer none, .pointer (some ⟨wr.heap.size + 1, 0, none⟩), .pointer none, .pointer none] 160)).alloc (.cells #[.slice none 0 0, .bool false, .slice none 0 0] 29)) (star (rBlk b R O A c A' c') (star (oRow O A' c') (star (rRow R A c) (star (rinP R) (star (robP O) (star (blkP wr.heap.size 160 #[.int .i64 1, .int .i64 n, .pointer none, .pointer (some ⟨wr.heap.size + 1, 0, none⟩), .pointer none, .pointer none]) (star (OS.RP (wr.heap.size + 1) (.r [] false [])) (star (blkP w.heap.size 160 #[.int .i64 0, .int .i64 0, .pointer none, .pointer none, .pointer none, .pointer none]) Q)))))))) from n5.perm (by ac_rfl))
      have bb1 := BB.cell 1
      have bb2 := (BB.alloc (.cells #[.int .i64 1, .int .i64 n, .pointer none, .pointer (some ⟨wr.heap.size + 1, 0, none⟩), .pointer none, .pointer none] 160)).cell 1
      obtain ⟨WX, hWX⟩ : ∃ WX, (wr.alloc (.cells #[.int .i64 1, .int .i64 n, .pointer none, .pointer (some ⟨wr.heap.size + 1, 0, none⟩), .pointer none, .pointer none] 160)).alloc (.cells #[.slice none 0 0, .bool false, .slice none 0 0] 29) = WX := ⟨_, rfl⟩
      rw [hWX] at hH HN bb1 bb2
      have RW := Lib.hid (fun (X' : World) (hX : Keep Nothing WX X') => (HN.out.kept ((rowP_stable _ _ _ _ _).star ((blkP_stable _ _ _).star ((rowP_stable _ _ _ _ _).star ((rinP_stable _).star ((robP_stable _).star ((blkP_stable _ _ _).star ((OS.RP_stable _ _).star ((blkP_stable _ _ _).star HQ.out)))))))) hX).row)
      have SRC := Lib.hid (show U.Src (WX.alloc (.cells #[.int .i64 1, .int .i64 n, .pointer none, .pointer (some ⟨wr.heap.size + 1, 0, none⟩), .pointer none, .pointer none] 160)) (some ⟨WX.heap.size, 0, none⟩) 6 1 [.int .i64 1, .int .i64 n, .pointer none, .pointer (some ⟨wr.heap.size + 1, 0, none⟩), .pointer none, .pointer none] from U.Src.fresh WX #[.int .i64 1, .int .i64 n, .pointer none, .pointer (some ⟨wr.heap.size + 1, 0, none⟩), .pointer none, .pointer none] 160 6 1 rfl)
      have HWX := Lib.hid hWX
      clear n1 n2 n5 B5 BB hWX hk hlt
      go_wp2_with fail
      rw [HWX.out]
      refine wp_region_noPanic ?_
      refine wp_region_held_drew (S := (fun w' => w'.cell? ⟨wr.heap.size, 0, none⟩ = some (.int .i64 1) ∧ w'.cell? ⟨wr.heap.size, 1, none⟩ = some (.int .i64 n) ∧ w'.cell? ⟨wr.heap.size, 2, none⟩ = some (.pointer none) ∧ w'.cell? ⟨wr.heap.size, 3, none⟩ = some (.pointer (some ⟨wr.heap.size + 1, 0, none⟩)) ∧ w'.cell? ⟨wr.heap.size, 4, none⟩ = some (.pointer none) ∧ w'.cell? ⟨wr.heap.size, 5, none⟩ = some (.pointer none))) (by kernel_rfl) hH (fun hHeld => ?_)
      refine tk 0 ?_
      (try simp only [pn])
      refine tk 1 ?_
      (try simp only [pn])
      refine tk 2 ?_
      (try simp only [pn])
      refine tk 3 ?_
      (try simp only [pn])
      refine tk 5 ?_
      (try simp only [pn])
      refine wpAnyH_ready (rs := [4, 6]) (by kernel_rfl) (by simp) ?_
      refine AllReadyH.cons (o := _) (by simp only [List.getElem?_toArray, List.getElem?_cons_succ, List.getElem?_cons_zero]; rfl) (fun K hK => ?_) (AllReadyH.cons (o := _) (by simp only [List.getElem?_toArray, List.getElem?_cons_succ, List.getElem?_cons_zero]; rfl) (fun K hK => ?_) AllReadyH.nil)
      · go_simp
        refine hK.out _ _ (hHeld) (fun hHeld => ?_)
        clear hK K
        (try simp only [pn])
        refine rd 6 (fun K hK => ?_)
        go_simp
        refine hK.out _ _ (⟨((Keep.same Nothing _).alloc _).cell hHeld.1 (fun h => h), ((Keep.same Nothing _).alloc _).cell hHeld.2.1 (fun h => h), ((Keep.same Nothing _).alloc _).cell hHeld.2.2.1 (fun h => h), ((Keep.same Nothing _).alloc _).cell hHeld.2.2.2.1 (fun h => h), ((Keep.same Nothing _).alloc _).cell hHeld.2.2.2.2.1 (fun h => h), ((Keep.same Nothing _).alloc _).cell hHeld.2.2.2.2.2 (fun h => h)⟩) (fun hHeld => ?_)
        clear hK K
        (try simp only [pn])
        refine rd 7 (fun K hK => ?_)
        refine step_app _ (by rfl) EOb (.tmp 71) (.tmp 73) (by rfl) (RW.out _ kn) (src_keep SRC.out kn) 1 (by simp [Act.eval, Act.put]) (by simp [Act.eval, Act.put]) (by simp [Value.oneCell']) (by have := HO.out; unfold maxLen; omega) (by have := HO.out; omega) ?_
        intro A9 c9 w9 hr9 hg9 hl9
        have N7 := Holds.grew (HN.out.kept ((rowP_stable _ _ _ _ _).star ((blkP_stable _ _ _).star ((rowP_stable _ _ _ _ _).star ((rinP_stable _).star ((robP_stable _).star ((blkP_stable _ _ _).star ((OS.RP_stable _ _).star ((blkP_stable _ _ _).star HQ.out)))))))) kn) ((blkP_stable _ _ _).star ((rowP_stable _ _ _ _ _).star ((rinP_stable _).star ((robP_stable _).star ((blkP_stable _ _ _).star ((OS.RP_stable _ _).star ((blkP_stable _ _ _).star HQ.out))))))) hr9 hg9 hl9
        have N8 : Holds B w0 w9 (star (rBlk b R O A c A' c') (star (rowP 160 6 (.slice A9 (O.length + 1) c9) (O.length + 1) (roV O ++ [.int .i64 1, .int .i64 n, .pointer none, .pointer (some ⟨wr.heap.size + 1, 0, none⟩), .pointer none, .pointer none])) (star (rRow R A c) (star (rinP R) (star (robP O) (star (blkP wr.heap.size 160 #[.int .i64 1, .int .i64 n, .pointer none, .pointer (some ⟨wr.heap.size + 1, 0, none⟩), .pointer none, .pointer none]) (star (OS.RP (wr.heap.size + 1) (.r [] false [])) (star (blkP w.heap.size 160 #[.int .i64 0, .int .i64 0, .pointer none, .pointer none, .pointer none, .pointer none]) Q)))))))) := N7.perm (by ac_rfl)
        have a9 := (blk_at' N8).cell 1
        have f9 := (blk_at' N8).free 1
        have N9 := N8.setBlk ((rowP_stable _ _ _ _ _).star ((rowP_stable _ _ _ _ _).star ((rinP_stable _).star ((robP_stable _).star ((blkP_stable _ _ _).star ((OS.RP_stable _ _).star ((blkP_stable _ _ _).star HQ.out))))))) 1 (.slice A9 (O.length + 1) c9)
        have B9 := blk_at' (show Holds B w0 w9 (star (blkP wr.heap.size 160 #[.int .i64 1, .int .i64 n, .pointer none, .pointer (some ⟨wr.heap.size + 1, 0, none⟩), .pointer none, .pointer none]) (star (rBlk b R O A c A' c') (star (rowP 160 6 (.slice A9 (O.length + 1) c9) (O.length + 1) (roV O ++ [.int .i64 1, .int .i64 n, .pointer none, .pointer (some ⟨wr.heap.size + 1, 0, none⟩), .pointer none, .pointer none])) (star (rRow R A c) (star (rinP R) (star (robP O) (star (OS.RP (wr.heap.size + 1) (.r [] false [])) (star (blkP w.heap.size 160 #[.int .i64 0, .int .i64 0, .pointer none, .pointer none, .pointer none, .pointer none]) Q)))))))) from N7.perm (by ac_rfl))
        have k9 : (fun w' => w'.cell? ⟨wr.heap.size, 0, none⟩ = some (.int .i64 1) ∧ w'.cell? ⟨wr.heap.size, 1, none⟩ = some (.int .i64 n) ∧ w'.cell? ⟨wr.heap.size, 2, none⟩ = some (.pointer none) ∧ w'.cell? ⟨wr.heap.size, 3, none⟩ = some (.pointer (some ⟨wr.heap.size + 1, 0, none⟩)) ∧ w'.cell? ⟨wr.heap.size, 4, none⟩ = some (.pointer none) ∧ w'.cell? ⟨wr.heap.size, 5, none⟩ = some (.pointer none)) w9 := ⟨B9.cell 0, B9.cell 1, B9.cell 2, B9.cell 3, B9.cell 4, B9.cell 5⟩
        have N10 : Holds B w0 (w9.setCell ⟨b, 1, none⟩ (.slice A9 (O.length + 1) c9)) (star (blkP w.heap.size 160 #[.int .i64 0, .int .i64 0, .pointer none, .pointer none, .pointer none, .pointer none]) (star (blkP b 155 #[.slice A R.length c, (.slice A9 (O.length + 1) c9)]) (star (rowP 160 6 (.slice A9 (O.length + 1) c9) (O.length + 1) (roV O ++ [.int .i64 1, .int .i64 n, .pointer none, .pointer (some ⟨wr.heap.size + 1, 0, none⟩), .pointer none, .pointer none])) (star (rRow R A c) (star (rinP R) (star (robP O) (star (blkP wr.heap.size 160 #[.int .i64 1, .int .i64 n, .pointer none, .pointer (some ⟨wr.heap.size + 1, 0, none⟩), .pointer none, .pointer none]) (star (OS.RP (wr.heap.size + 1) (.r [] false [])) Q)))))))) := N9.perm (by
          show star (blkP b 155 #[.slice A R.length c, (.slice A9 (O.length + 1) c9)]) _ = _
          ac_rfl)
        have B10 := blk_at' (show Holds B w0 (w9.setCell ⟨b, 1, none⟩ (.slice A9 (O.length + 1) c9)) (star (blkP wr.heap.size 160 #[.int .i64 1, .int .i64 n, .pointer none, .pointer (some ⟨wr.heap.size + 1, 0, none⟩), .pointer none, .pointer none]) (star (blkP w.heap.size 160 #[.int .i64 0, .int .i64 0, .pointer none, .pointer none, .pointer none, .pointer none]) (star (blkP b 155 #[.slice A R.length c, (.slice A9 (O.length + 1) c9)]) (star (rowP 160 6 (.slice A9 (O.length + 1) c9) (O.length + 1) (roV O ++ [.int .i64 1, .int .i64 n, .pointer none, .pointer (some ⟨wr.heap.size + 1, 0, none⟩), .pointer none, .pointer none])) (star (rRow R A c) (star (rinP R) (star (robP O) (star (OS.RP (wr.heap.size + 1) (.r [] false [])) Q)))))))) from N10.perm (by ac_rfl))
        have k10 : (fun w' => w'.cell? ⟨wr.heap.size, 0, none⟩ = some (.int .i64 1) ∧ w'.cell? ⟨wr.heap.size, 1, none⟩ = some (.int .i64 n) ∧ w'.cell? ⟨wr.heap.size, 2, none⟩ = some (.pointer none) ∧ w'.cell? ⟨wr.heap.size, 3, none⟩ = some (.pointer (some ⟨wr.heap.size + 1, 0, none⟩)) ∧ w'.cell? ⟨wr.heap.size, 4, none⟩ = some (.pointer none) ∧ w'.cell? ⟨wr.heap.size, 5, none⟩ = some (.pointer none)) (w9.setCell ⟨b, 1, none⟩ (.slice A9 (O.length + 1) c9)) := ⟨B10.cell 0, B10.cell 1, B10.cell 2, B10.cell 3, B10.cell 4, B10.cell 5⟩
        have H10 := Lib.hid N10
        have BZ := Lib.hid (blk_at' N10)
        clear N7 N8 N9 N10 B9 B10 hr9 hg9 hl9
        refine hK.out _ _ k9 (fun hHeld => ?_)
        clear hK K k9
        (try simp only [pn])
        refine tk 8 ?_
        (try simp only [pn])
        refine tk 9 ?_
        (try simp only [pn])
        refine rd 10 (fun K hK => ?_)
        go_simp
        refine hK.out _ _ (k10) (fun hHeld => ?_)
        clear hK K
        (try simp only [pn])
        refine wpAnyH_done (by kernel_rfl) ?_ _
        refine NoPanic.normal ?_
        clear a9 f9
        obtain ⟨x0, x1, x2, x3, x4, x5⟩ := k10
        go_wp2_with (refine wpList_store_row (by rfl) 160 (.tmp 6) (.tmp 77) (by rfl) w.heap.size #[.int .i64 1, .int .i64 n, .pointer none, .pointer (some ⟨wr.heap.size + 1, 0, none⟩), .pointer none, .pointer none] (by rfl) (by rfl) 160 #[.int .i64 0, .int .i64 0, .pointer none, .pointer none, .pointer none, .pointer none] BZ.out hi6 rfl (by simp [Value.oneCell']) ?_)
        go_wp2_with fail
        refine bodyPost_ret (v := .agg #[.int .i64 1, .int .i64 n, .pointer none, .pointer (some ⟨wr.heap.size + 1, 0, none⟩), .pointer none, .pointer none]) (results_cell_row (by rfl) _ _ w.heap.size 160 #[.int .i64 1, .int .i64 n, .pointer none, .pointer (some ⟨wr.heap.size + 1, 0, none⟩), .pointer none, .pointer none] (0, 0) _ (by rfl) (BZ.out.setRow #[.int .i64 1, .int .i64 n, .pointer none, .pointer (some ⟨wr.heap.size + 1, 0, none⟩), .pointer none, .pointer none]) hu2 rfl hi6) rfl ?_
        have h11 := (held_row H10.out ((blkP_stable _ _ _).star ((rowP_stable _ _ _ _ _).star ((rowP_stable _ _ _ _ _).star ((rinP_stable _).star ((robP_stable _).star ((blkP_stable _ _ _).star ((OS.RP_stable _ _).star HQ.out))))))) #[.int .i64 1, .int .i64 n, .pointer none, .pointer (some ⟨wr.heap.size + 1, 0, none⟩), .pointer none, .pointer none]).drop
        have h12 : Holds B w0 _ (star (blkP wr.heap.size 160 #[.int .i64 1, .int .i64 n, .pointer none, .pointer (some ⟨wr.heap.size + 1, 0, none⟩), .pointer none, .pointer none]) (star (blkP b 155 #[.slice A R.length c, (.slice A9 (O.length + 1) c9)]) (star (rRow R A c) (star (rowP 160 6 (.slice A9 (O.length + 1) c9) (O.length + 1) (roV O ++ [.int .i64 1, .int .i64 n, .pointer none, .pointer (some ⟨wr.heap.size + 1, 0, none⟩), .pointer none, .pointer none])) (star (rinP R) (star (star (OS.RP (wr.heap.size + 1) (.r [] false [])) (robP O)) Q)))))) := h11.perm (by ac_rfl)
        refine ⟨O ++ [(⟨n, wr.heap.size + 1, .r [] false []⟩ : RO)], O.length, (⟨n, wr.heap.size + 1, .r [] false []⟩ : RO), rfl, by simp, rfl, fun j' o' hj ho' => NF.out o' (List.mem_of_getElem? (by rw [List.getElem?_append_left hj] at ho'; exact ho')), .inr ⟨rfl, rfl, NF.out⟩, ?_⟩
        have e1 : (O ++ [(⟨n, wr.heap.size + 1, .r [] false []⟩ : RO)]).length = O.length + 1 := by simp
        have e2 : roV (O ++ [(⟨n, wr.heap.size + 1, .r [] false []⟩ : RO)]) = roV O ++ [.int .i64 1, .int .i64 n, .pointer none, .pointer (some ⟨wr.heap.size + 1, 0, none⟩), .pointer none, .pointer none] := by rw [roV_app]; rfl
        refine ref_close (A' := A9) (c' := c9) ?_
        unfold rBlk oRow
        rw [e1, e2, robP_push]
        exact h12.drop
      · go_simp
        refine hK.out _ _ (⟨((Keep.same Nothing _).alloc _).cell hHeld.1 (fun h => h), ((Keep.same Nothing _).alloc _).cell hHeld.2.1 (fun h => h), ((Keep.same Nothing _).alloc _).cell hHeld.2.2.1 (fun h => h), ((Keep.same Nothing _).alloc _).cell hHeld.2.2.2.1 (fun h => h), ((Keep.same Nothing _).alloc _).cell hHeld.2.2.2.2.1 (fun h => h), ((Keep.same Nothing _).alloc _).cell hHeld.2.2.2.2.2 (fun h => h)⟩) (fun hHeld => ?_)
        clear hK K
        (try simp only [pn])
        refine rd 4 (fun K hK => ?_)
        go_simp
        refine hK.out _ _ (hHeld) (fun hHeld => ?_)
        clear hK K
        (try simp only [pn])
        refine rd 7 (fun K hK => ?_)
        refine step_app _ (by rfl) EOb (.tmp 71) (.tmp 73) (by rfl) (RW.out _ kn) (src_keep SRC.out kn) 1 (by simp [Act.eval, Act.put]) (by simp [Act.eval, Act.put]) (by simp [Value.oneCell']) (by have := HO.out; unfold maxLen; omega) (by have := HO.out; omega) ?_
        intro A9 c9 w9 hr9 hg9 hl9
        have N7 := Holds.grew (HN.out.kept ((rowP_stable _ _ _ _ _).star ((blkP_stable _ _ _).star ((rowP_stable _ _ _ _ _).star ((rinP_stable _).star ((robP_stable _).star ((blkP_stable _ _ _).star ((OS.RP_stable _ _).star ((blkP_stable _ _ _).star HQ.out)))))))) kn) ((blkP_stable _ _ _).star ((rowP_stable _ _ _ _ _).star ((rinP_stable _).star ((robP_stable _).star ((blkP_stable _ _ _).star ((OS.RP_stable _ _).star ((blkP_stable _ _ _).star HQ.out))))))) hr9 hg9 hl9
        have N8 : Holds B w0 w9 (star (rBlk b R O A c A' c') (star (rowP 160 6 (.slice A9 (O.length + 1) c9) (O.length + 1) (roV O ++ [.int .i64 1, .int .i64 n, .pointer none, .pointer (some ⟨wr.heap.size + 1, 0, none⟩), .pointer none, .pointer none])) (star (rRow R A c) (star (rinP R) (star (robP O) (star (blkP wr.heap.size 160 #[.int .i64 1, .int .i64 n, .pointer none, .pointer (some ⟨wr.heap.size + 1, 0, none⟩), .pointer none, .pointer none]) (star (OS.RP (wr.heap.size + 1) (.r [] false [])) (star (blkP w.heap.size 160 #[.int .i64 0, .int .i64 0, .pointer none, .pointer none, .pointer none, .pointer none]) Q)))))))) := N7.perm (by ac_rfl)
        have a9 := (blk_at' N8).cell 1
        have f9 := (blk_at' N8).free 1
        have N9 := N8.setBlk ((rowP_stable _ _ _ _ _).star ((rowP_stable _ _ _ _ _).star ((rinP_stable _).star ((robP_stable _).star ((blkP_stable _ _ _).star ((OS.RP_stable _ _).star ((blkP_stable _ _ _).star HQ.out))))))) 1 (.slice A9 (O.length + 1) c9)
        have B9 := blk_at' (show Holds B w0 w9 (star (blkP wr.heap.size 160 #[.int .i64 1, .int .i64 n, .pointer none, .pointer (some ⟨wr.heap.size + 1, 0, none⟩), .pointer none, .pointer none]) (star (rBlk b R O A c A' c') (star (rowP 160 6 (.slice A9 (O.length + 1) c9) (O.length + 1) (roV O ++ [.int .i64 1, .int .i64 n, .pointer none, .pointer (some ⟨wr.heap.size + 1, 0, none⟩), .pointer none, .pointer none])) (star (rRow R A c) (star (rinP R) (star (robP O) (star (OS.RP (wr.heap.size + 1) (.r [] false [])) (star (blkP w.heap.size 160 #[.int .i64 0, .int .i64 0, .pointer none, .pointer none, .pointer none, .pointer none]) Q)))))))) from N7.perm (by ac_rfl))
        have k9 : (fun w' => w'.cell? ⟨wr.heap.size, 0, none⟩ = some (.int .i64 1) ∧ w'.cell? ⟨wr.heap.size, 1, none⟩ = some (.int .i64 n) ∧ w'.cell? ⟨wr.heap.size, 2, none⟩ = some (.pointer none) ∧ w'.cell? ⟨wr.heap.size, 3, none⟩ = some (.pointer (some ⟨wr.heap.size + 1, 0, none⟩)) ∧ w'.cell? ⟨wr.heap.size, 4, none⟩ = some (.pointer none) ∧ w'.cell? ⟨wr.heap.size, 5, none⟩ = some (.pointer none)) w9 := ⟨B9.cell 0, B9.cell 1, B9.cell 2, B9.cell 3, B9.cell 4, B9.cell 5⟩
        have N10 : Holds B w0 (w9.setCell ⟨b, 1, none⟩ (.slice A9 (O.length + 1) c9)) (star (blkP w.heap.size 160 #[.int .i64 0, .int .i64 0, .pointer none, .pointer none, .pointer none, .pointer none]) (star (blkP b 155 #[.slice A R.length c, (.slice A9 (O.length + 1) c9)]) (star (rowP 160 6 (.slice A9 (O.length + 1) c9) (O.length + 1) (roV O ++ [.int .i64 1, .int .i64 n, .pointer none, .pointer (some ⟨wr.heap.size + 1, 0, none⟩), .pointer none, .pointer none])) (star (rRow R A c) (star (rinP R) (star (robP O) (star (blkP wr.heap.size 160 #[.int .i64 1, .int .i64 n, .pointer none, .pointer (some ⟨wr.heap.size + 1, 0, none⟩), .pointer none, .pointer none]) (star (OS.RP (wr.heap.size + 1) (.r [] false [])) Q)))))))) := N9.perm (by
          show star (blkP b 155 #[.slice A R.length c, (.slice A9 (O.length + 1) c9)]) _ = _
          ac_rfl)
        have B10 := blk_at' (show Holds B w0 (w9.setCell ⟨b, 1, none⟩ (.slice A9 (O.length + 1) c9)) (star (blkP wr.heap.size 160 #[.int .i64 1, .int .i64 n, .pointer none, .pointer (some ⟨wr.heap.size + 1, 0, none⟩), .pointer none, .pointer none]) (star (blkP w.heap.size 160 #[.int .i64 0, .int .i64 0, .pointer none, .pointer none, .pointer none, .pointer none]) (star (blkP b 155 #[.slice A R.length c, (.slice A9 (O.length + 1) c9)]) (star (rowP 160 6 (.slice A9 (O.length + 1) c9) (O.length + 1) (roV O ++ [.int .i64 1, .int .i64 n, .pointer none, .pointer (some ⟨wr.heap.size + 1, 0, none⟩), .pointer none, .pointer none])) (star (rRow R A c) (star (rinP R) (star (robP O) (star (OS.RP (wr.heap.size + 1) (.r [] false [])) Q)))))))) from N10.perm (by ac_rfl))
        have k10 : (fun w' => w'.cell? ⟨wr.heap.size, 0, none⟩ = some (.int .i64 1) ∧ w'.cell? ⟨wr.heap.size, 1, none⟩ = some (.int .i64 n) ∧ w'.cell? ⟨wr.heap.size, 2, none⟩ = some (.pointer none) ∧ w'.cell? ⟨wr.heap.size, 3, none⟩ = some (.pointer (some ⟨wr.heap.size + 1, 0, none⟩)) ∧ w'.cell? ⟨wr.heap.size, 4, none⟩ = some (.pointer none) ∧ w'.cell? ⟨wr.heap.size, 5, none⟩ = some (.pointer none)) (w9.setCell ⟨b, 1, none⟩ (.slice A9 (O.length + 1) c9)) := ⟨B10.cell 0, B10.cell 1, B10.cell 2, B10.cell 3, B10.cell 4, B10.cell 5⟩
        have H10 := Lib.hid N10
        have BZ := Lib.hid (blk_at' N10)
        clear N7 N8 N9 N10 B9 B10 hr9 hg9 hl9
        refine hK.out _ _ k9 (fun hHeld => ?_)
        clear hK K k9
        (try simp only [pn])
        refine tk 8 ?_
        (try simp only [pn])
        refine tk 9 ?_
        (try simp only [pn])
        refine rd 10 (fun K hK => ?_)
        go_simp
        refine hK.out _ _ (k10) (fun hHeld => ?_)
        clear hK K
        (try simp only [pn])
        refine wpAnyH_done (by kernel_rfl) ?_ _
        refine NoPanic.normal ?_
        clear a9 f9
        obtain ⟨x0, x1, x2, x3, x4, x5⟩ := k10
        go_wp2_with (refine wpList_store_row (by rfl) 160 (.tmp 6) (.tmp 77) (by rfl) w.heap.size #[.int .i64 1, .int .i64 n, .pointer none, .pointer (some ⟨wr.heap.size + 1, 0, none⟩), .pointer none, .pointer none] (by rfl) (by rfl) 160 #[.int .i64 0, .int .i64 0, .pointer none, .pointer none, .pointer none, .pointer none] BZ.out hi6 rfl (by simp [Value.oneCell']) ?_)
        go_wp2_with fail
        refine bodyPost_ret (v := .agg #[.int .i64 1, .int .i64 n, .pointer none, .pointer (some ⟨wr.heap.size + 1, 0, none⟩), .pointer none, .pointer none]) (results_cell_row (by rfl) _ _ w.heap.size 160 #[.int .i64 1, .int .i64 n, .pointer none, .pointer (some ⟨wr.heap.size + 1, 0, none⟩), .pointer none, .pointer none] (0, 0) _ (by rfl) (BZ.out.setRow #[.int .i64 1, .int .i64 n, .pointer none, .pointer (some ⟨wr.heap.size + 1, 0, none⟩), .pointer none, .pointer none]) hu2 rfl hi6) rfl ?_
        have h11 := (held_row H10.out ((blkP_stable _ _ _).star ((rowP_stable _ _ _ _ _).star ((rowP_stable _ _ _ _ _).star ((rinP_stable _).star ((robP_stable _).star ((blkP_stable _ _ _).star ((OS.RP_stable _ _).star HQ.out))))))) #[.int .i64 1, .int .i64 n, .pointer none, .pointer (some ⟨wr.heap.size + 1, 0, none⟩), .pointer none, .pointer none]).drop
        have h12 : Holds B w0 _ (star (blkP wr.heap.size 160 #[.int .i64 1, .int .i64 n, .pointer none, .pointer (some ⟨wr.heap.size + 1, 0, none⟩), .pointer none, .pointer none]) (star (blkP b 155 #[.slice A R.length c, (.slice A9 (O.length + 1) c9)]) (star (rRow R A c) (star (rowP 160 6 (.slice A9 (O.length + 1) c9) (O.length + 1) (roV O ++ [.int .i64 1, .int .i64 n, .pointer none, .pointer (some ⟨wr.heap.size + 1, 0, none⟩), .pointer none, .pointer none])) (star (rinP R) (star (star (OS.RP (wr.heap.size + 1) (.r [] false [])) (robP O)) Q)))))) := h11.perm (by ac_rfl)
        refine ⟨O ++ [(⟨n, wr.heap.size + 1, .r [] false []⟩ : RO)], O.length, (⟨n, wr.heap.size + 1, .r [] false []⟩ : RO), rfl, by simp, rfl, fun j' o' hj ho' => NF.out o' (List.mem_of_getElem? (by rw [List.getElem?_append_left hj] at ho'; exact ho')), .inr ⟨rfl, rfl, NF.out⟩, ?_⟩
        have e1 : (O ++ [(⟨n, wr.heap.size + 1, .r [] false []⟩ : RO)]).length = O.length + 1 := by simp
        have e2 : roV (O ++ [(⟨n, wr.heap.size + 1, .r [] false []⟩ : RO)]) = roV O ++ [.int .i64 1, .int .i64 n, .pointer none, .pointer (some ⟨wr.heap.size + 1, 0, none⟩), .pointer none, .pointer none] := by rw [roV_app]; rfl
        refine ref_close (A' := A9) (c' := c9) ?_
        unfold rBlk oRow
        rw [e1, e2, robP_push]
        exact h12.drop
theorem object94_2 (h : Holds B w0 w (star (refP b A c R O) Q)) (hQ : Stable Q) (hO : O.length ≤ 1000000) (n : Int) :
    Calls Try.prog 94 #[.pointer (some ⟨b, 0, none⟩), .int .i64 2, .int .i64 n] w (ObjPost B w0 b A c R O (2, n) Q) := by
  have hu := Try.underlying155
  have hu2 := Try.underlying160
  have hi6 : (Try.prog.info? 160).map (·.size) = some 6 := by kernel_rfl
  have HQ := Lib.hid hQ
  have HO := Lib.hid hO
  have SQ := Lib.hid (show Stable (star (refP b A c R O) Q) from (refP_stable _ _ _ _ _).star hQ)
  have H1 := Lib.hid (h.newBlk SQ.out 160 #[.int .i64 0, .int .i64 0, .pointer none, .pointer none, .pointer none, .pointer none])
  clear h hQ hO
  go_enter Try.func94, Try.ntmps94
  go_wp2_with fail
  go_loopw [7] (fun iv wr => ∃ k : Nat, k ≤ O.length ∧ iv = .int .i64 k ∧ (∀ (j : Nat) (o : RO), j < k → O[j]? = some o → o.key ≠ (2, n)) ∧ Holds B w0 wr (star (blkP w.heap.size 160 #[.int .i64 0, .int .i64 0, .pointer none, .pointer none, .pointer none, .pointer none]) (star (refP b A c R O) Q))) (fun iv _ => O.length - (intOf iv).toNat)
  case atStart => exact ⟨0, by omega, by simp, fun j o hj => by omega, H1.out⟩
  case round =>
    obtain ⟨k, hk, rfl, hall, hh⟩ := hrel
    have HH := Lib.hid hh
    have HA := Lib.hid hall
    have h2 : Holds B w0 wr (star (refP b A c R O) (star (blkP w.heap.size 160 #[.int .i64 0, .int .i64 0, .pointer none, .pointer none, .pointer none, .pointer none]) Q)) := hh.perm (by ac_rfl)
    obtain ⟨A', c', h3⟩ := ref_open h2
    have H3 := Lib.hid h3
    have b1 := (blk_at' h3).cell 1
    have hOl := HO.out
    clear hh hall h2 h3
    by_cases hlt : k < O.length
    · have HLT := Lib.hid hlt
      have h4 : Holds B w0 wr (star (oRow O A' c') (star (rBlk b R O A c A' c') (star (rRow R A c) (star (rinP R) (star (robP O) (star (blkP w.heap.size 160 #[.int .i64 0, .int .i64 0, .pointer none, .pointer none, .pointer none, .pointer none]) Q)))))) := H3.out.perm (by ac_rfl)
      obtain ⟨ad, o, hA, ho, hc⟩ := ro_at h4.row.src hlt
      subst hA
      have HOO := Lib.hid ho
      have LD := Lib.hid hc
      have e0 : wr.cell? (ad.add (k * 6)) = some (.int .i64 (kindR o.st)) := by have := hc 0 _ rfl; rw [U.addAdd, Nat.add_zero] at this; exact this
      have e1 : wr.cell? ⟨(ad.add (k * 6)).block, (ad.add (k * 6)).off + 1, none⟩ = some (.int .i64 o.num) := by have := hc 1 _ rfl; rw [U.addAdd, addLater ad (k * 6) 1 (by omega)] at this; exact this
      clear h4 hc ho
      rcases Decidable.em (kindR o.st = 2) with hk1 | hk1
      · have d1 : (kindR o.st == 2) = true := by simp [hk1]
        rcases Decidable.em (o.num = n) with hn | hn
        · have d2 : (o.num == n) = true := by simp [hn]
          have KEY := Lib.hid (show o.key = (2, n) by rw [← hk1, ← hn])
          have BZ := Lib.hid (blk_at' HH.out)
          clear hk1 hn
          go_wp2_with (first | (refine wpList_load_at 160 (.tmp 45) (by rfl) (by rfl) (ad.add (k * 6)) (by rfl) o.cl _ LD.out hu2 rfl hi6 ?_) | (refine wpList_store_row (by rfl) 160 (.tmp 6) (.tmp 46) (by rfl) w.heap.size o.cl.toArray (by rfl) (by rfl) 160 #[.int .i64 0, .int .i64 0, .pointer none, .pointer none, .pointer none, .pointer none] BZ.out hi6 rfl (by simp [Value.oneCell']) ?_))
          refine bodyPost_ret (v := .agg o.cl.toArray) (results_cell_row (by rfl) _ _ w.heap.size 160 o.cl.toArray (0, 0) _ (by rfl) (BZ.out.setRow o.cl.toArray) hu2 rfl hi6) rfl ?_
          exact ⟨O, k, o, rfl, HOO.out, KEY.out, fun j' o' hj ho' => HA.out j' o' hj ho', .inl rfl, (held_row HH.out SQ.out o.cl.toArray).drop⟩
        · have d2 : (o.num == n) = false := by simp [hn]
          have NK := Lib.hid (show o.key ≠ (2, n) from fun e => hn (Prod.mk.inj e).2)
          clear hk1 hn
          go_wp2_with fail
          go_roundw
          case rel => exact ⟨k + 1, HLT.out, by go_num, fun j o' hj ho' => by
            rcases (show j < k ∨ j = k by omega) with h | rfl
            · exact HA.out j o' h ho'
            · rw [HOO.out] at ho'; injection ho' with ho'; rw [← ho']; exact NK.out, HH.out.kept ((blkP_stable _ _ _).star SQ.out) kn⟩
          case measure => have := HLT.out; simp [intOf]; omega
      · have d1 : (kindR o.st == 2) = false := by simp [hk1]
        have NK := Lib.hid (show o.key ≠ (2, n) from fun e => hk1 (Prod.mk.inj e).1)
        clear hk1
        go_wp2_with fail
        go_roundw
        case rel => exact ⟨k + 1, HLT.out, by go_num, fun j o' hj ho' => by
          rcases (show j < k ∨ j = k by omega) with h | rfl
          · exact HA.out j o' h ho'
          · rw [HOO.out] at ho'; injection ho' with ho'; rw [← ho']; exact NK.out, HH.out.kept ((blkP_stable _ _ _).star SQ.out) kn⟩
        case measure => have := HLT.out; simp [intOf]; omega
    · obtain rfl : k = O.length := by omega
      have NF := Lib.hid (show ∀ o ∈ O, o.key ≠ (2, n) from fun o ho => by
        obtain ⟨i, hi, he⟩ := List.getElem_of_mem ho
        exact HA.out i o hi (by rw [List.getElem?_eq_getElem hi, he]))
      have S3 := Lib.hid (show Stable (star (rBlk b R O A c A' c') (star (rRow R A c) (star (oRow O A' c') (star (rinP R) (star (robP O) (star (blkP w.heap.size 160 #[.int .i64 0, .int .i64 0, .pointer none, .pointer none, .pointer none, .pointer none]) Q)))))) from (blkP_stable _ _ _).star ((rowP_stable _ _ _ _ _).star ((rowP_stable _ _ _ _ _).star ((rinP_stable _).star ((robP_stable _).star ((blkP_stable _ _ _).star HQ.out))))))
      have n1 := H3.out.newBlk S3.out 160 #[.int .i64 2, .int .i64 n, .pointer none, .pointer none, .pointer (some ⟨wr.heap.size + 1, 0, none⟩), .pointer none]
      have n2 := n1.more ((blkP_stable _ _ _).star S3.out) (F := fun k => k = (wr.alloc (.cells #[.int .i64 2, .int .i64 n, .pointer none, .pointer none, .pointer (some ⟨wr.heap.size + 1, 0, none⟩), .pointer none] 160)).heap.size) (rnew_2 (wr.alloc (.cells #[.int .i64 2, .int .i64 n, .pointer none, .pointer none, .pointer (some ⟨wr.heap.size + 1, 0, none⟩), .pointer none] 160))) ((Keep.same _ _).alloc _) (fun k hk => by omega)
      rw [size_alloc] at n2
      have n5 : Holds B w0 ((wr.alloc (.cells #[.int .i64 2, .int .i64 n, .pointer none, .pointer none, .pointer (some ⟨wr.heap.size + 1, 0, none⟩), .pointer none] 160)).alloc (.cells #[.int .i64 0, .slice none 0 0] 87)) (star (blkP wr.heap.size 160 #[.int .i64 2, .int .i64 n, .pointer none, .pointer none, .pointer (some ⟨wr.heap.size + 1, 0, none⟩), .pointer none]) (star (OS.RP (wr.heap.size + 1) (.g 0 [])) (star (rBlk b R O A c A' c') (star (rRow R A c) (star (oRow O A' c') (star (rinP R) (star (robP O) (star (blkP w.heap.size 160 #[.int .i64 0, .int .i64 0, .pointer none, .pointer none, .pointer none, .pointer none]) Q)))))))) := n2.perm (by ac_rfl)
      have B5 := blk_at' n5
      have hH : (fun w' => w'.cell? ⟨wr.heap.size, 0, none⟩ = some (.int .i64 2) ∧ w'.cell? ⟨wr.heap.size, 1, none⟩ = some (.int .i64 n) ∧ w'.cell? ⟨wr.heap.size, 2, none⟩ = some (.pointer none) ∧ w'.cell? ⟨wr.heap.size, 3, none⟩ = some (.pointer none) ∧ w'.cell? ⟨wr.heap.size, 4, none⟩ = some (.pointer (some ⟨wr.heap.size + 1, 0, none⟩)) ∧ w'.cell? ⟨wr.heap.size, 5, none⟩ = some (.pointer none)) ((wr.alloc (.cells #[.int .i64 2, .int .i64 n, .pointer none, .pointer none, .pointer (some ⟨wr.heap.size + 1, 0, none⟩), .pointer none] 160)).alloc (.cells #[.int .i64 0, .slice none 0 0] 87)) := ⟨B5.cell 0, B5.cell 1, B5.cell 2, B5.cell 3, B5.cell 4, B5.cell 5⟩
      dsimp only at hH
      have HN := Lib.hid (show Holds B w0 ((wr.alloc (.cells #[.int .i64 2, .int .i64 n, .pointer none, .pointer none, .pointer (some ⟨wr.heap.size + 1, 0, none⟩), .pointer none] 160)).alloc (.cells #[.int .i64 0, .slice none 0 0] 87)) (star (oRow O A' c') (star (rBlk b R O A c A' c') (star (rRow R A c) (star (rinP R) (star (robP O) (star (blkP wr.heap.size 160 #[.int .i64 2, .int .i64 n, .pointer none, .pointer none, .pointer (some ⟨wr.heap.size + 1, 0, none⟩), .pointer none]) (star (OS.RP (wr.heap.size + 1) (.g 0 [])) (star (blkP w.heap.size 160 #[.int .i64 0, .int .i64 0, .pointer none, .pointer none, .pointer none, .pointer none]) Q)))))))) from n5.perm (by ac_rfl))
      have BB := blk_at' (show Holds B w0 ((wr.alloc (.cells #[.int .i64 2, .int .i64 n, .pointer none, .pointer none, .pointer (some ⟨wr.heap.size + 1, 0, none⟩), .pointer none] 160)).alloc (.cells #[.int .i64 0, .slice none 0 0] 87)) (star (rBlk b R O A c A' c') (star (oRow O A' c') (star (rRow R A c) (star (rinP R) (star (robP O) (star (blkP wr.heap.size 160 #[.int .i64 2, .int .i64 n, .pointer none, .pointer none, .pointer (some ⟨wr.heap.size + 1, 0, none⟩), .pointer none]) (star (OS.RP (wr.heap.size + 1) (.g 0 [])) (star (blkP w.heap.size 160 #[.int .i64 0, .int .i64 0, .pointer none, .pointer none, .pointer none, .pointer none]) Q)))))))) from n5.perm (by ac_rfl))
      have bb1 := BB.cell 1
      have bb2 := (BB.alloc (.cells #[.int .i64 2, .int .i64 n, .pointer none, .pointer none, .pointer (some ⟨wr.heap.size + 1, 0, none⟩), .pointer none] 160)).cell 1
      obtain ⟨WX, hWX⟩ : ∃ WX, (wr.alloc (.cells #[.int .i64 2, .int .i64 n, .pointer none, .pointer none, .pointer (some ⟨wr.heap.size + 1, 0, none⟩), .pointer none] 160)).alloc (.cells #[.int .i64 0, .slice none 0 0] 87) = WX := ⟨_, rfl⟩
      rw [hWX] at hH HN bb1 bb2
      have RW := Lib.hid (fun (X' : World) (hX : Keep Nothing WX X') => (HN.out.kept ((rowP_stable _ _ _ _ _).star ((blkP_stable _ _ _).star ((rowP_stable _ _ _ _ _).star ((rinP_stable _).star ((robP_stable _).star ((blkP_stable _ _ _).star ((OS.RP_stable _ _).star ((blkP_stable _ _ _).star HQ.out)))))))) hX).row)
      have SRC := Lib.hid (show U.Src (WX.alloc (.cells #[.int .i64 2, .int .i64 n, .pointer none, .pointer none, .pointer (some ⟨wr.heap.size + 1, 0, none⟩), .pointer none] 160)) (some ⟨WX.heap.size, 0, none⟩) 6 1 [.int .i64 2, .int .i64 n, .pointer none, .pointer none, .pointer (some ⟨wr.heap.size + 1, 0, none⟩), .pointer none] from U.Src.fresh WX #[.int .i64 2, .int .i64 n, .pointer none, .pointer none, .pointer (some ⟨wr.heap.size + 1, 0, none⟩), .pointer none] 160 6 1 rfl)
      have HWX := Lib.hid hWX
      clear n1 n2 n5 B5 BB hWX hk hlt
      go_wp2_with fail
      rw [HWX.out]
      refine wp_region_noPanic ?_
      refine wp_region_held_drew (S := (fun w' => w'.cell? ⟨wr.heap.size, 0, none⟩ = some (.int .i64 2) ∧ w'.cell? ⟨wr.heap.size, 1, none⟩ = some (.int .i64 n) ∧ w'.cell? ⟨wr.heap.size, 2, none⟩ = some (.pointer none) ∧ w'.cell? ⟨wr.heap.size, 3, none⟩ = some (.pointer none) ∧ w'.cell? ⟨wr.heap.size, 4, none⟩ = some (.pointer (some ⟨wr.heap.size + 1, 0, none⟩)) ∧ w'.cell? ⟨wr.heap.size, 5, none⟩ = some (.pointer none))) (by kernel_rfl) hH (fun hHeld => ?_)
      refine tk 0 ?_
      (try simp only [pn])
      refine tk 1 ?_
      (try simp only [pn])
      refine tk 2 ?_
      (try simp only [pn])
      refine tk 3 ?_
      (try simp only [pn])
      refine tk 5 ?_
      (try simp only [pn])
      refine wpAnyH_ready (rs := [4, 6]) (by kernel_rfl) (by simp) ?_
      refine AllReadyH.cons (o := _) (by simp only [List.getElem?_toArray, List.getElem?_cons_succ, List.getElem?_cons_zero]; rfl) (fun K hK => ?_) (AllReadyH.cons (o := _) (by simp only [List.getElem?_toArray, List.getElem?_cons_succ, List.getElem?_cons_zero]; rfl) (fun K hK => ?_) AllReadyH.nil)
      · go_simp
        refine hK.out _ _ (hHeld) (fun hHeld => ?_)
        clear hK K
        (try simp only [pn])
        refine rd 6 (fun K hK => ?_)
        go_simp
        refine hK.out _ _ (⟨((Keep.same Nothing _).alloc _).cell hHeld.1 (fun h => h), ((Keep.same Nothing _).alloc _).cell hHeld.2.1 (fun h => h), ((Keep.same Nothing _).alloc _).cell hHeld.2.2.1 (fun h => h), ((Keep.same Nothing _).alloc _).cell hHeld.2.2.2.1 (fun h => h), ((Keep.same Nothing _).alloc _).cell hHeld.2.2.2.2.1 (fun h => h), ((Keep.same Nothing _).alloc _).cell hHeld.2.2.2.2.2 (fun h => h)⟩) (fun hHeld => ?_)
        clear hK K
        (try simp only [pn])
        refine rd 7 (fun K hK => ?_)
        refine step_app _ (by rfl) EOb (.tmp 71) (.tmp 73) (by rfl) (RW.out _ kn) (src_keep SRC.out kn) 1 (by simp [Act.eval, Act.put]) (by simp [Act.eval, Act.put]) (by simp [Value.oneCell']) (by have := HO.out; unfold maxLen; omega) (by have := HO.out; omega) ?_
        intro A9 c9 w9 hr9 hg9 hl9
        have N7 := Holds.grew (HN.out.kept ((rowP_stable _ _ _ _ _).star ((blkP_stable _ _ _).star ((rowP_stable _ _ _ _ _).star ((rinP_stable _).star ((robP_stable _).star ((blkP_stable _ _ _).star ((OS.RP_stable _ _).star ((blkP_stable _ _ _).star HQ.out)))))))) kn) ((blkP_stable _ _ _).star ((rowP_stable _ _ _ _ _).star ((rinP_stable _).star ((robP_stable _).star ((blkP_stable _ _ _).star ((OS.RP_stable _ _).star ((blkP_stable _ _ _).star HQ.out))))))) hr9 hg9 hl9
        have N8 : Holds B w0 w9 (star (rBlk b R O A c A' c') (star (rowP 160 6 (.slice A9 (O.length + 1) c9) (O.length + 1) (roV O ++ [.int .i64 2, .int .i64 n, .pointer none, .pointer none, .pointer (some ⟨wr.heap.size + 1, 0, none⟩), .pointer none])) (star (rRow R A c) (star (rinP R) (star (robP O) (star (blkP wr.heap.size 160 #[.int .i64 2, .int .i64 n, .pointer none, .pointer none, .pointer (some ⟨wr.heap.size + 1, 0, none⟩), .pointer none]) (star (OS.RP (wr.heap.size + 1) (.g 0 [])) (star (blkP w.heap.size 160 #[.int .i64 0, .int .i64 0, .pointer none, .pointer none, .pointer none, .pointer none]) Q)))))))) := N7.perm (by ac_rfl)
        have a9 := (blk_at' N8).cell 1
        have f9 := (blk_at' N8).free 1
        have N9 := N8.setBlk ((rowP_stable _ _ _ _ _).star ((rowP_stable _ _ _ _ _).star ((rinP_stable _).star ((robP_stable _).star ((blkP_stable _ _ _).star ((OS.RP_stable _ _).star ((blkP_stable _ _ _).star HQ.out))))))) 1 (.slice A9 (O.length + 1) c9)
        have B9 := blk_at' (show Holds B w0 w9 (star (blkP wr.heap.size 160 #[.int .i64 2, .int .i64 n, .pointer none, .pointer none, .pointer (some ⟨wr.heap.size + 1, 0, none⟩), .pointer none]) (star (rBlk b R O A c A' c') (star (rowP 160 6 (.slice A9 (O.length + 1) c9) (O.length + 1) (roV O ++ [.int .i64 2, .int .i64 n, .pointer none, .pointer none, .pointer (some ⟨wr.heap.size + 1, 0, none⟩), .pointer none])) (star (rRow R A c) (star (rinP R) (star (robP O) (star (OS.RP (wr.heap.size + 1) (.g 0 [])) (star (blkP w.heap.size 160 #[.int .i64 0, .int .i64 0, .pointer none, .pointer none, .pointer none, .pointer none]) Q)))))))) from N7.perm (by ac_rfl))
        have k9 : (fun w' => w'.cell? ⟨wr.heap.size, 0, none⟩ = some (.int .i64 2) ∧ w'.cell? ⟨wr.heap.size, 1, none⟩ = some (.int .i64 n) ∧ w'.cell? ⟨wr.heap.size, 2, none⟩ = some (.pointer none) ∧ w'.cell? ⟨wr.heap.size, 3, none⟩ = some (.pointer none) ∧ w'.cell? ⟨wr.heap.size, 4, none⟩ = some (.pointer (some ⟨wr.heap.size + 1, 0, none⟩)) ∧ w'.cell? ⟨wr.heap.size, 5, none⟩ = some (.pointer none)) w9 := ⟨B9.cell 0, B9.cell 1, B9.cell 2, B9.cell 3, B9.cell 4, B9.cell 5⟩
        have N10 : Holds B w0 (w9.setCell ⟨b, 1, none⟩ (.slice A9 (O.length + 1) c9)) (star (blkP w.heap.size 160 #[.int .i64 0, .int .i64 0, .pointer none, .pointer none, .pointer none, .pointer none]) (star (blkP b 155 #[.slice A R.length c, (.slice A9 (O.length + 1) c9)]) (star (rowP 160 6 (.slice A9 (O.length + 1) c9) (O.length + 1) (roV O ++ [.int .i64 2, .int .i64 n, .pointer none, .pointer none, .pointer (some ⟨wr.heap.size + 1, 0, none⟩), .pointer none])) (star (rRow R A c) (star (rinP R) (star (robP O) (star (blkP wr.heap.size 160 #[.int .i64 2, .int .i64 n, .pointer none, .pointer none, .pointer (some ⟨wr.heap.size + 1, 0, none⟩), .pointer none]) (star (OS.RP (wr.heap.size + 1) (.g 0 [])) Q)))))))) := N9.perm (by
          show star (blkP b 155 #[.slice A R.length c, (.slice A9 (O.length + 1) c9)]) _ = _
          ac_rfl)
        have B10 := blk_at' (show Holds B w0 (w9.setCell ⟨b, 1, none⟩ (.slice A9 (O.length + 1) c9)) (star (blkP wr.heap.size 160 #[.int .i64 2, .int .i64 n, .pointer none, .pointer none, .pointer (some ⟨wr.heap.size + 1, 0, none⟩), .pointer none]) (star (blkP w.heap.size 160 #[.int .i64 0, .int .i64 0, .pointer none, .pointer none, .pointer none, .pointer none]) (star (blkP b 155 #[.slice A R.length c, (.slice A9 (O.length + 1) c9)]) (star (rowP 160 6 (.slice A9 (O.length + 1) c9) (O.length + 1) (roV O ++ [.int .i64 2, .int .i64 n, .pointer none, .pointer none, .pointer (some ⟨wr.heap.size + 1, 0, none⟩), .pointer none])) (star (rRow R A c) (star (rinP R) (star (robP O) (star (OS.RP (wr.heap.size + 1) (.g 0 [])) Q)))))))) from N10.perm (by ac_rfl))
        have k10 : (fun w' => w'.cell? ⟨wr.heap.size, 0, none⟩ = some (.int .i64 2) ∧ w'.cell? ⟨wr.heap.size, 1, none⟩ = some (.int .i64 n) ∧ w'.cell? ⟨wr.heap.size, 2, none⟩ = some (.pointer none) ∧ w'.cell? ⟨wr.heap.size, 3, none⟩ = some (.pointer none) ∧ w'.cell? ⟨wr.heap.size, 4, none⟩ = some (.pointer (some ⟨wr.heap.size + 1, 0, none⟩)) ∧ w'.cell? ⟨wr.heap.size, 5, none⟩ = some (.pointer none)) (w9.setCell ⟨b, 1, none⟩ (.slice A9 (O.length + 1) c9)) := ⟨B10.cell 0, B10.cell 1, B10.cell 2, B10.cell 3, B10.cell 4, B10.cell 5⟩
        have H10 := Lib.hid N10
        have BZ := Lib.hid (blk_at' N10)
        clear N7 N8 N9 N10 B9 B10 hr9 hg9 hl9
        refine hK.out _ _ k9 (fun hHeld => ?_)
        clear hK K k9
        (try simp only [pn])
        refine tk 8 ?_
        (try simp only [pn])
        refine tk 9 ?_
        (try simp only [pn])
        refine rd 10 (fun K hK => ?_)
        go_simp
        refine hK.out _ _ (k10) (fun hHeld => ?_)
        clear hK K
        (try simp only [pn])
        refine wpAnyH_done (by kernel_rfl) ?_ _
        refine NoPanic.normal ?_
        clear a9 f9
        obtain ⟨x0, x1, x2, x3, x4, x5⟩ := k10
        go_wp2_with (refine wpList_store_row (by rfl) 160 (.tmp 6) (.tmp 77) (by rfl) w.heap.size #[.int .i64 2, .int .i64 n, .pointer none, .pointer none, .pointer (some ⟨wr.heap.size + 1, 0, none⟩), .pointer none] (by rfl) (by rfl) 160 #[.int .i64 0, .int .i64 0, .pointer none, .pointer none, .pointer none, .pointer none] BZ.out hi6 rfl (by simp [Value.oneCell']) ?_)
        go_wp2_with fail
        refine bodyPost_ret (v := .agg #[.int .i64 2, .int .i64 n, .pointer none, .pointer none, .pointer (some ⟨wr.heap.size + 1, 0, none⟩), .pointer none]) (results_cell_row (by rfl) _ _ w.heap.size 160 #[.int .i64 2, .int .i64 n, .pointer none, .pointer none, .pointer (some ⟨wr.heap.size + 1, 0, none⟩), .pointer none] (0, 0) _ (by rfl) (BZ.out.setRow #[.int .i64 2, .int .i64 n, .pointer none, .pointer none, .pointer (some ⟨wr.heap.size + 1, 0, none⟩), .pointer none]) hu2 rfl hi6) rfl ?_
        have h11 := (held_row H10.out ((blkP_stable _ _ _).star ((rowP_stable _ _ _ _ _).star ((rowP_stable _ _ _ _ _).star ((rinP_stable _).star ((robP_stable _).star ((blkP_stable _ _ _).star ((OS.RP_stable _ _).star HQ.out))))))) #[.int .i64 2, .int .i64 n, .pointer none, .pointer none, .pointer (some ⟨wr.heap.size + 1, 0, none⟩), .pointer none]).drop
        have h12 : Holds B w0 _ (star (blkP wr.heap.size 160 #[.int .i64 2, .int .i64 n, .pointer none, .pointer none, .pointer (some ⟨wr.heap.size + 1, 0, none⟩), .pointer none]) (star (blkP b 155 #[.slice A R.length c, (.slice A9 (O.length + 1) c9)]) (star (rRow R A c) (star (rowP 160 6 (.slice A9 (O.length + 1) c9) (O.length + 1) (roV O ++ [.int .i64 2, .int .i64 n, .pointer none, .pointer none, .pointer (some ⟨wr.heap.size + 1, 0, none⟩), .pointer none])) (star (rinP R) (star (star (OS.RP (wr.heap.size + 1) (.g 0 [])) (robP O)) Q)))))) := h11.perm (by ac_rfl)
        refine ⟨O ++ [(⟨n, wr.heap.size + 1, .g 0 []⟩ : RO)], O.length, (⟨n, wr.heap.size + 1, .g 0 []⟩ : RO), rfl, by simp, rfl, fun j' o' hj ho' => NF.out o' (List.mem_of_getElem? (by rw [List.getElem?_append_left hj] at ho'; exact ho')), .inr ⟨rfl, rfl, NF.out⟩, ?_⟩
        have e1 : (O ++ [(⟨n, wr.heap.size + 1, .g 0 []⟩ : RO)]).length = O.length + 1 := by simp
        have e2 : roV (O ++ [(⟨n, wr.heap.size + 1, .g 0 []⟩ : RO)]) = roV O ++ [.int .i64 2, .int .i64 n, .pointer none, .pointer none, .pointer (some ⟨wr.heap.size + 1, 0, none⟩), .pointer none] := by rw [roV_app]; rfl
        refine ref_close (A' := A9) (c' := c9) ?_
        unfold rBlk oRow
        rw [e1, e2, robP_push]
        exact h12.drop
      · go_simp
        refine hK.out _ _ (⟨((Keep.same Nothing _).alloc _).cell hHeld.1 (fun h => h), ((Keep.same Nothing _).alloc _).cell hHeld.2.1 (fun h => h), ((Keep.same Nothing _).alloc _).cell hHeld.2.2.1 (fun h => h), ((Keep.same Nothing _).alloc _).cell hHeld.2.2.2.1 (fun h => h), ((Keep.same Nothing _).alloc _).cell hHeld.2.2.2.2.1 (fun h => h), ((Keep.same Nothing _).alloc _).cell hHeld.2.2.2.2.2 (fun h => h)⟩) (fun hHeld => ?_)
        clear hK K
        (try simp only [pn])
        refine rd 4 (fun K hK => ?_)
        go_simp
        refine hK.out _ _ (hHeld) (fun hHeld => ?_)
        clear hK K
        (try simp only [pn])
        refine rd 7 (fun K hK => ?_)
        refine step_app _ (by rfl) EOb (.tmp 71) (.tmp 73) (by rfl) (RW.out _ kn) (src_keep SRC.out kn) 1 (by simp [Act.eval, Act.put]) (by simp [Act.eval, Act.put]) (by simp [Value.oneCell']) (by have := HO.out; unfold maxLen; omega) (by have := HO.out; omega) ?_
        intro A9 c9 w9 hr9 hg9 hl9
        have N7 := Holds.grew (HN.out.kept ((rowP_stable _ _ _ _ _).star ((blkP_stable _ _ _).star ((rowP_stable _ _ _ _ _).star ((rinP_stable _).star ((robP_stable _).star ((blkP_stable _ _ _).star ((OS.RP_stable _ _).star ((blkP_stable _ _ _).star HQ.out)))))))) kn) ((blkP_stable _ _ _).star ((rowP_stable _ _ _ _ _).star ((rinP_stable _).star ((robP_stable _).star ((blkP_stable _ _ _).star ((OS.RP_stable _ _).star ((blkP_stable _ _ _).star HQ.out))))))) hr9 hg9 hl9
        have N8 : Holds B w0 w9 (star (rBlk b R O A c A' c') (star (rowP 160 6 (.slice A9 (O.length + 1) c9) (O.length + 1) (roV O ++ [.int .i64 2, .int .i64 n, .pointer none, .pointer none, .pointer (some ⟨wr.heap.size + 1, 0, none⟩), .pointer none])) (star (rRow R A c) (star (rinP R) (star (robP O) (star (blkP wr.heap.size 160 #[.int .i64 2, .int .i64 n, .pointer none, .pointer none, .pointer (some ⟨wr.heap.size + 1, 0, none⟩), .pointer none]) (star (OS.RP (wr.heap.size + 1) (.g 0 [])) (star (blkP w.heap.size 160 #[.int .i64 0, .int .i64 0, .pointer none, .pointer none, .pointer none, .pointer none]) Q)))))))) := N7.perm (by ac_rfl)
        have a9 := (blk_at' N8).cell 1
        have f9 := (blk_at' N8).free 1
        have N9 := N8.setBlk ((rowP_stable _ _ _ _ _).star ((rowP_stable _ _ _ _ _).star ((rinP_stable _).star ((robP_stable _).star ((blkP_stable _ _ _).star ((OS.RP_stable _ _).star ((blkP_stable _ _ _).star HQ.out))))))) 1 (.slice A9 (O.length + 1) c9)
        have B9 := blk_at' (show Holds B w0 w9 (star (blkP wr.heap.size 160 #[.int .i64 2, .int .i64 n, .pointer none, .pointer none, .pointer (some ⟨wr.heap.size + 1, 0, none⟩), .pointer none]) (star (rBlk b R O A c A' c') (star (rowP 160 6 (.slice A9 (O.length + 1) c9) (O.length + 1) (roV O ++ [.int .i64 2, .int .i64 n, .pointer none, .pointer none, .pointer (some ⟨wr.heap.size + 1, 0, none⟩), .pointer none])) (star (rRow R A c) (star (rinP R) (star (robP O) (star (OS.RP (wr.heap.size + 1) (.g 0 [])) (star (blkP w.heap.size 160 #[.int .i64 0, .int .i64 0, .pointer none, .pointer none, .pointer none, .pointer none]) Q)))))))) from N7.perm (by ac_rfl))
        have k9 : (fun w' => w'.cell? ⟨wr.heap.size, 0, none⟩ = some (.int .i64 2) ∧ w'.cell? ⟨wr.heap.size, 1, none⟩ = some (.int .i64 n) ∧ w'.cell? ⟨wr.heap.size, 2, none⟩ = some (.pointer none) ∧ w'.cell? ⟨wr.heap.size, 3, none⟩ = some (.pointer none) ∧ w'.cell? ⟨wr.heap.size, 4, none⟩ = some (.pointer (some ⟨wr.heap.size + 1, 0, none⟩)) ∧ w'.cell? ⟨wr.heap.size, 5, none⟩ = some (.pointer none)) w9 := ⟨B9.cell 0, B9.cell 1, B9.cell 2, B9.cell 3, B9.cell 4, B9.cell 5⟩
        have N10 : Holds B w0 (w9.setCell ⟨b, 1, none⟩ (.slice A9 (O.length + 1) c9)) (star (blkP w.heap.size 160 #[.int .i64 0, .int .i64 0, .pointer none, .pointer none, .pointer none, .pointer none]) (star (blkP b 155 #[.slice A R.length c, (.slice A9 (O.length + 1) c9)]) (star (rowP 160 6 (.slice A9 (O.length + 1) c9) (O.length + 1) (roV O ++ [.int .i64 2, .int .i64 n, .pointer none, .pointer none, .pointer (some ⟨wr.heap.size + 1, 0, none⟩), .pointer none])) (star (rRow R A c) (star (rinP R) (star (robP O) (star (blkP wr.heap.size 160 #[.int .i64 2, .int .i64 n, .pointer none, .pointer none, .pointer (some ⟨wr.heap.size + 1, 0, none⟩), .pointer none]) (star (OS.RP (wr.heap.size + 1) (.g 0 [])) Q)))))))) := N9.perm (by
          show star (blkP b 155 #[.slice A R.length c, (.slice A9 (O.length + 1) c9)]) _ = _
          ac_rfl)
        have B10 := blk_at' (show Holds B w0 (w9.setCell ⟨b, 1, none⟩ (.slice A9 (O.length + 1) c9)) (star (blkP wr.heap.size 160 #[.int .i64 2, .int .i64 n, .pointer none, .pointer none, .pointer (some ⟨wr.heap.size + 1, 0, none⟩), .pointer none]) (star (blkP w.heap.size 160 #[.int .i64 0, .int .i64 0, .pointer none, .pointer none, .pointer none, .pointer none]) (star (blkP b 155 #[.slice A R.length c, (.slice A9 (O.length + 1) c9)]) (star (rowP 160 6 (.slice A9 (O.length + 1) c9) (O.length + 1) (roV O ++ [.int .i64 2, .int .i64 n, .pointer none, .pointer none, .pointer (some ⟨wr.heap.size + 1, 0, none⟩), .pointer none])) (star (rRow R A c) (star (rinP R) (star (robP O) (star (OS.RP (wr.heap.size + 1) (.g 0 [])) Q)))))))) from N10.perm (by ac_rfl))
        have k10 : (fun w' => w'.cell? ⟨wr.heap.size, 0, none⟩ = some (.int .i64 2) ∧ w'.cell? ⟨wr.heap.size, 1, none⟩ = some (.int .i64 n) ∧ w'.cell? ⟨wr.heap.size, 2, none⟩ = some (.pointer none) ∧ w'.cell? ⟨wr.heap.size, 3, none⟩ = some (.pointer none) ∧ w'.cell? ⟨wr.heap.size, 4, none⟩ = some (.pointer (some ⟨wr.heap.size + 1, 0, none⟩)) ∧ w'.cell? ⟨wr.heap.size, 5, none⟩ = some (.pointer none)) (w9.setCell ⟨b, 1, none⟩ (.slice A9 (O.length + 1) c9)) := ⟨B10.cell 0, B10.cell 1, B10.cell 2, B10.cell 3, B10.cell 4, B10.cell 5⟩
        have H10 := Lib.hid N10
        have BZ := Lib.hid (blk_at' N10)
        clear N7 N8 N9 N10 B9 B10 hr9 hg9 hl9
        refine hK.out _ _ k9 (fun hHeld => ?_)
        clear hK K k9
        (try simp only [pn])
        refine tk 8 ?_
        (try simp only [pn])
        refine tk 9 ?_
        (try simp only [pn])
        refine rd 10 (fun K hK => ?_)
        go_simp
        refine hK.out _ _ (k10) (fun hHeld => ?_)
        clear hK K
        (try simp only [pn])
        refine wpAnyH_done (by kernel_rfl) ?_ _
        refine NoPanic.normal ?_
        clear a9 f9
        obtain ⟨x0, x1, x2, x3, x4, x5⟩ := k10
        go_wp2_with (refine wpList_store_row (by rfl) 160 (.tmp 6) (.tmp 77) (by rfl) w.heap.size #[.int .i64 2, .int .i64 n, .pointer none, .pointer none, .pointer (some ⟨wr.heap.size + 1, 0, none⟩), .pointer none] (by rfl) (by rfl) 160 #[.int .i64 0, .int .i64 0, .pointer none, .pointer none, .pointer none, .pointer none] BZ.out hi6 rfl (by simp [Value.oneCell']) ?_)
        go_wp2_with fail
        refine bodyPost_ret (v := .agg #[.int .i64 2, .int .i64 n, .pointer none, .pointer none, .pointer (some ⟨wr.heap.size + 1, 0, none⟩), .pointer none]) (results_cell_row (by rfl) _ _ w.heap.size 160 #[.int .i64 2, .int .i64 n, .pointer none, .pointer none, .pointer (some ⟨wr.heap.size + 1, 0, none⟩), .pointer none] (0, 0) _ (by rfl) (BZ.out.setRow #[.int .i64 2, .int .i64 n, .pointer none, .pointer none, .pointer (some ⟨wr.heap.size + 1, 0, none⟩), .pointer none]) hu2 rfl hi6) rfl ?_
        have h11 := (held_row H10.out ((blkP_stable _ _ _).star ((rowP_stable _ _ _ _ _).star ((rowP_stable _ _ _ _ _).star ((rinP_stable _).star ((robP_stable _).star ((blkP_stable _ _ _).star ((OS.RP_stable _ _).star HQ.out))))))) #[.int .i64 2, .int .i64 n, .pointer none, .pointer none, .pointer (some ⟨wr.heap.size + 1, 0, none⟩), .pointer none]).drop
        have h12 : Holds B w0 _ (star (blkP wr.heap.size 160 #[.int .i64 2, .int .i64 n, .pointer none, .pointer none, .pointer (some ⟨wr.heap.size + 1, 0, none⟩), .pointer none]) (star (blkP b 155 #[.slice A R.length c, (.slice A9 (O.length + 1) c9)]) (star (rRow R A c) (star (rowP 160 6 (.slice A9 (O.length + 1) c9) (O.length + 1) (roV O ++ [.int .i64 2, .int .i64 n, .pointer none, .pointer none, .pointer (some ⟨wr.heap.size + 1, 0, none⟩), .pointer none])) (star (rinP R) (star (star (OS.RP (wr.heap.size + 1) (.g 0 [])) (robP O)) Q)))))) := h11.perm (by ac_rfl)
        refine ⟨O ++ [(⟨n, wr.heap.size + 1, .g 0 []⟩ : RO)], O.length, (⟨n, wr.heap.size + 1, .g 0 []⟩ : RO), rfl, by simp, rfl, fun j' o' hj ho' => NF.out o' (List.mem_of_getElem? (by rw [List.getElem?_append_left hj] at ho'; exact ho')), .inr ⟨rfl, rfl, NF.out⟩, ?_⟩
        have e1 : (O ++ [(⟨n, wr.heap.size + 1, .g 0 []⟩ : RO)]).length = O.length + 1 := by simp
        have e2 : roV (O ++ [(⟨n, wr.heap.size + 1, .g 0 []⟩ : RO)]) = roV O ++ [.int .i64 2, .int .i64 n, .pointer none, .pointer none, .pointer (some ⟨wr.heap.size + 1, 0, none⟩), .pointer none] := by rw [roV_app]; rfl
        refine ref_close (A' := A9) (c' := c9) ?_
        unfold rBlk oRow
        rw [e1, e2, robP_push]
        exact h12.drop
theorem object94_3 (h : Holds B w0 w (star (refP b A c R O) Q)) (hQ : Stable Q) (hO : O.length ≤ 1000000) (n : Int) :
    Calls Try.prog 94 #[.pointer (some ⟨b, 0, none⟩), .int .i64 3, .int .i64 n] w (ObjPost B w0 b A c R O (3, n) Q) := by
  have hu := Try.underlying155
  have hu2 := Try.underlying160
  have hi6 : (Try.prog.info? 160).map (·.size) = some 6 := by kernel_rfl
  have HQ := Lib.hid hQ
  have HO := Lib.hid hO
  have SQ := Lib.hid (show Stable (star (refP b A c R O) Q) from (refP_stable _ _ _ _ _).star hQ)
  have H1 := Lib.hid (h.newBlk SQ.out 160 #[.int .i64 0, .int .i64 0, .pointer none, .pointer none, .pointer none, .pointer none])
  clear h hQ hO
  go_enter Try.func94, Try.ntmps94
  go_wp2_with fail
  go_loopw [7] (fun iv wr => ∃ k : Nat, k ≤ O.length ∧ iv = .int .i64 k ∧ (∀ (j : Nat) (o : RO), j < k → O[j]? = some o → o.key ≠ (3, n)) ∧ Holds B w0 wr (star (blkP w.heap.size 160 #[.int .i64 0, .int .i64 0, .pointer none, .pointer none, .pointer none, .pointer none]) (star (refP b A c R O) Q))) (fun iv _ => O.length - (intOf iv).toNat)
  case atStart => exact ⟨0, by omega, by simp, fun j o hj => by omega, H1.out⟩
  case round =>
    obtain ⟨k, hk, rfl, hall, hh⟩ := hrel
    have HH := Lib.hid hh
    have HA := Lib.hid hall
    have h2 : Holds B w0 wr (star (refP b A c R O) (star (blkP w.heap.size 160 #[.int .i64 0, .int .i64 0, .pointer none, .pointer none, .pointer none, .pointer none]) Q)) := hh.perm (by ac_rfl)
    obtain ⟨A', c', h3⟩ := ref_open h2
    have H3 := Lib.hid h3
    have b1 := (blk_at' h3).cell 1
    have hOl := HO.out
    clear hh hall h2 h3
    by_cases hlt : k < O.length
    · have HLT := Lib.hid hlt
      have h4 : Holds B w0 wr (star (oRow O A' c') (star (rBlk b R O A c A' c') (star (rRow R A c) (star (rinP R) (star (robP O) (star (blkP w.heap.size 160 #[.int .i64 0, .int .i64 0, .pointer none, .pointer none, .pointer none, .pointer none]) Q)))))) := H3.out.perm (by ac_rfl)
      obtain ⟨ad, o, hA, ho, hc⟩ := ro_at h4.row.src hlt
      subst hA
      have HOO := Lib.hid ho
      have LD := Lib.hid hc
      have e0 : wr.cell? (ad.add (k * 6)) = some (.int .i64 (kindR o.st)) := by have := hc 0 _ rfl; rw [U.addAdd, Nat.add_zero] at this; exact this
      have e1 : wr.cell? ⟨(ad.add (k * 6)).block, (ad.add (k * 6)).off + 1, none⟩ = some (.int .i64 o.num) := by have := hc 1 _ rfl; rw [U.addAdd, addLater ad (k * 6) 1 (by omega)] at this; exact this
      clear h4 hc ho
      rcases Decidable.em (kindR o.st = 3) with hk1 | hk1
      · have d1 : (kindR o.st == 3) = true := by simp [hk1]
        rcases Decidable.em (o.num = n) with hn | hn
        · have d2 : (o.num == n) = true := by simp [hn]
          have KEY := Lib.hid (show o.key = (3, n) by rw [← hk1, ← hn])
          have BZ := Lib.hid (blk_at' HH.out)
          clear hk1 hn
          go_wp2_with (first | (refine wpList_load_at 160 (.tmp 45) (by rfl) (by rfl) (ad.add (k * 6)) (by rfl) o.cl _ LD.out hu2 rfl hi6 ?_) | (refine wpList_store_row (by rfl) 160 (.tmp 6) (.tmp 46) (by rfl) w.heap.size o.cl.toArray (by rfl) (by rfl) 160 #[.int .i64 0, .int .i64 0, .pointer none, .pointer none, .pointer none, .pointer none] BZ.out hi6 rfl (by simp [Value.oneCell']) ?_))
          refine bodyPost_ret (v := .agg o.cl.toArray) (results_cell_row (by rfl) _ _ w.heap.size 160 o.cl.toArray (0, 0) _ (by rfl) (BZ.out.setRow o.cl.toArray) hu2 rfl hi6) rfl ?_
          exact ⟨O, k, o, rfl, HOO.out, KEY.out, fun j' o' hj ho' => HA.out j' o' hj ho', .inl rfl, (held_row HH.out SQ.out o.cl.toArray).drop⟩
        · have d2 : (o.num == n) = false := by simp [hn]
          have NK := Lib.hid (show o.key ≠ (3, n) from fun e => hn (Prod.mk.inj e).2)
          clear hk1 hn
          go_wp2_with fail
          go_roundw
          case rel => exact ⟨k + 1, HLT.out, by go_num, fun j o' hj ho' => by
            rcases (show j < k ∨ j = k by omega) with h | rfl
            · exact HA.out j o' h ho'
            · rw [HOO.out] at ho'; injection ho' with ho'; rw [← ho']; exact NK.out, HH.out.kept ((blkP_stable _ _ _).star SQ.out) kn⟩
          case measure => have := HLT.out; simp [intOf]; omega
      · have d1 : (kindR o.st == 3) = false := by simp [hk1]
        have NK := Lib.hid (show o.key ≠ (3, n) from fun e => hk1 (Prod.mk.inj e).1)
        clear hk1
        go_wp2_with fail
        go_roundw
        case rel => exact ⟨k + 1, HLT.out, by go_num, fun j o' hj ho' => by
          rcases (show j < k ∨ j = k by omega) with h | rfl
          · exact HA.out j o' h ho'
          · rw [HOO.out] at ho'; injection ho' with ho'; rw [← ho']; exact NK.out, HH.out.kept ((blkP_stable _ _ _).star SQ.out) kn⟩
        case measure => have := HLT.out; simp [intOf]; omega
    · obtain rfl : k = O.length := by omega
      have NF := Lib.hid (show ∀ o ∈ O, o.key ≠ (3, n) from fun o ho => by
        obtain ⟨i, hi, he⟩ := List.getElem_of_mem ho
        exact HA.out i o hi (by rw [List.getElem?_eq_getElem hi, he]))
      have S3 := Lib.hid (show Stable (star (rBlk b R O A c A' c') (star (rRow R A c) (star (oRow O A' c') (star (rinP R) (star (robP O) (star (blkP w.heap.size 160 #[.int .i64 0, .int .i64 0, .pointer none, .pointer none, .pointer none, .pointer none]) Q)))))) from (blkP_stable _ _ _).star ((rowP_stable _ _ _ _ _).star ((rowP_stable _ _ _ _ _).star ((rinP_stable _).star ((robP_stable _).star ((blkP_stable _ _ _).star HQ.out))))))
      have n1 := H3.out.newBlk S3.out 160 #[.int .i64 3, .int .i64 n, .pointer none, .pointer none, .pointer none, .pointer (some ⟨wr.heap.size + 1, 0, none⟩)]
      have n2 := n1.more ((blkP_stable _ _ _).star S3.out) (F := fun k => k = (wr.alloc (.cells #[.int .i64 3, .int .i64 n, .pointer none, .pointer none, .pointer none, .pointer (some ⟨wr.heap.size + 1, 0, none⟩)] 160)).heap.size) (rnew_3 (wr.alloc (.cells #[.int .i64 3, .int .i64 n, .pointer none, .pointer none, .pointer none, .pointer (some ⟨wr.heap.size + 1, 0, none⟩)] 160))) ((Keep.same _ _).alloc _) (fun k hk => by omega)
      rw [size_alloc] at n2
      have n5 : Holds B w0 ((wr.alloc (.cells #[.int .i64 3, .int .i64 n, .pointer none, .pointer none, .pointer none, .pointer (some ⟨wr.heap.size + 1, 0, none⟩)] 160)).alloc (.cells #[.int .i64 (-1), .bool false, .slice none 0 0] 81)) (star (blkP wr.heap.size 160 #[.int .i64 3, .int .i64 n, .pointer none, .pointer none, .pointer none, .pointer (some ⟨wr.heap.size + 1, 0, none⟩)]) (star (OS.RP (wr.heap.size + 1) (.o (-1) false [])) (star (rBlk b R O A c A' c') (star (rRow R A c) (star (oRow O A' c') (star (rinP R) (star (robP O) (star (blkP w.heap.size 160 #[.int .i64 0, .int .i64 0, .pointer none, .pointer none, .pointer none, .pointer none]) Q)))))))) := n2.perm (by ac_rfl)
      have B5 := blk_at' n5
      have hH : (fun w' => w'.cell? ⟨wr.heap.size, 0, none⟩ = some (.int .i64 3) ∧ w'.cell? ⟨wr.heap.size, 1, none⟩ = some (.int .i64 n) ∧ w'.cell? ⟨wr.heap.size, 2, none⟩ = some (.pointer none) ∧ w'.cell? ⟨wr.heap.size, 3, none⟩ = some (.pointer none) ∧ w'.cell? ⟨wr.heap.size, 4, none⟩ = some (.pointer none) ∧ w'.cell? ⟨wr.heap.size, 5, none⟩ = some (.pointer (some ⟨wr.heap.size + 1, 0, none⟩))) ((wr.alloc (.cells #[.int .i64 3, .int .i64 n, .pointer none, .pointer none, .pointer none, .pointer (some ⟨wr.heap.size + 1, 0, none⟩)] 160)).alloc (.cells #[.int .i64 (-1), .bool false, .slice none 0 0] 81)) := ⟨B5.cell 0, B5.cell 1, B5.cell 2, B5.cell 3, B5.cell 4, B5.cell 5⟩
      dsimp only at hH
      have HN := Lib.hid (show Holds B w0 ((wr.alloc (.cells #[.int .i64 3, .int .i64 n, .pointer none, .pointer none, .pointer none, .pointer (some ⟨wr.heap.size + 1, 0, none⟩)] 160)).alloc (.cells #[.int .i64 (-1), .bool false, .slice none 0 0] 81)) (star (oRow O A' c') (star (rBlk b R O A c A' c') (star (rRow R A c) (star (rinP R) (star (robP O) (star (blkP wr.heap.size 160 #[.int .i64 3, .int .i64 n, .pointer none, .pointer none, .pointer none, .pointer (some ⟨wr.heap.size + 1, 0, none⟩)]) (star (OS.RP (wr.heap.size + 1) (.o (-1) false [])) (star (blkP w.heap.size 160 #[.int .i64 0, .int .i64 0, .pointer none, .pointer none, .pointer none, .pointer none]) Q)))))))) from n5.perm (by ac_rfl))
      have BB := blk_at' (show Holds B w0 ((wr.alloc (.cells #[.int .i64 3, .int .i64 n, .pointer none, .pointer none, .pointer none, .pointer (some ⟨wr.heap.size + 1, 0, none⟩)] 160)).alloc (.cells #[.int .i64 (-1), .bool false, .slice none 0 0] 81)) (star (rBlk b R O A c A' c') (star (oRow O A' c') (star (rRow R A c) (star (rinP R) (star (robP O) (star (blkP wr.heap.size 160 #[.int .i64 3, .int .i64 n, .pointer none, .pointer none, .pointer none, .pointer (some ⟨wr.heap.size + 1, 0, none⟩)]) (star (OS.RP (wr.heap.size + 1) (.o (-1) false [])) (star (blkP w.heap.size 160 #[.int .i64 0, .int .i64 0, .pointer none, .pointer none, .pointer none, .pointer none]) Q)))))))) from n5.perm (by ac_rfl))
      have bb1 := BB.cell 1
      have bb2 := (BB.alloc (.cells #[.int .i64 3, .int .i64 n, .pointer none, .pointer none, .pointer none, .pointer (some ⟨wr.heap.size + 1, 0, none⟩)] 160)).cell 1
      obtain ⟨WX, hWX⟩ : ∃ WX, (wr.alloc (.cells #[.int .i64 3, .int .i64 n, .pointer none, .pointer none, .pointer none, .pointer (some ⟨wr.heap.size + 1, 0, none⟩)] 160)).alloc (.cells #[.int .i64 (-1), .bool false, .slice none 0 0] 81) = WX := ⟨_, rfl⟩
      rw [hWX] at hH HN bb1 bb2
      have RW := Lib.hid (fun (X' : World) (hX : Keep Nothing WX X') => (HN.out.kept ((rowP_stable _ _ _ _ _).star ((blkP_stable _ _ _).star ((rowP_stable _ _ _ _ _).star ((rinP_stable _).star ((robP_stable _).star ((blkP_stable _ _ _).star ((OS.RP_stable _ _).star ((blkP_stable _ _ _).star HQ.out)))))))) hX).row)
      have SRC := Lib.hid (show U.Src (WX.alloc (.cells #[.int .i64 3, .int .i64 n, .pointer none, .pointer none, .pointer none, .pointer (some ⟨wr.heap.size + 1, 0, none⟩)] 160)) (some ⟨WX.heap.size, 0, none⟩) 6 1 [.int .i64 3, .int .i64 n, .pointer none, .pointer none, .pointer none, .pointer (some ⟨wr.heap.size + 1, 0, none⟩)] from U.Src.fresh WX #[.int .i64 3, .int .i64 n, .pointer none, .pointer none, .pointer none, .pointer (some ⟨wr.heap.size + 1, 0, none⟩)] 160 6 1 rfl)
      have HWX := Lib.hid hWX
      clear n1 n2 n5 B5 BB hWX hk hlt
      go_wp2_with fail
      refine (ronew_calls _).mono ?_
      rintro e wm ⟨rfl, rfl⟩
      go_wp2_with fail
      rw [HWX.out]
      refine wp_region_noPanic ?_
      refine wp_region_held_drew (S := (fun w' => w'.cell? ⟨wr.heap.size, 0, none⟩ = some (.int .i64 3) ∧ w'.cell? ⟨wr.heap.size, 1, none⟩ = some (.int .i64 n) ∧ w'.cell? ⟨wr.heap.size, 2, none⟩ = some (.pointer none) ∧ w'.cell? ⟨wr.heap.size, 3, none⟩ = some (.pointer none) ∧ w'.cell? ⟨wr.heap.size, 4, none⟩ = some (.pointer none) ∧ w'.cell? ⟨wr.heap.size, 5, none⟩ = some (.pointer (some ⟨wr.heap.size + 1, 0, none⟩)))) (by kernel_rfl) hH (fun hHeld => ?_)
      refine tk 0 ?_
      (try simp only [pn])
      refine tk 1 ?_
      (try simp only [pn])
      refine tk 2 ?_
      (try simp only [pn])
      refine tk 3 ?_
      (try simp only [pn])
      refine tk 5 ?_
      (try simp only [pn])
      refine wpAnyH_ready (rs := [4, 6]) (by kernel_rfl) (by simp) ?_
      refine AllReadyH.cons (o := _) (by simp only [List.getElem?_toArray, List.getElem?_cons_succ, List.getElem?_cons_zero]; rfl) (fun K hK => ?_) (AllReadyH.cons (o := _) (by simp only [List.getElem?_toArray, List.getElem?_cons_succ, List.getElem?_cons_zero]; rfl) (fun K hK => ?_) AllReadyH.nil)
      · go_simp
        refine hK.out _ _ (hHeld) (fun hHeld => ?_)
        clear hK K
        (try simp only [pn])
        refine rd 6 (fun K hK => ?_)
        go_simp
        refine hK.out _ _ (⟨((Keep.same Nothing _).alloc _).cell hHeld.1 (fun h => h), ((Keep.same Nothing _).alloc _).cell hHeld.2.1 (fun h => h), ((Keep.same Nothing _).alloc _).cell hHeld.2.2.1 (fun h => h), ((Keep.same Nothing _).alloc _).cell hHeld.2.2.2.1 (fun h => h), ((Keep.same Nothing _).alloc _).cell hHeld.2.2.2.2.1 (fun h => h), ((Keep.same Nothing _).alloc _).cell hHeld.2.2.2.2.2 (fun h => h)⟩) (fun hHeld => ?_)
        clear hK K
        (try simp only [pn])
        refine rd 7 (fun K hK => ?_)
        refine step_app _ (by rfl) EOb (.tmp 71) (.tmp 73) (by rfl) (RW.out _ kn) (src_keep SRC.out kn) 1 (by simp [Act.eval, Act.put]) (by simp [Act.eval, Act.put]) (by simp [Value.oneCell']) (by have := HO.out; unfold maxLen; omega) (by have := HO.out; omega) ?_
        intro A9 c9 w9 hr9 hg9 hl9
        have N7 := Holds.grew (HN.out.kept ((rowP_stable _ _ _ _ _).star ((blkP_stable _ _ _).star ((rowP_stable _ _ _ _ _).star ((rinP_stable _).star ((robP_stable _).star ((blkP_stable _ _ _).star ((OS.RP_stable _ _).star ((blkP_stable _ _ _).star HQ.out)))))))) kn) ((blkP_stable _ _ _).star ((rowP_stable _ _ _ _ _).star ((rinP_stable _).star ((robP_stable _).star ((blkP_stable _ _ _).star ((OS.RP_stable _ _).star ((blkP_stable _ _ _).star HQ.out))))))) hr9 hg9 hl9
        have N8 : Holds B w0 w9 (star (rBlk b R O A c A' c') (star (rowP 160 6 (.slice A9 (O.length + 1) c9) (O.length + 1) (roV O ++ [.int .i64 3, .int .i64 n, .pointer none, .pointer none, .pointer none, .pointer (some ⟨wr.heap.size + 1, 0, none⟩)])) (star (rRow R A c) (star (rinP R) (star (robP O) (star (blkP wr.heap.size 160 #[.int .i64 3, .int .i64 n, .pointer none, .pointer none, .pointer none, .pointer (some ⟨wr.heap.size + 1, 0, none⟩)]) (star (OS.RP (wr.heap.size + 1) (.o (-1) false [])) (star (blkP w.heap.size 160 #[.int .i64 0, .int .i64 0, .pointer none, .pointer none, .pointer none, .pointer none]) Q)))))))) := N7.perm (by ac_rfl)
        have a9 := (blk_at' N8).cell 1
        have f9 := (blk_at' N8).free 1
        have N9 := N8.setBlk ((rowP_stable _ _ _ _ _).star ((rowP_stable _ _ _ _ _).star ((rinP_stable _).star ((robP_stable _).star ((blkP_stable _ _ _).star ((OS.RP_stable _ _).star ((blkP_stable _ _ _).star HQ.out))))))) 1 (.slice A9 (O.length + 1) c9)
        have B9 := blk_at' (show Holds B w0 w9 (star (blkP wr.heap.size 160 #[.int .i64 3, .int .i64 n, .pointer none, .pointer none, .pointer none, .pointer (some ⟨wr.heap.size + 1, 0, none⟩)]) (star (rBlk b R O A c A' c') (star (rowP 160 6 (.slice A9 (O.length + 1) c9) (O.length + 1) (roV O ++ [.int .i64 3, .int .i64 n, .pointer none, .pointer none, .pointer none, .pointer (some ⟨wr.heap.size + 1, 0, none⟩)])) (star (rRow R A c) (star (rinP R) (star (robP O) (star (OS.RP (wr.heap.size + 1) (.o (-1) false [])) (star (blkP w.heap.size 160 #[.int .i64 0, .int .i64 0, .pointer none, .pointer none, .pointer none, .pointer none]) Q)))))))) from N7.perm (by ac_rfl))
        have k9 : (fun w' => w'.cell? ⟨wr.heap.size, 0, none⟩ = some (.int .i64 3) ∧ w'.cell? ⟨wr.heap.size, 1, none⟩ = some (.int .i64 n) ∧ w'.cell? ⟨wr.heap.size, 2, none⟩ = some (.pointer none) ∧ w'.cell? ⟨wr.heap.size, 3, none⟩ = some (.pointer none) ∧ w'.cell? ⟨wr.heap.size, 4, none⟩ = some (.pointer none) ∧ w'.cell? ⟨wr.heap.size, 5, none⟩ = some (.pointer (some ⟨wr.heap.size + 1, 0, none⟩))) w9 := ⟨B9.cell 0, B9.cell 1, B9.cell 2, B9.cell 3, B9.cell 4, B9.cell 5⟩
        have N10 : Holds B w0 (w9.setCell ⟨b, 1, none⟩ (.slice A9 (O.length + 1) c9)) (star (blkP w.heap.size 160 #[.int .i64 0, .int .i64 0, .pointer none, .pointer none, .pointer none, .pointer none]) (star (blkP b 155 #[.slice A R.length c, (.slice A9 (O.length + 1) c9)]) (star (rowP 160 6 (.slice A9 (O.length + 1) c9) (O.length + 1) (roV O ++ [.int .i64 3, .int .i64 n, .pointer none, .pointer none, .pointer none, .pointer (some ⟨wr.heap.size + 1, 0, none⟩)])) (star (rRow R A c) (star (rinP R) (star (robP O) (star (blkP wr.heap.size 160 #[.int .i64 3, .int .i64 n, .pointer none, .pointer none, .pointer none, .pointer (some ⟨wr.heap.size + 1, 0, none⟩)]) (star (OS.RP (wr.heap.size + 1) (.o (-1) false [])) Q)))))))) := N9.perm (by
          show star (blkP b 155 #[.slice A R.length c, (.slice A9 (O.length + 1) c9)]) _ = _
          ac_rfl)
        have B10 := blk_at' (show Holds B w0 (w9.setCell ⟨b, 1, none⟩ (.slice A9 (O.length + 1) c9)) (star (blkP wr.heap.size 160 #[.int .i64 3, .int .i64 n, .pointer none, .pointer none, .pointer none, .pointer (some ⟨wr.heap.size + 1, 0, none⟩)]) (star (blkP w.heap.size 160 #[.int .i64 0, .int .i64 0, .pointer none, .pointer none, .pointer none, .pointer none]) (star (blkP b 155 #[.slice A R.length c, (.slice A9 (O.length + 1) c9)]) (star (rowP 160 6 (.slice A9 (O.length + 1) c9) (O.length + 1) (roV O ++ [.int .i64 3, .int .i64 n, .pointer none, .pointer none, .pointer none, .pointer (some ⟨wr.heap.size + 1, 0, none⟩)])) (star (rRow R A c) (star (rinP R) (star (robP O) (star (OS.RP (wr.heap.size + 1) (.o (-1) false [])) Q)))))))) from N10.perm (by ac_rfl))
        have k10 : (fun w' => w'.cell? ⟨wr.heap.size, 0, none⟩ = some (.int .i64 3) ∧ w'.cell? ⟨wr.heap.size, 1, none⟩ = some (.int .i64 n) ∧ w'.cell? ⟨wr.heap.size, 2, none⟩ = some (.pointer none) ∧ w'.cell? ⟨wr.heap.size, 3, none⟩ = some (.pointer none) ∧ w'.cell? ⟨wr.heap.size, 4, none⟩ = some (.pointer none) ∧ w'.cell? ⟨wr.heap.size, 5, none⟩ = some (.pointer (some ⟨wr.heap.size + 1, 0, none⟩))) (w9.setCell ⟨b, 1, none⟩ (.slice A9 (O.length + 1) c9)) := ⟨B10.cell 0, B10.cell 1, B10.cell 2, B10.cell 3, B10.cell 4, B10.cell 5⟩
        have H10 := Lib.hid N10
        have BZ := Lib.hid (blk_at' N10)
        clear N7 N8 N9 N10 B9 B10 hr9 hg9 hl9
        refine hK.out _ _ k9 (fun hHeld => ?_)
        clear hK K k9
        (try simp only [pn])
        refine tk 8 ?_
        (try simp only [pn])
        refine tk 9 ?_
        (try simp only [pn])
        refine rd 10 (fun K hK => ?_)
        go_simp
        refine hK.out _ _ (k10) (fun hHeld => ?_)
        clear hK K
        (try simp only [pn])
        refine wpAnyH_done (by kernel_rfl) ?_ _
        refine NoPanic.normal ?_
        clear a9 f9
        obtain ⟨x0, x1, x2, x3, x4, x5⟩ := k10
        go_wp2_with (refine wpList_store_row (by rfl) 160 (.tmp 6) (.tmp 77) (by rfl) w.heap.size #[.int .i64 3, .int .i64 n, .pointer none, .pointer none, .pointer none, .pointer (some ⟨wr.heap.size + 1, 0, none⟩)] (by rfl) (by rfl) 160 #[.int .i64 0, .int .i64 0, .pointer none, .pointer none, .pointer none, .pointer none] BZ.out hi6 rfl (by simp [Value.oneCell']) ?_)
        go_wp2_with fail
        refine bodyPost_ret (v := .agg #[.int .i64 3, .int .i64 n, .pointer none, .pointer none, .pointer none, .pointer (some ⟨wr.heap.size + 1, 0, none⟩)]) (results_cell_row (by rfl) _ _ w.heap.size 160 #[.int .i64 3, .int .i64 n, .pointer none, .pointer none, .pointer none, .pointer (some ⟨wr.heap.size + 1, 0, none⟩)] (0, 0) _ (by rfl) (BZ.out.setRow #[.int .i64 3, .int .i64 n, .pointer none, .pointer none, .pointer none, .pointer (some ⟨wr.heap.size + 1, 0, none⟩)]) hu2 rfl hi6) rfl ?_
        have h11 := (held_row H10.out ((blkP_stable _ _ _).star ((rowP_stable _ _ _ _ _).star ((rowP_stable _ _ _ _ _).star ((rinP_stable _).star ((robP_stable _).star ((blkP_stable _ _ _).star ((OS.RP_stable _ _).star HQ.out))))))) #[.int .i64 3, .int .i64 n, .pointer none, .pointer none, .pointer none, .pointer (some ⟨wr.heap.size + 1, 0, none⟩)]).drop
        have h12 : Holds B w0 _ (star (blkP wr.heap.size 160 #[.int .i64 3, .int .i64 n, .pointer none, .pointer none, .pointer none, .pointer (some ⟨wr.heap.size + 1, 0, none⟩)]) (star (blkP b 155 #[.slice A R.length c, (.slice A9 (O.length + 1) c9)]) (star (rRow R A c) (star (rowP 160 6 (.slice A9 (O.length + 1) c9) (O.length + 1) (roV O ++ [.int .i64 3, .int .i64 n, .pointer none, .pointer none, .pointer none, .pointer (some ⟨wr.heap.size + 1, 0, none⟩)])) (star (rinP R) (star (star (OS.RP (wr.heap.size + 1) (.o (-1) false [])) (robP O)) Q)))))) := h11.perm (by ac_rfl)
        refine ⟨O ++ [(⟨n, wr.heap.size + 1, .o (-1) false []⟩ : RO)], O.length, (⟨n, wr.heap.size + 1, .o (-1) false []⟩ : RO), rfl, by simp, rfl, fun j' o' hj ho' => NF.out o' (List.mem_of_getElem? (by rw [List.getElem?_append_left hj] at ho'; exact ho')), .inr ⟨rfl, rfl, NF.out⟩, ?_⟩
        have e1 : (O ++ [(⟨n, wr.heap.size + 1, .o (-1) false []⟩ : RO)]).length = O.length + 1 := by simp
        have e2 : roV (O ++ [(⟨n, wr.heap.size + 1, .o (-1) false []⟩ : RO)]) = roV O ++ [.int .i64 3, .int .i64 n, .pointer none, .pointer none, .pointer none, .pointer (some ⟨wr.heap.size + 1, 0, none⟩)] := by rw [roV_app]; rfl
        refine ref_close (A' := A9) (c' := c9) ?_
        unfold rBlk oRow
        rw [e1, e2, robP_push]
        exact h12.drop
      · go_simp
        refine hK.out _ _ (⟨((Keep.same Nothing _).alloc _).cell hHeld.1 (fun h => h), ((Keep.same Nothing _).alloc _).cell hHeld.2.1 (fun h => h), ((Keep.same Nothing _).alloc _).cell hHeld.2.2.1 (fun h => h), ((Keep.same Nothing _).alloc _).cell hHeld.2.2.2.1 (fun h => h), ((Keep.same Nothing _).alloc _).cell hHeld.2.2.2.2.1 (fun h => h), ((Keep.same Nothing _).alloc _).cell hHeld.2.2.2.2.2 (fun h => h)⟩) (fun hHeld => ?_)
        clear hK K
        (try simp only [pn])
        refine rd 4 (fun K hK => ?_)
        go_simp
        refine hK.out _ _ (hHeld) (fun hHeld => ?_)
        clear hK K
        (try simp only [pn])
        refine rd 7 (fun K hK => ?_)
        refine step_app _ (by rfl) EOb (.tmp 71) (.tmp 73) (by rfl) (RW.out _ kn) (src_keep SRC.out kn) 1 (by simp [Act.eval, Act.put]) (by simp [Act.eval, Act.put]) (by simp [Value.oneCell']) (by have := HO.out; unfold maxLen; omega) (by have := HO.out; omega) ?_
        intro A9 c9 w9 hr9 hg9 hl9
        have N7 := Holds.grew (HN.out.kept ((rowP_stable _ _ _ _ _).star ((blkP_stable _ _ _).star ((rowP_stable _ _ _ _ _).star ((rinP_stable _).star ((robP_stable _).star ((blkP_stable _ _ _).star ((OS.RP_stable _ _).star ((blkP_stable _ _ _).star HQ.out)))))))) kn) ((blkP_stable _ _ _).star ((rowP_stable _ _ _ _ _).star ((rinP_stable _).star ((robP_stable _).star ((blkP_stable _ _ _).star ((OS.RP_stable _ _).star ((blkP_stable _ _ _).star HQ.out))))))) hr9 hg9 hl9
        have N8 : Holds B w0 w9 (star (rBlk b R O A c A' c') (star (rowP 160 6 (.slice A9 (O.length + 1) c9) (O.length + 1) (roV O ++ [.int .i64 3, .int .i64 n, .pointer none, .pointer none, .pointer none, .pointer (some ⟨wr.heap.size + 1, 0, none⟩)])) (star (rRow R A c) (star (rinP R) (star (robP O) (star (blkP wr.heap.size 160 #[.int .i64 3, .int .i64 n, .pointer none, .pointer none, .pointer none, .pointer (some ⟨wr.heap.size + 1, 0, none⟩)]) (star (OS.RP (wr.heap.size + 1) (.o (-1) false [])) (star (blkP w.heap.size 160 #[.int .i64 0, .int .i64 0, .pointer none, .pointer none, .pointer none, .pointer none]) Q)))))))) := N7.perm (by ac_rfl)
        have a9 := (blk_at' N8).cell 1
        have f9 := (blk_at' N8).free 1
        have N9 := N8.setBlk ((rowP_stable _ _ _ _ _).star ((rowP_stable _ _ _ _ _).star ((rinP_stable _).star ((robP_stable _).star ((blkP_stable _ _ _).star ((OS.RP_stable _ _).star ((blkP_stable _ _ _).star HQ.out))))))) 1 (.slice A9 (O.length + 1) c9)
        have B9 := blk_at' (show Holds B w0 w9 (star (blkP wr.heap.size 160 #[.int .i64 3, .int .i64 n, .pointer none, .pointer none, .pointer none, .pointer (some ⟨wr.heap.size + 1, 0, none⟩)]) (star (rBlk b R O A c A' c') (star (rowP 160 6 (.slice A9 (O.length + 1) c9) (O.length + 1) (roV O ++ [.int .i64 3, .int .i64 n, .pointer none, .pointer none, .pointer none, .pointer (some ⟨wr.heap.size + 1, 0, none⟩)])) (star (rRow R A c) (star (rinP R) (star (robP O) (star (OS.RP (wr.heap.size + 1) (.o (-1) false [])) (star (blkP w.heap.size 160 #[.int .i64 0, .int .i64 0, .pointer none, .pointer none, .pointer none, .pointer none]) Q)))))))) from N7.perm (by ac_rfl))
        have k9 : (fun w' => w'.cell? ⟨wr.heap.size, 0, none⟩ = some (.int .i64 3) ∧ w'.cell? ⟨wr.heap.size, 1, none⟩ = some (.int .i64 n) ∧ w'.cell? ⟨wr.heap.size, 2, none⟩ = some (.pointer none) ∧ w'.cell? ⟨wr.heap.size, 3, none⟩ = some (.pointer none) ∧ w'.cell? ⟨wr.heap.size, 4, none⟩ = some (.pointer none) ∧ w'.cell? ⟨wr.heap.size, 5, none⟩ = some (.pointer (some ⟨wr.heap.size + 1, 0, none⟩))) w9 := ⟨B9.cell 0, B9.cell 1, B9.cell 2, B9.cell 3, B9.cell 4, B9.cell 5⟩
        have N10 : Holds B w0 (w9.setCell ⟨b, 1, none⟩ (.slice A9 (O.length + 1) c9)) (star (blkP w.heap.size 160 #[.int .i64 0, .int .i64 0, .pointer none, .pointer none, .pointer none, .pointer none]) (star (blkP b 155 #[.slice A R.length c, (.slice A9 (O.length + 1) c9)]) (star (rowP 160 6 (.slice A9 (O.length + 1) c9) (O.length + 1) (roV O ++ [.int .i64 3, .int .i64 n, .pointer none, .pointer none, .pointer none, .pointer (some ⟨wr.heap.size + 1, 0, none⟩)])) (star (rRow R A c) (star (rinP R) (star (robP O) (star (blkP wr.heap.size 160 #[.int .i64 3, .int .i64 n, .pointer none, .pointer none, .pointer none, .pointer (some ⟨wr.heap.size + 1, 0, none⟩)]) (star (OS.RP (wr.heap.size + 1) (.o (-1) false [])) Q)))))))) := N9.perm (by
          show star (blkP b 155 #[.slice A R.length c, (.slice A9 (O.length + 1) c9)]) _ = _
          ac_rfl)
        have B10 := blk_at' (show Holds B w0 (w9.setCell ⟨b, 1, none⟩ (.slice A9 (O.length + 1) c9)) (star (blkP wr.heap.size 160 #[.int .i64 3, .int .i64 n, .pointer none, .pointer none, .pointer none, .pointer (some ⟨wr.heap.size + 1, 0, none⟩)]) (star (blkP w.heap.size 160 #[.int .i64 0, .int .i64 0, .pointer none, .pointer none, .pointer none, .pointer none]) (star (blkP b 155 #[.slice A R.length c, (.slice A9 (O.length + 1) c9)]) (star (rowP 160 6 (.slice A9 (O.length + 1) c9) (O.length + 1) (roV O ++ [.int .i64 3, .int .i64 n, .pointer none, .pointer none, .pointer none, .pointer (some ⟨wr.heap.size + 1, 0, none⟩)])) (star (rRow R A c) (star (rinP R) (star (robP O) (star (OS.RP (wr.heap.size + 1) (.o (-1) false [])) Q)))))))) from N10.perm (by ac_rfl))
        have k10 : (fun w' => w'.cell? ⟨wr.heap.size, 0, none⟩ = some (.int .i64 3) ∧ w'.cell? ⟨wr.heap.size, 1, none⟩ = some (.int .i64 n) ∧ w'.cell? ⟨wr.heap.size, 2, none⟩ = some (.pointer none) ∧ w'.cell? ⟨wr.heap.size, 3, none⟩ = some (.pointer none) ∧ w'.cell? ⟨wr.heap.size, 4, none⟩ = some (.pointer none) ∧ w'.cell? ⟨wr.heap.size, 5, none⟩ = some (.pointer (some ⟨wr.heap.size + 1, 0, none⟩))) (w9.setCell ⟨b, 1, none⟩ (.slice A9 (O.length + 1) c9)) := ⟨B10.cell 0, B10.cell 1, B10.cell 2, B10.cell 3, B10.cell 4, B10.cell 5⟩
        have H10 := Lib.hid N10
        have BZ := Lib.hid (blk_at' N10)
        clear N7 N8 N9 N10 B9 B10 hr9 hg9 hl9
        refine hK.out _ _ k9 (fun hHeld => ?_)
        clear hK K k9
        (try simp only [pn])
        refine tk 8 ?_
        (try simp only [pn])
        refine tk 9 ?_
        (try simp only [pn])
        refine rd 10 (fun K hK => ?_)
        go_simp
        refine hK.out _ _ (k10) (fun hHeld => ?_)
        clear hK K
        (try simp only [pn])
        refine wpAnyH_done (by kernel_rfl) ?_ _
        refine NoPanic.normal ?_
        clear a9 f9
        obtain ⟨x0, x1, x2, x3, x4, x5⟩ := k10
        go_wp2_with (refine wpList_store_row (by rfl) 160 (.tmp 6) (.tmp 77) (by rfl) w.heap.size #[.int .i64 3, .int .i64 n, .pointer none, .pointer none, .pointer none, .pointer (some ⟨wr.heap.size + 1, 0, none⟩)] (by rfl) (by rfl) 160 #[.int .i64 0, .int .i64 0, .pointer none, .pointer none, .pointer none, .pointer none] BZ.out hi6 rfl (by simp [Value.oneCell']) ?_)
        go_wp2_with fail
        refine bodyPost_ret (v := .agg #[.int .i64 3, .int .i64 n, .pointer none, .pointer none, .pointer none, .pointer (some ⟨wr.heap.size + 1, 0, none⟩)]) (results_cell_row (by rfl) _ _ w.heap.size 160 #[.int .i64 3, .int .i64 n, .pointer none, .pointer none, .pointer none, .pointer (some ⟨wr.heap.size + 1, 0, none⟩)] (0, 0) _ (by rfl) (BZ.out.setRow #[.int .i64 3, .int .i64 n, .pointer none, .pointer none, .pointer none, .pointer (some ⟨wr.heap.size + 1, 0, none⟩)]) hu2 rfl hi6) rfl ?_
        have h11 := (held_row H10.out ((blkP_stable _ _ _).star ((rowP_stable _ _ _ _ _).star ((rowP_stable _ _ _ _ _).star ((rinP_stable _).star ((robP_stable _).star ((blkP_stable _ _ _).star ((OS.RP_stable _ _).star HQ.out))))))) #[.int .i64 3, .int .i64 n, .pointer none, .pointer none, .pointer none, .pointer (some ⟨wr.heap.size + 1, 0, none⟩)]).drop
        have h12 : Holds B w0 _ (star (blkP wr.heap.size 160 #[.int .i64 3, .int .i64 n, .pointer none, .pointer none, .pointer none, .pointer (some ⟨wr.heap.size + 1, 0, none⟩)]) (star (blkP b 155 #[.slice A R.length c, (.slice A9 (O.length + 1) c9)]) (star (rRow R A c) (star (rowP 160 6 (.slice A9 (O.length + 1) c9) (O.length + 1) (roV O ++ [.int .i64 3, .int .i64 n, .pointer none, .pointer none, .pointer none, .pointer (some ⟨wr.heap.size + 1, 0, none⟩)])) (star (rinP R) (star (star (OS.RP (wr.heap.size + 1) (.o (-1) false [])) (robP O)) Q)))))) := h11.perm (by ac_rfl)
        refine ⟨O ++ [(⟨n, wr.heap.size + 1, .o (-1) false []⟩ : RO)], O.length, (⟨n, wr.heap.size + 1, .o (-1) false []⟩ : RO), rfl, by simp, rfl, fun j' o' hj ho' => NF.out o' (List.mem_of_getElem? (by rw [List.getElem?_append_left hj] at ho'; exact ho')), .inr ⟨rfl, rfl, NF.out⟩, ?_⟩
        have e1 : (O ++ [(⟨n, wr.heap.size + 1, .o (-1) false []⟩ : RO)]).length = O.length + 1 := by simp
        have e2 : roV (O ++ [(⟨n, wr.heap.size + 1, .o (-1) false []⟩ : RO)]) = roV O ++ [.int .i64 3, .int .i64 n, .pointer none, .pointer none, .pointer none, .pointer (some ⟨wr.heap.size + 1, 0, none⟩)] := by rw [roV_app]; rfl
        refine ref_close (A' := A9) (c' := c9) ?_
        unfold rBlk oRow
        rw [e1, e2, robP_push]
        exact h12.drop
end
end Go.Proofs.Ytmohpjkbhpgidaa.A
