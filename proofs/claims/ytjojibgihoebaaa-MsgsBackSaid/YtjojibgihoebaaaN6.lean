/-
  Messages, compared: the reference's Same; rows of entries.
-/
import Derived.Test.YtjojibgihoebaaaN5
namespace Go.Proofs.Ytjojibgihoebaaa.A
open Go.RowKit Go.Proofs.Ytjojibgihoebaaa.U
set_option linter.unusedVariables false
set_option linter.unusedSimpArgs false
set_option maxRecDepth 100000

def eqR (x y : Rep) : Bool := decide (x.s = y.s ∧ x.q = y.q ∧ x.e = y.e ∧ x.k = y.k ∧ x.n = y.n)
theorem eqR_iff {x y : Rep} : eqR x y = true ↔ x = y := by
  unfold eqR
  rw [decide_eq_true_iff]
  constructor
  · rintro ⟨a, b, e, f, g⟩
    cases x; cases y
    simp only at a b e f g
    subst a b e f g
    rfl
  · rintro rfl
    exact ⟨rfl, rfl, rfl, rfl, rfl⟩
theorem equalR77 (w : World) (d : Nat) (c e : Rep) : (Op.equalIn (d + 2) 77 (.agg (rcs c)) (.agg (rcs e))).run Try.prog w = .ok (eqR c e) w := by
  have hu77 := Try.underlying77
  have hu3 := Try.underlying3
  have hu47 := Try.underlying47
  have hu25 := Try.underlying25
  have hf : Try.prog.underlying 77 = some (.struct (Try.prog.fieldsOf 77)) := by kernel_rfl
  have hh : Try.prog.stoodInHeld 77 = false := by kernel_rfl
  rw [run_equalIn_agg w (d + 1) 77 _ _ hf hh]
  have hfl : (Try.prog.fieldsOf 77).toList = (match Try.prog.underlying 77 with | some (.struct fs) => fs.toList | _ => []) := by kernel_rfl
  rw [hfl, hu77]
  have p0 : ∀ (a b c d e : Value) (W : World), (part 3 #[a, b, c, d, e] 0).run Try.prog W = .ok a W := fun a b c d e W => by rfl
  have p1 : ∀ (a b c d e : Value) (W : World), (part 3 #[a, b, c, d, e] 1).run Try.prog W = .ok b W := fun a b c d e W => by rfl
  have p2 : ∀ (a b c d e : Value) (W : World), (part 47 #[a, b, c, d, e] 2).run Try.prog W = .ok c W := fun a b c d e W => by rfl
  have p3 : ∀ (a b c d e : Value) (W : World), (part 25 #[a, b, c, d, e] 3).run Try.prog W = .ok d W := fun a b c d e W => by rfl
  have p4 : ∀ (a b c d e : Value) (W : World), (part 3 #[a, b, c, d, e] 4).run Try.prog W = .ok e W := fun a b c d e W => by rfl
  have q3 := fun x y => run_equalIn_int (P := Try.prog) w d 3 .i64 .i64 x y hu3
  have q47 := fun x y => run_equalIn_int (P := Try.prog) w d 47 .i64 .i64 x y hu47
  have q25 := fun x y => run_equalIn_int (P := Try.prog) w d 25 .u64 .u64 x y hu25
  simp [Op.eqFields, p0, p1, p2, p3, p4, q3, q47, q25, Result.andThen]
  unfold eqR
  by_cases h0 : c.s = e.s <;> by_cases h1 : c.q = e.q <;> by_cases h2 : c.e = e.e <;> by_cases h3 : c.k = e.k <;> by_cases h4 : c.n = e.n <;> simp [h0, h1, h2, h3, h4, p0, p1, p2, p3, p4, q3, q47, q25, Result.andThen] <;> (try omega)
theorem eql77 (w : World) (c e : Rep) : (binOp .eql 77 (.agg (rcs c)) (.agg (rcs e))).run Try.prog w = .ok (.bool (eqR c e)) w := by
  rw [run_eql_struct, show (10000 : Nat) = 9998 + 2 from rfl, equalR77]; rfl
def eqEs : List Ent → List Ent → Bool
  | [], [] => true
  | x :: l, y :: m => eqE x y && eqEs l m
  | _, _ => false
theorem eqEs_iff : ∀ {l m : List Ent}, eqEs l m = true ↔ l = m
  | [], [] => by simp [eqEs]
  | [], y :: m => by simp [eqEs]
  | x :: l, [] => by simp [eqEs]
  | x :: l, y :: m => by
    unfold eqEs
    rw [Bool.and_eq_true, eqE_iff, eqEs_iff]
    simp
theorem eqEs_len {l m : List Ent} (h : l.length ≠ m.length) : eqEs l m = false := by
  cases e : eqEs l m
  · rfl
  · exact absurd (congrArg List.length (eqEs_iff.1 e)) h
theorem eqEs_at {l m : List Ent} {k : Nat} {x y : Ent} (h : l[k]? = some x) (h' : m[k]? = some y) : eqEs (l.drop k) (m.drop k) = (eqE x y && eqEs (l.drop (k + 1)) (m.drop (k + 1))) := by
  obtain ⟨hk, he⟩ := List.getElem?_eq_some_iff.1 h
  obtain ⟨hk', he'⟩ := List.getElem?_eq_some_iff.1 h'
  rw [List.drop_eq_getElem_cons hk, he, List.drop_eq_getElem_cons hk', he']
  rfl
theorem neqE' (w : World) (x y : Ent) : (binOp .neq 54 (.agg #[.int .i64 x.a, .int .i64 x.b, .int .i64 x.c.k, .int .i64 x.c.s, .int .i64 x.c.q, .string x.c.nm, .int .i64 x.c.n]) (.agg #[.int .i64 y.a, .int .i64 y.b, .int .i64 y.c.k, .int .i64 y.c.s, .int .i64 y.c.q, .string y.c.nm, .int .i64 y.c.n])).run Try.prog w = .ok (.bool (!eqE x y)) w := neq54 w x y
set_option maxHeartbeats 3200000 in
theorem entries66n (w : World) (L M : List Ent) (A A' : Option Addr) (c c' n : Nat) (hL : L.length = n) (hM : M.length = n) (h : U.Src w A 7 n (ents L)) (h' : U.Src w A' 7 n (ents M)) (hl : n ≤ 4611686018427387904) :
    Calls Try.prog 66 #[.slice A n c, .slice A' n c'] w (fun e w' => e = .returned (.bool (eqEs L M)) ∧ Keep Nothing w w') := by
  have hu54 := Try.underlying54
  have S1 := Lib.hid h
  have S2 := Lib.hid h'
  have HL := Lib.hid hL
  have HM := Lib.hid hM
  have K := Lib.hid (Keep.same Nothing w)
  clear h h' hL hM
  go_enter Try.func66, Try.ntmps66
  go_wp2_with fail
  go_loopw [5] (fun v wr => Drew w wr ∧ ∃ k : Nat, k ≤ n ∧ v = .int .i64 k ∧ Hid (eqEs L M = eqEs (L.drop k) (M.drop k))) (fun v _ => n - (intOf v).toNat)
  case atStart => exact ⟨Drew.same _, 0, by omega, by simp, Lib.hid rfl⟩
  case round =>
    obtain ⟨⟨nd, rfl⟩, k, hk, rfl, hok⟩ := hrel
    by_cases hlt : k < n
    · obtain ⟨ad, x, rfl, hx, c0, c1, c2, c3, c4, c5, c6⟩ := ent_at S1.out hlt
      obtain ⟨ad', y, rfl, hy, c0', c1', c2', c3', c4', c5', c6'⟩ := ent_at S2.out hlt
      have HO := Lib.hid (hok.out.trans (eqEs_at hx hy))
      have hq := fun w => neqE' w x y
      clear hx hy hok
      cases he : eqE x y with
      | true =>
        rw [he] at hq
        rw [he, Bool.true_and] at HO
        clear he
        go_wp2_with fail
        go_quiet (fail)
        go_wp2_with fail
        go_roundw
        case rel => exact ⟨(Drew.same _).more _, k + 1, by omega, by go_num, HO⟩
        case measure => simp [intOf]; omega
      | false =>
        rw [he] at hq
        have E := Lib.hid (show eqEs L M = false by rw [HO.out, he]; rfl)
        clear he
        go_wp2_with fail
        go_quiet (fail)
        go_wp2_with fail
        go_ret
        exact ⟨by rw [E.out]; rfl, (K.out.drewN _).drewN _⟩
    · have hkn : k = n := by omega
      have E := Lib.hid (show eqEs L M = true by rw [hok.out, hkn, ← HL.out, List.drop_length, HL.out, ← HM.out, List.drop_length]; rfl)
      clear hok
      subst hkn
      go_wp2_with fail
      go_ret
      exact ⟨by rw [E.out]; rfl, K.out.drewN _⟩
theorem entries66 (w : World) (L M : List Ent) (A A' : Option Addr) (c c' : Nat) (h : U.Src w A 7 L.length (ents L)) (h' : U.Src w A' 7 M.length (ents M)) (hl : L.length ≤ 4611686018427387904) :
    Calls Try.prog 66 #[.slice A L.length c, .slice A' M.length c'] w (fun e w' => e = .returned (.bool (eqEs L M)) ∧ Keep Nothing w w') := by
  by_cases hln : M.length = L.length
  · rw [hln] at h' ⊢
    exact entries66n w L M A A' c c' L.length rfl hln h h' hl
  · have E := Lib.hid (eqEs_len (l := L) (m := M) (fun e => hln e.symm))
    have K := Lib.hid (Keep.same Nothing w)
    have g0 : ((L.length : Int) == (M.length : Int)) = false := by rw [beq_eq_false_iff_ne]; omega
    clear hln h h'
    go_enter Try.func66, Try.ntmps66
    go_wp2_with fail
    go_ret
    exact ⟨by rw [E.out]; rfl, K.out⟩
set_option maxHeartbeats 3200000 in
theorem equal68n (w : World) (L M : List Ent) (A A' : Option Addr) (c c' n : Nat) (hL : L.length = n) (hM : M.length = n) (h : U.Src w A 7 n (ents L)) (h' : U.Src w A' 7 n (ents M)) (hl : n ≤ 4611686018427387904) :
    Calls Try.prog 68 #[.slice A n c, .slice A' n c'] w (fun e w' => e = .returned (.bool (eqEs L M)) ∧ Keep Nothing w w') := by
  have hu54 := Try.underlying54
  have S1 := Lib.hid h
  have S2 := Lib.hid h'
  have HL := Lib.hid hL
  have HM := Lib.hid hM
  have K := Lib.hid (Keep.same Nothing w)
  clear h h' hL hM
  go_enter Try.func68, Try.ntmps68
  go_wp2_with fail
  go_loopw [13] (fun v wr => Drew w wr ∧ ∃ k : Nat, k ≤ n ∧ v = .int .i64 k ∧ Hid (eqEs L M = eqEs (L.drop k) (M.drop k))) (fun v _ => n - (intOf v).toNat)
  case atStart => exact ⟨Drew.same _, 0, by omega, by simp, Lib.hid rfl⟩
  case round =>
    obtain ⟨⟨nd, rfl⟩, k, hk, rfl, hok⟩ := hrel
    by_cases hlt : k < n
    · obtain ⟨ad, x, rfl, hx, c0, c1, c2, c3, c4, c5, c6⟩ := ent_at S1.out hlt
      obtain ⟨ad', y, rfl, hy, c0', c1', c2', c3', c4', c5', c6'⟩ := ent_at S2.out hlt
      have HO := Lib.hid (hok.out.trans (eqEs_at hx hy))
      have hq := fun w => neqE' w x y
      clear hx hy hok
      cases he : eqE x y with
      | true =>
        rw [he] at hq
        rw [he, Bool.true_and] at HO
        clear he
        go_wp2_with fail
        go_quiet (fail)
        go_wp2_with fail
        go_roundw
        case rel => exact ⟨(Drew.same _).more _, k + 1, by omega, by go_num, HO⟩
        case measure => simp [intOf]; omega
      | false =>
        rw [he] at hq
        have E := Lib.hid (show eqEs L M = false by rw [HO.out, he]; rfl)
        clear he
        go_wp2_with fail
        go_quiet (fail)
        go_wp2_with fail
        go_ret
        exact ⟨by rw [E.out]; rfl, (K.out.drewN _).drewN _⟩
    · have hkn : k = n := by omega
      have E := Lib.hid (show eqEs L M = true by rw [hok.out, hkn, ← HL.out, List.drop_length, HL.out, ← HM.out, List.drop_length]; rfl)
      clear hok
      subst hkn
      go_wp2_with fail
      go_ret
      exact ⟨by rw [E.out]; rfl, K.out.drewN _⟩
theorem equal68 (w : World) (L M : List Ent) (A A' : Option Addr) (c c' : Nat) (h : U.Src w A 7 L.length (ents L)) (h' : U.Src w A' 7 M.length (ents M)) (hl : L.length ≤ 4611686018427387904) :
    Calls Try.prog 68 #[.slice A L.length c, .slice A' M.length c'] w (fun e w' => e = .returned (.bool (eqEs L M)) ∧ Keep Nothing w w') := by
  by_cases hln : M.length = L.length
  · rw [hln] at h' ⊢
    exact equal68n w L M A A' c c' L.length rfl hln h h' hl
  · have E := Lib.hid (eqEs_len (l := L) (m := M) (fun e => hln e.symm))
    have K := Lib.hid (Keep.same Nothing w)
    have g0 : ((L.length : Int) == (M.length : Int)) = false := by rw [beq_eq_false_iff_ne]; omega
    clear hln h h'
    go_enter Try.func68, Try.ntmps68
    go_wp2_with fail
    go_ret
    exact ⟨by rw [E.out]; rfl, K.out⟩
/-- Is all the same? -/
def eqM (a b : Msg) : Bool := decide (a.k = b.k) && (decide (a.f = b.f) && (decide (a.t = b.t) && (decide (a.b = b.b) && (decide (a.s = b.s) && (decide (a.r = b.r) && (decide (a.z = b.z) && (decide (a.e = b.e) && (eqEs a.es b.es && (eqC a.c b.c && (eqR a.p b.p && decide (a.x = b.x)))))))))))
theorem eqM_iff {a b : Msg} : eqM a b = true ↔ a = b := by
  unfold eqM
  simp only [Bool.and_eq_true, decide_eq_true_eq, eqEs_iff, eqC_iff, eqR_iff]
  constructor
  · rintro ⟨h1, h2, h3, h4, h5, h6, h7, h8, h9, h10, h11, h12⟩
    cases a; cases b
    simp only at h1 h2 h3 h4 h5 h6 h7 h8 h9 h10 h11 h12
    subst h1 h2 h3 h4 h5 h6 h7 h8 h9 h10 h11 h12
    rfl
  · rintro rfl
    simp
theorem toList_iff' (s t : ByteArray) : (s.toList == t.toList) = decide (s = t) := by
  rw [ByteArray.toList_eq, ByteArray.toList_eq]
  by_cases h : s = t
  · subst h; simp
  · rw [decide_eq_false h, beq_eq_false_iff_ne]
    intro e
    exact h (ByteArray.ext (Array.ext' e))
theorem eqM_same (a : Msg) : eqM a a = true := eqM_iff.2 rfl
theorem eql52' (w : World) (c e : Cmd) : (binOp .eql 52 (.agg #[.int .i64 c.k, .int .i64 c.s, .int .i64 c.q, .string c.nm, .int .i64 c.n]) (.agg #[.int .i64 e.k, .int .i64 e.s, .int .i64 e.q, .string e.nm, .int .i64 e.n])).run Try.prog w = .ok (.bool (eqC c e)) w := eql52 w c e
end Go.Proofs.Ytjojibgihoebaaa.A
