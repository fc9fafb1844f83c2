/-
  The learner's known.
-/
import Derived.Test.YtcbjmmjjohigmaaE
import Derived.Test.YtcbjmmjjohigmaaS
namespace Go.Proofs.Ytcbjmmjjohigmaa.A
open Go.RowKit Go.Proofs.Ytcbjmmjjohigmaa.U
set_option linter.unusedVariables false
set_option linter.unusedSimpArgs false
set_option maxRecDepth 100000

def isSlot (s : Int) (x : Ent) : Bool := x.a == s
def findV (L : List Ent) (s : Int) : Option Ent := L.find? (isSlot s)
def entOr (o : Option Ent) : Ent := o.getD zeroE
theorem findV_none {L : List Ent} {s : Int} (h : ∀ (j : Nat) (x : Ent), L[j]? = some x → isSlot s x = false) : findV L s = none := by
  unfold findV
  rw [List.find?_eq_none]
  intro x hx
  obtain ⟨i, hi, e⟩ := List.mem_iff_getElem.1 hx
  rw [h i x (by rw [List.getElem?_eq_getElem hi, e])]
  simp
theorem findV_some {L : List Ent} {s : Int} {k : Nat} {x : Ent} (hk : L[k]? = some x) (hx : isSlot s x = true) (h : ∀ (j : Nat) (y : Ent), j < k → L[j]? = some y → isSlot s y = false) : findV L s = some x := by
  unfold findV
  rw [List.find?_eq_some_iff_getElem]
  obtain ⟨hl, e⟩ := List.getElem?_eq_some_iff.1 hk
  exact ⟨hx, k, hl, e, fun j hj => by rw [h j _ hj (List.getElem?_eq_getElem (by omega))]; rfl⟩
theorem is_calls (w : World) (x : Ent) (p : Nat) (s : Int) (hp : w.cell? ⟨p, 0, none⟩ = some (.int .i64 s)) : Calls Try.prog 29 #[x.val, .pointer (some ⟨p, 0, none⟩)] w (fun e w' => e = .returned (.bool (isSlot s x)) ∧ Keep Nothing w w') := by
  have hu := Try.underlying30
  have HP := Lib.hid (show (w.alloc (.cells x.cs 30)).cell? ⟨p, 0, none⟩ = some (.int .i64 s) from ((Keep.same Nothing w).alloc (.cells x.cs 30)).cell hp (fun h => h))
  have D := (Blk.fresh w 30 x.cs).cell 0
  unfold Ent.cs at D HP
  unfold Ent.val Ent.cs
  go_enter Try.func29, Try.ntmps29
  have hpp := HP.out
  go_wp2_with fail
  go_ret
  exact ⟨rfl, (Keep.same Nothing w).alloc _⟩
set_option maxHeartbeats 3200000 in
theorem find_calls (w : World) (A : Option Addr) (n c : Nat) (L : List Ent) (h : Src w A 7 n (ents L)) (hn : n ≤ 9223372036854775807) (p : Nat) (s : Int) (hp : w.cell? ⟨p, 0, none⟩ = some (.int .i64 s)) :
    Calls Try.prog 28 #[.slice A n c, .func (.func 29) #[] #[.pointer (some ⟨p, 0, none⟩)]] w (fun e w' => e = .returned (.tuple #[(entOr (findV L s)).val, .bool (findV L s).isSome]) ∧ Keep Nothing w w') := by
  have hu := Try.underlying30
  have HS := Lib.hid h
  have HL := Lib.hid (src_len h)
  have HP := Lib.hid hp
  have K0 := Lib.hid ((Keep.same Nothing w).alloc (.cells zes 30))
  have B0 := Lib.hid (Blk.fresh w 30 zes)
  clear h hp
  go_enter Try.func28, Try.ntmps28
  go_wp2_with fail
  go_loopw [11] (fun v wr => ∃ k : Nat, k ≤ n ∧ v = .int .i64 k ∧ Keep Nothing w wr ∧ Blk wr w.heap.size 30 zes ∧ ∀ (j : Nat) (y : Ent), j < k → L[j]? = some y → isSlot s y = false) (fun v _ => n - (intOf v).toNat)
  case atStart => exact ⟨0, by omega, by simp, K0.out, B0.out, fun j y hj => by omega⟩
  case round =>
    obtain ⟨k, hk, rfl, hkk, hbb, hne⟩ := hrel
    have K := Lib.hid hkk
    have B := Lib.hid hbb
    have NE := Lib.hid hne
    clear hkk hbb hne
    by_cases hlt : k < n
    · obtain ⟨ad, x, rfl, hx, he⟩ := ent_at HS.out hlt
      obtain ⟨c0, c1, c2, c3, c4, c5, c6⟩ := he.keep K.out (fun h => h)
      have HX := Lib.hid hx
      have KA := Lib.hid (K.out.alloc (.cells x.cs 30))
      have BA := Lib.hid (B.out.alloc (.cells x.cs 30))
      have HI := Lib.hid (is_calls (wr.alloc (.cells x.cs 30)) x p s (KA.out.cell HP.out (fun h => h)))
      have DA := Lib.hid (Blk.fresh wr 30 x.cs)
      clear hx he
      cases hi : isSlot s x with
      | true =>
        rw [hi] at HI
        have FS := Lib.hid (findV_some HX.out hi NE.out)
        clear hi
        go_wp2_with fail
        refine HI.out.mono ?_
        rintro e w2 ⟨rfl, hk2⟩
        have K2 := Lib.hid (KA.out.then hk2)
        have B2 := Lib.hid (BA.out.keep hk2 (fun h => h))
        have D2 := DA.out.keep hk2 (fun h => h)
        have e0 := D2.cell 0
        have e1 := D2.cell 1
        have e2 := D2.cell 2
        have e3 := D2.cell 3
        have e4 := D2.cell 4
        have e5 := D2.cell 5
        have e6 := D2.cell 6
        obtain ⟨r0, f0, r1, f1, r2, f2, r3, f3, r4, f4, r5, f5, r6, f6, q0, q1, q2, q3, q4, q5, q6, p0, p1, p2, p3, p4, p5⟩ := store7 B2.out (.int .i64 x.a) (.int .i64 x.b) (.int .i64 x.c.k) (.int .i64 x.c.s) (.int .i64 x.c.q) (.string x.c.nm) (.int .i64 x.c.n)
        have K3 := Lib.hid (blks7 B2.out (.int .i64 x.a) (.int .i64 x.b) (.int .i64 x.c.k) (.int .i64 x.c.s) (.int .i64 x.c.q) (.string x.c.nm) (.int .i64 x.c.n)).2
        clear hk2 D2 c0 c1 c2 c3 c4 c5 c6
        go_wp2_with fail
        refine bodyPost_ret (v := .tuple #[x.val, .bool true]) (by simp [results, Try.results28, go_sem, hu, p0, p1, p2, p3, p4, p5, q0, q1, q2, q3, q4, q5, q6]) rfl ?_
        exact ⟨by rw [FS.out]; rfl, K2.out.trans K3.out (fun i hi => .inr (by omega))⟩
      | false =>
        rw [hi] at HI
        have HF := Lib.hid hi
        clear hi
        go_wp2_with fail
        refine HI.out.mono ?_
        rintro e w2 ⟨rfl, hk2⟩
        have K2 := Lib.hid (KA.out.then hk2)
        have B2 := Lib.hid (BA.out.keep hk2 (fun h => h))
        clear hk2 c0 c1 c2 c3 c4 c5 c6
        go_wp2_with fail
        go_roundw
        case rel => exact ⟨k + 1, by omega, by go_num, K2.out, B2.out, fun j y hj hy => by
          by_cases h : j < k
          · exact NE.out j y h hy
          · obtain rfl : j = k := by omega
            rw [HX.out] at hy
            injection hy with hy
            subst hy
            exact HF.out⟩
        case measure => simp [intOf]; omega
    · obtain rfl : k = n := by omega
      have FS := Lib.hid (findV_none (L := L) (s := s) (fun j x hx => NE.out j x (by have := (List.getElem?_eq_some_iff.1 hx).1; have := HL.out; omega) hx))
      have KA := Lib.hid (K.out.alloc (.cells zes 30))
      have BA := Lib.hid (B.out.alloc (.cells zes 30))
      obtain ⟨r0, f0, r1, f1, r2, f2, r3, f3, r4, f4, r5, f5, r6, f6, q0, q1, q2, q3, q4, q5, q6, p0, p1, p2, p3, p4, p5⟩ := store7 BA.out (.int .i64 0) (.int .i64 0) (.int .i64 0) (.int .i64 0) (.int .i64 0) (.string ⟨#[]⟩) (.int .i64 0)
      have K3 := Lib.hid (blks7 BA.out (.int .i64 0) (.int .i64 0) (.int .i64 0) (.int .i64 0) (.int .i64 0) (.string ⟨#[]⟩) (.int .i64 0)).2
      go_wp2_with fail
      refine bodyPost_ret (v := .tuple #[.agg zes, .bool false]) (by simp [results, Try.results28, go_sem, hu, p0, p1, p2, p3, p4, p5, q0, q1, q2, q3, q4, q5, q6]) rfl ?_
      exact ⟨by rw [FS.out]; rfl, KA.out.trans K3.out (fun i hi => .inr (by omega))⟩
end Go.Proofs.Ytcbjmmjjohigmaa.A
