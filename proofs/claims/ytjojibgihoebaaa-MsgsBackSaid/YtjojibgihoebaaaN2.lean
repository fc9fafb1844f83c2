/-
  Messages: their bytes, in plain Lean; rows of entries.
-/
import Derived.Test.YtjojibgihoebaaaT10
import Derived.Test.YtjojibgihoebaaaV2
import Derived.Test.YtjojibgihoebaaaZ
import Derived.Test.YtjojibgihoebaaaG
import Derived.Test.YtjojibgihoebaaaV1
namespace Go.Proofs.Ytjojibgihoebaaa.A
open Go.RowKit Go.Proofs.Ytjojibgihoebaaa.U
set_option linter.unusedVariables false
set_option linter.unusedSimpArgs false
set_option maxRecDepth 100000

structure Rep where
  s : Int
  q : Int
  e : Int
  k : Nat
  n : Int
structure Msg where
  k : Int
  f : Int
  t : Int
  b : Int
  s : Int
  r : Int
  z : Int
  e : Int
  es : List Ent
  c : Cmd
  p : Rep
  x : ByteArray
abbrev rcs (p : Rep) : Array Value := #[.int .i64 p.s, .int .i64 p.q, .int .i64 p.e, .int .u64 p.k, .int .i64 p.n]
/-- A message's cells; its entries lie at A. -/
abbrev mcsv (m : Msg) (v : Value) : Array Value := #[.int .i64 m.k, .int .i64 m.f, .int .i64 m.t, .int .i64 m.b, .int .i64 m.s, .int .i64 m.r, .int .i64 m.z, .int .i64 m.e, v, .int .i64 m.c.k, .int .i64 m.c.s, .int .i64 m.c.q, .string m.c.nm, .int .i64 m.c.n, .int .i64 m.p.s, .int .i64 m.p.q, .int .i64 m.p.e, .int .u64 m.p.k, .int .i64 m.p.n, .string m.x]
abbrev mcs (m : Msg) (A : Option Addr) (c : Nat) : Array Value := mcsv m (.slice A m.es.length c)
abbrev mval (m : Msg) (A : Option Addr) (c : Nat) : Value := .agg (mcs m A c)
/-- A number and its bounds. -/
structure Sp where
  n : Int
  lo : Int
  hi : Int
abbrev Sp.cl (x : Sp) : List Value := [.int .i64 x.n, .int .i64 x.lo, .int .i64 x.hi]
def sps (L : List Sp) : List Value := L.flatMap Sp.cl
def Sp.ok (x : Sp) : Bool := inB x.n x.lo x.hi
def spansL (m : Msg) : List Sp := [⟨m.k, 1, 15⟩, ⟨m.f, 0, 12⟩, ⟨m.t, 0, 12⟩, ⟨m.b, 0, 1099511627776⟩, ⟨m.s, -1, 1099511627776⟩, ⟨m.r, 0, 1099511627776⟩, ⟨m.z, 0, 1073741824⟩, ⟨m.e, 0, 255⟩, ⟨(m.es.length : Int), 0, 4096⟩]
def repliesL (p : Rep) : List Sp := [⟨p.s, 0, 1073741824⟩, ⟨p.q, 0, 1073741824⟩, ⟨p.e, 0, 255⟩, ⟨p.n, 0, 1073741824⟩]
theorem sps_cons (x : Sp) (L : List Sp) : sps (x :: L) = x.cl ++ sps L := rfl
theorem sps_len (L : List Sp) : (sps L).length = L.length * 3 := by
  induction L with
  | nil => rfl
  | cons x L ih => rw [sps_cons, List.length_append, ih, List.length_cons]; simp only [List.length_cons, List.length_nil]; omega
theorem sps_drop (L : List Sp) : ∀ k, (sps L).drop (k * 3) = sps (L.drop k) := by
  induction L with
  | nil => intro k; simp [sps]
  | cons x L ih =>
    intro k
    cases k with
    | zero => simp
    | succ k => rw [sps_cons, List.drop_succ_cons, ← ih k, List.drop_append, List.drop_eq_nil_of_le (by simp; omega), List.nil_append]; congr 1; simp only [List.length_cons, List.length_nil]; omega
theorem sps_get {L : List Sp} {k : Nat} {x : Sp} (h : L[k]? = some x) (j : Nat) (hj : j < 3) : (sps L)[k * 3 + j]? = x.cl[j]? := by
  obtain ⟨hk, he⟩ := List.getElem?_eq_some_iff.1 h
  rw [← List.getElem?_drop, sps_drop, List.drop_eq_getElem_cons hk, he, sps_cons, List.getElem?_append_left (by simp; omega)]
def SpAt (w : World) (p : Addr) (x : Sp) : Prop := w.cell? p = some (.int .i64 x.n) ∧ w.cell? ⟨p.block, p.off + 1, none⟩ = some (.int .i64 x.lo) ∧ w.cell? ⟨p.block, p.off + 2, none⟩ = some (.int .i64 x.hi)
theorem sp_at {w : World} {A : Option Addr} {L : List Sp} {k : Nat} (h : U.Src w A 3 L.length (sps L)) (hk : k < L.length) : ∃ (ad : Addr) (x : Sp), A = some ad ∧ L[k]? = some x ∧ SpAt w (ad.add (k * 3)) x := by
  obtain ⟨ad, rfl, hc⟩ := h.2 (by omega)
  have hx : L[k]? = some (L[k]'(by omega)) := List.getElem?_eq_getElem (by omega)
  have g : ∀ j u, (L[k]'(by omega)).cl[j]? = some u → w.cell? (ad.add (k * 3 + j)) = some u := fun j u hu => hc _ _ (by
    rw [sps_get hx j (by have := (List.getElem?_eq_some_iff.1 hu).1; simpa using this)]; exact hu)
  have g' : ∀ j u, 0 < j → (L[k]'(by omega)).cl[j]? = some u → w.cell? ⟨(ad.add (k * 3)).block, (ad.add (k * 3)).off + j, none⟩ = some u := fun j u hj hu => by
    rw [← addLater ad (k * 3) j hj]; exact g j u hu
  exact ⟨ad, _, rfl, hx, g 0 _ rfl, g' 1 _ (by omega) rfl, g' 2 _ (by omega) rfl⟩
theorem SpAt.keep {w w' : World} {p : Addr} {x : Sp} {S : Nat → Prop} (h : SpAt w p x) (hk : Keep S w w') (hn : ¬ S p.block) : SpAt w' p x :=
  ⟨hk.cell h.1 hn, hk.cell h.2.1 hn, hk.cell h.2.2 hn⟩
theorem src_kept {w w' : World} {A : Option Addr} {s n : Nat} {xs : List Value} (h : U.Src w A s n xs) (hk : Keep Nothing w w') : U.Src w' A s n xs :=
  ⟨h.1, fun hn => let ⟨ad, e, hc⟩ := h.2 hn; ⟨ad, e, fun j u hu => hk.cell (hc j u hu) (fun h => h)⟩⟩
theorem all_at {L : List Sp} {k : Nat} {x : Sp} (h : L[k]? = some x) : (L.drop k).all Sp.ok = (x.ok && (L.drop (k + 1)).all Sp.ok) := by
  obtain ⟨hk, he⟩ := List.getElem?_eq_some_iff.1 h
  rw [List.drop_eq_getElem_cons hk, he]
  rfl
set_option maxHeartbeats 3200000 in
theorem mwithin_calls (w : World) (A : Option Addr) (c : Nat) (L : List Sp) (h : U.Src w A 3 L.length (sps L)) (hL : L.length ≤ 1000) :
    Calls Try.prog 60 #[.slice A L.length c] w (fun e w' => e = .returned (.bool (L.all Sp.ok)) ∧ Keep Nothing w w') := by
  have hu := Try.underlying106
  have HS := Lib.hid h
  clear h
  go_enter Try.func60, Try.ntmps60
  go_wp2_with fail
  go_loopw [7] (fun v wr => ∃ k : Nat, k ≤ L.length ∧ v = .int .i64 k ∧ Hid (L.all Sp.ok = (L.drop k).all Sp.ok) ∧ Hid (Keep Nothing w wr)) (fun v _ => L.length - (intOf v).toNat)
  case atStart => exact ⟨0, by omega, by simp, Lib.hid rfl, Lib.hid (Keep.same _ _)⟩
  case round =>
    obtain ⟨k, hk, rfl, hok, hkp⟩ := hrel
    by_cases hlt : k < L.length
    · obtain ⟨ad, x, rfl, hx, hat⟩ := sp_at HS.out hlt
      obtain ⟨c0, c1, c2⟩ := hat.keep hkp.out (fun h => h)
      have HO := Lib.hid (hok.out.trans (all_at hx))
      clear hok hx hat
      have g := show x.ok = (decide (x.lo ≤ x.n) && decide (x.n ≤ x.hi)) by unfold Sp.ok inB; rw [Bool.decide_and]
      rcases (show (decide (x.n < x.lo) = true ∧ x.ok = false) ∨ (decide (x.n < x.lo) = false ∧ decide (x.hi < x.n) = true ∧ x.ok = false) ∨ (decide (x.n < x.lo) = false ∧ decide (x.hi < x.n) = false ∧ x.ok = true) by
        rw [g]
        by_cases h1 : x.n < x.lo
        · exact .inl ⟨decide_eq_true h1, by rw [decide_eq_false (by omega)]; rfl⟩
        · by_cases h2 : x.hi < x.n
          · exact .inr (.inl ⟨decide_eq_false h1, decide_eq_true h2, by rw [decide_eq_false (show ¬ x.n ≤ x.hi by omega), Bool.and_false]⟩)
          · exact .inr (.inr ⟨decide_eq_false h1, decide_eq_false h2, by rw [decide_eq_true (show x.lo ≤ x.n by omega), decide_eq_true (show x.n ≤ x.hi by omega)]; rfl⟩)) with ⟨g1, g3⟩ | ⟨g1, g2, g3⟩ | ⟨g1, g2, g3⟩
      all_goals rw [g3] at HO
      all_goals clear g g3
      · go_wp2_with fail
        go_ret
        exact ⟨by rw [HO.out]; rfl, hkp.out.alloc _⟩
      · go_wp2_with fail
        go_ret
        exact ⟨by rw [HO.out]; rfl, hkp.out.alloc _⟩
      · rw [Bool.true_and] at HO
        go_wp2_with fail
        go_roundw
        case rel => exact ⟨k + 1, by omega, by go_num, HO, Lib.hid (hkp.out.alloc _)⟩
        case measure => simp [intOf]; omega
    · obtain rfl : k = L.length := by omega
      have HO := Lib.hid (show L.all Sp.ok = true by rw [hok.out, List.drop_length]; rfl)
      clear hok
      go_wp2_with fail
      go_ret
      exact ⟨by rw [HO.out]; rfl, hkp.out⟩
/-- Spans that a call gives, in new memory. -/
def FreshSp (L : List Sp) (w : World) (e : Ending) (w' : World) : Prop := ∃ g, e = .returned (.slice (some ⟨g, 0, none⟩) L.length L.length) ∧ Blk w' g 106 (sps L).toArray ∧ Keep Nothing w w' ∧ w.heap.size ≤ g
theorem sp_blk {w : World} {g : Nat} {L : List Sp} (h : Blk w g 106 (sps L).toArray) : U.Src w (some ⟨g, 0, none⟩) 3 L.length (sps L) :=
  ⟨sps_len L, fun _ => ⟨_, rfl, fun j u hu => by rw [addAt, h.cell]; simpa using hu⟩⟩
set_option maxHeartbeats 3200000 in
theorem spans_calls (w : World) (m : Msg) (A : Option Addr) (c : Nat) : Calls Try.prog 61 #[mval m A c] w (FreshSp (spansL m) w) := by
  have hu := Try.underlying79
  have X := Blk.fresh w 79 (mcs m A c)
  have x0 := X.cell 0
  have x1 := X.cell 1
  have x2 := X.cell 2
  have x3 := X.cell 3
  have x4 := X.cell 4
  have x5 := X.cell 5
  have x6 := X.cell 6
  have x7 := X.cell 7
  have x8 := X.cell 8
  clear X
  go_enter Try.func61, Try.ntmps61
  go_wp2_with fail
  go_ret
  refine ⟨w.heap.size + 1, by simp [spansL], ?_, ((Keep.same _ _).alloc _).alloc _, by omega⟩
  have := Blk.fresh (w.alloc (.cells (mcs m A c) 79)) 106 (sps (spansL m)).toArray
  rw [show (w.alloc (.cells (mcs m A c) 79)).heap.size = w.heap.size + 1 by simp] at this
  exact this
set_option maxHeartbeats 3200000 in
theorem replies_calls (w : World) (p : Rep) : Calls Try.prog 62 #[.agg (rcs p)] w (FreshSp (repliesL p) w) := by
  have hu := Try.underlying77
  go_enter Try.func62, Try.ntmps62
  go_wp2_with fail
  go_ret
  refine ⟨w.heap.size + 1, by simp [repliesL], ?_, ((Keep.same _ _).alloc _).alloc _, by omega⟩
  have := Blk.fresh (w.alloc (.cells (rcs p) 77)) 106 (sps (repliesL p)).toArray
  rw [show (w.alloc (.cells (rcs p) 77)).heap.size = w.heap.size + 1 by simp] at this
  exact this
end Go.Proofs.Ytjojibgihoebaaa.A
namespace Go.Proofs.Ytjojibgihoebaaa.A
open Go.RowKit Go.Proofs.Ytjojibgihoebaaa.U
set_option linter.unusedVariables false
set_option linter.unusedSimpArgs false
set_option maxRecDepth 100000

/-! ### Rows of entries -/
abbrev Ent.cl (x : Ent) : List Value := [.int .i64 x.a, .int .i64 x.b, .int .i64 x.c.k, .int .i64 x.c.s, .int .i64 x.c.q, .string x.c.nm, .int .i64 x.c.n]
theorem EE : Elem Try.prog 75 54 7 64 (.agg #[.int .i64 0, .int .i64 0, .int .i64 0, .int .i64 0, .int .i64 0, .string ⟨#[]⟩, .int .i64 0]) := ⟨Try.underlying75, by kernel_rfl, by rfl, by decide⟩
def ents (L : List Ent) : List Value := L.flatMap Ent.cl
theorem ents_app (L M : List Ent) : ents (L ++ M) = ents L ++ ents M := by simp [ents]
theorem ents_cons (x : Ent) (L : List Ent) : ents (x :: L) = x.cl ++ ents L := rfl
theorem ents_one1 (x : Ent) : ents [x] = x.cl := by simp [ents]
theorem ents_len (L : List Ent) : (ents L).length = L.length * 7 := by
  induction L with
  | nil => rfl
  | cons x L ih => rw [ents_cons, List.length_append, ih, List.length_cons]; simp only [List.length_cons, List.length_nil]; omega
theorem ents_one (L : List Ent) : ∀ u ∈ ents L, u.oneCell' = true := by
  intro u hu
  obtain ⟨x, _, h⟩ := List.mem_flatMap.1 hu
  simp only [Ent.cl, List.mem_cons, List.not_mem_nil, or_false] at h
  rcases h with rfl | rfl | rfl | rfl | rfl | rfl | rfl <;> rfl
theorem ents_drop (L : List Ent) : ∀ k, (ents L).drop (k * 7) = ents (L.drop k) := by
  induction L with
  | nil => intro k; simp [ents]
  | cons x L ih =>
    intro k
    cases k with
    | zero => simp
    | succ k => rw [ents_cons, List.drop_succ_cons, ← ih k, List.drop_append, List.drop_eq_nil_of_le (by simp; omega), List.nil_append]; congr 1; simp only [List.length_cons, List.length_nil]; omega
theorem ents_get {L : List Ent} {k : Nat} {x : Ent} (h : L[k]? = some x) (j : Nat) (hj : j < 7) : (ents L)[k * 7 + j]? = x.cl[j]? := by
  obtain ⟨hk, he⟩ := List.getElem?_eq_some_iff.1 h
  rw [← List.getElem?_drop, ents_drop, List.drop_eq_getElem_cons hk, he, ents_cons, List.getElem?_append_left (by simp; omega)]
def EntAt (w : World) (p : Addr) (x : Ent) : Prop :=
  w.cell? p = some (.int .i64 x.a) ∧ w.cell? ⟨p.block, p.off + 1, none⟩ = some (.int .i64 x.b) ∧ w.cell? ⟨p.block, p.off + 2, none⟩ = some (.int .i64 x.c.k) ∧ w.cell? ⟨p.block, p.off + 3, none⟩ = some (.int .i64 x.c.s) ∧
  w.cell? ⟨p.block, p.off + 4, none⟩ = some (.int .i64 x.c.q) ∧ w.cell? ⟨p.block, p.off + 5, none⟩ = some (.string x.c.nm) ∧ w.cell? ⟨p.block, p.off + 6, none⟩ = some (.int .i64 x.c.n)
theorem ent_at {w : World} {A : Option Addr} {L : List Ent} {n k : Nat} (h : U.Src w A 7 n (ents L)) (hk : k < n) : ∃ (ad : Addr) (x : Ent), A = some ad ∧ L[k]? = some x ∧ EntAt w (ad.add (k * 7)) x := by
  have hl : L.length = n := by have := h.1; rw [ents_len] at this; omega
  obtain ⟨ad, rfl, hc⟩ := h.2 (by omega)
  have hx : L[k]? = some (L[k]'(by omega)) := List.getElem?_eq_getElem (by omega)
  have g : ∀ j u, (L[k]'(by omega)).cl[j]? = some u → w.cell? (ad.add (k * 7 + j)) = some u := fun j u hu => hc _ _ (by
    rw [ents_get hx j (by have := (List.getElem?_eq_some_iff.1 hu).1; simpa using this)]; exact hu)
  have g' : ∀ j u, 0 < j → (L[k]'(by omega)).cl[j]? = some u → w.cell? ⟨(ad.add (k * 7)).block, (ad.add (k * 7)).off + j, none⟩ = some u := fun j u hj hu => by
    rw [← addLater ad (k * 7) j hj]; exact g j u hu
  exact ⟨ad, _, rfl, hx, g 0 _ rfl, g' 1 _ (by omega) rfl, g' 2 _ (by omega) rfl, g' 3 _ (by omega) rfl, g' 4 _ (by omega) rfl, g' 5 _ (by omega) rfl, g' 6 _ (by omega) rfl⟩
theorem EntAt.keep {w w' : World} {p : Addr} {x : Ent} {S : Nat → Prop} (h : EntAt w p x) (hk : Keep S w w') (hn : ¬ S p.block) : EntAt w' p x := by
  obtain ⟨h0, h1, h2, h3, h4, h5, h6⟩ := h
  exact ⟨hk.cell h0 hn, hk.cell h1 hn, hk.cell h2 hn, hk.cell h3 hn, hk.cell h4 hn, hk.cell h5 hn, hk.cell h6 hn⟩
/-! ### A message's bytes -/
def headB (m : Msg) : Bool := (spansL m).all Sp.ok && (repliesL m.p).all Sp.ok
def mayM (m : Msg) : Bool := (spansL m).all Sp.ok && ((repliesL m.p).all Sp.ok && (decide (m.x.size ≤ 524288) && (m.es.all entB && mayB m.c)))
def hdL (L : List Sp) : List UInt8 := L.flatMap fun s => u64L (zig s.n)
def entL1 (x : Ent) : List UInt8 := u64L (entS x).size ++ (entS x).data.toList
def entsL (L : List Ent) : List UInt8 := L.flatMap entL1
def tlL (m : Msg) : List UInt8 := u64L (encS m.c).size ++ ((encS m.c).data.toList ++ (u64L (zig m.p.s) ++ (u64L (zig m.p.q) ++ (u64L (zig m.p.e) ++ (u64L m.p.k ++ (u64L (zig m.p.n) ++ (u64L m.x.size ++ (m.x.data.toList ++ []))))))))
def msgL (m : Msg) : List UInt8 := hdL (spansL m) ++ (entsL m.es ++ tlL m)
def msgOk (m : Msg) : Bool := mayM m && decide ((msgL m).length ≤ 524288)
def msgS (m : Msg) : ByteArray := if msgOk m then ofL (msgL m) else ByteArray.empty
structure MIn (m : Msg) : Prop where
  sp : ∀ x ∈ spansL m, I64 x.n
  rp : ∀ x ∈ repliesL m.p, I64 x.n
  k : m.p.k < 18446744073709551616
  c : In64 m.c
  es : ∀ x ∈ m.es, EIn64 x
theorem hdL_next {L : List Sp} {k : Nat} {x : Sp} (h : L[k]? = some x) : hdL (L.take (k + 1)) = hdL (L.take k) ++ u64L (zig x.n) := by
  unfold hdL
  rw [List.take_add_one, h, List.flatMap_append]
  simp
theorem entsL_next {L : List Ent} {k : Nat} {x : Ent} (h : L[k]? = some x) : entsL (L.take (k + 1)) = entsL (L.take k) ++ entL1 x := by
  unfold entsL
  rw [List.take_add_one, h, List.flatMap_append]
  simp
theorem entB_all {L : List Ent} {k : Nat} {x : Ent} (h : L[k]? = some x) : (L.drop k).all entB = (entB x && (L.drop (k + 1)).all entB) := by
  obtain ⟨hk, he⟩ := List.getElem?_eq_some_iff.1 h
  rw [List.drop_eq_getElem_cons hk, he]
  rfl
theorem hdL_len {L : List Sp} (h : ∀ x ∈ L, I64 x.n) (k : Nat) : (hdL (L.take k)).length ≤ 10 * k := by
  induction k with
  | zero => simp [hdL]
  | succ k ih =>
    by_cases hk : k < L.length
    · have hx : L[k]? = some L[k] := List.getElem?_eq_getElem hk
      have h6 := h _ (List.mem_of_getElem? hx)
      have := u64L_len10 _ (zig_lt h6.1 h6.2)
      rw [hdL_next hx, List.length_append]
      omega
    · rw [List.take_of_length_le (by omega)] at ih ⊢
      omega
theorem entS_size {x : Ent} (hx : EIn64 x) : (entS x).size ≤ 240 := by
  unfold entS
  split
  · have l1 := u64L_len10 _ (zig_lt hx.a.1 hx.a.2)
    have l2 := u64L_len10 _ (zig_lt hx.b.1 hx.b.2)
    have l3 := encS_size hx.c
    have l4 := u64L_len10 (encS x.c).size (by omega)
    have l5 := size_list (encS x.c)
    rw [ofL_size]
    unfold entL
    simp only [List.length_append, List.length_nil]
    omega
  · show 0 ≤ 240
    omega
theorem entL1_len {x : Ent} (hx : EIn64 x) : (entL1 x).length ≤ 250 := by
  have h := entS_size hx
  have l4 := u64L_len10 (entS x).size (by omega)
  have l5 := size_list (entS x)
  unfold entL1
  rw [List.length_append]
  omega
theorem entsL_len {L : List Ent} (h : ∀ x ∈ L, EIn64 x) (k : Nat) : (entsL (L.take k)).length ≤ 250 * k := by
  induction k with
  | zero => simp [entsL]
  | succ k ih =>
    by_cases hk : k < L.length
    · have hx : L[k]? = some L[k] := List.getElem?_eq_getElem hk
      have := entL1_len (h _ (List.mem_of_getElem? hx))
      rw [entsL_next hx, List.length_append]
      omega
    · rw [List.take_of_length_le (by omega)] at ih ⊢
      omega
theorem span_len {m : Msg} (h : (spansL m).all Sp.ok = true) : m.es.length ≤ 4096 := by
  have := List.all_eq_true.1 h ⟨(m.es.length : Int), 0, 4096⟩ (by simp [spansL])
  unfold Sp.ok inB at this
  have := (of_decide_eq_true this).2
  show m.es.length ≤ 4096
  simp at this
  omega
theorem spans_len (m : Msg) : (spansL m).length = 9 := rfl
end Go.Proofs.Ytjojibgihoebaaa.A
