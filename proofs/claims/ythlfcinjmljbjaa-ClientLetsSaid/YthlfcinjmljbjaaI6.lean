/-
  ClientLets: for all names, a client holds what it was granted, and nothing that it let go of.
-/
import Derived.Test.YthlfcinjmljbjaaI4
namespace Go.Proofs.Ythlfcinjmljbjaa.A
open Go.RowKit Go.Proofs.Ythlfcinjmljbjaa.U
set_option linter.unusedVariables false
set_option linter.unusedSimpArgs false
set_option maxRecDepth 100000
set_option maxHeartbeats 3200000

/-- The client behind its opening. -/
abbrev LE (q : Int) (L : List Hd) (o : Option Oc) : CS := ⟨2, 3, 1, 0, 3, q, true, o, 700, false, 0, L⟩
abbrev xLk (s : ByteArray) : Cmd := ⟨5, 0, 0, s, 0⟩
abbrev xUn (s : ByteArray) : Cmd := ⟨6, 0, 0, s, 0⟩
def fitN (s : ByteArray) : Prop := 1 ≤ s.size ∧ s.size ≤ 64
theorem may_lk {s : ByteArray} {k : Int} (hk : k = 5 ∨ k = 6) : MayP (askC ⟨k, 0, 0, s, 0⟩) ↔ fitN s := by
  unfold MayP fitN
  constructor
  · rintro (h | h | h | h | h | h | h)
    · have := h.1; dsimp only at this; omega
    · have := h.1; dsimp only at this; omega
    · have := h.1; dsimp only at this; omega
    · have := h.1; dsimp only at this; omega
    · have := h.1; dsimp only at this; omega
    · have := h.1; dsimp only at this; omega
    · exact ⟨h.2.2.2.2.2.1, h.2.2.2.2.2.2.1⟩
  · intro h
    refine .inr (.inr (.inr (.inr (.inr (.inr ⟨?_, by show (1 : Int) ≤ 1; decide, by show (1 : Int) ≤ 1073741824; decide, by show (1 : Int) ≤ 1; decide, by show (1 : Int) ≤ 1073741824; decide, h.1, h.2, rfl⟩)))))
    rcases hk with h | h
    · exact .inl h
    · exact .inr (.inl h)
theorem lkE {q : Int} {L : List Hd} {s : ByteArray} {k : Int} (hk : k = 5 ∨ k = 6) (h : fitN s) : callE (LE q L none) ⟨k, 0, 0, s, 0⟩ = 0 := by
  unfold callE
  rw [if_neg (by show ¬ (k < 2 ∨ k = 4); omega), if_neg (by rw [may_t ((may_lk hk).2 h)]; decide), if_neg (by show ¬ (false = true ∨ (k = 2 ∧ _)); rintro (h | ⟨h, _⟩); cases h; omega), if_neg (by show ¬ k = 2; omega), if_neg (by show ¬ (3 : Int) = 0; decide)]
theorem lkN {q : Int} {L : List Hd} {s : ByteArray} {k : Int} (hk : k = 5 ∨ k = 6) (h : ¬ fitN s) : callE (LE q L none) ⟨k, 0, 0, s, 0⟩ = 1 := by
  unfold callE
  rw [if_neg (by show ¬ (k < 2 ∨ k = 4); omega), if_pos (may_f (fun h' => h ((may_lk hk).1 h')))]
theorem lkS (q : Int) (L : List Hd) (s : ByteArray) (now : Int) : callS (LE q L none) (xLk s) now = LE (q + 1) L (some ⟨⟨5, 3, q + 1, s, 0⟩, now, now⟩) := by rfl
theorem unS (q : Int) (L : List Hd) (s : ByteArray) (now : Int) : callS (LE q L none) (xUn s) now = LE (q + 1) (letL L s false) (some ⟨⟨6, 3, q + 1, s, 0⟩, now, now⟩) := by rfl
theorem tlS (q : Int) (L : List Hd) (s : ByteArray) (t now : Int) : handleS (LE q L (some ⟨⟨5, 3, q, s, 0⟩, 1, 1⟩)) (tellM ⟨3, q, 0, t, 0⟩) now = (LE q (holdL L ⟨s, false, t⟩) none, 1) := by
  unfold handleS
  rw [if_neg (by show ¬ ¬ ((7 : Int) = 5 + 2 ∧ (0 : Int) ≤ 0 ∧ (0 : Int) < 3); decide), if_pos (by rfl)]
  show (if (⟨⟨5, 3, q, s, 0⟩, 1, 1⟩ : Oc).session = 3 ∧ q = q then _ else _) = _
  rw [if_pos ⟨by rfl, rfl⟩]
  rfl
theorem opS (now : Int) : callS (newC 2 3 1) xOpen 0 = ⟨2, 3, 1, 0, 0, 0, false, some ⟨⟨2, 2, 1, ⟨#[]⟩, 0⟩, 0, 0⟩, 0, false, 0, []⟩ := by rfl
theorem opH : handleS ⟨2, 3, 1, 0, 0, 0, false, some ⟨⟨2, 2, 1, ⟨#[]⟩, 0⟩, 0, 0⟩, 0, false, 0, []⟩ (tellM ⟨0, 1, 0, 0, 3⟩) 0 = (LE 0 [] none, 1) := by rfl
/-- What is held: writers' locks, of names that may be. -/
def Mine (L : List Hd) : Prop := ∀ y ∈ L, y.rd = false ∧ fitN y.nm
theorem mine_hold {L : List Hd} {s : ByteArray} {t : Int} (h : Mine L) (hs : fitN s) : Mine (holdL L ⟨s, false, t⟩) := by
  intro y hy
  unfold holdL at hy
  rcases List.mem_append.1 hy with hy | hy
  · exact h y (mem_low hy).1
  · rcases List.mem_cons.1 hy with rfl | hy
    · exact ⟨rfl, hs⟩
    · exact h y (mem_hi hy).1
theorem look_let {L : List Hd} (h : Mine L) (s : ByteArray) : lookH (letL L s false) s = none := by
  unfold letL
  cases hl : lookH L s with
  | none => exact hl
  | some y =>
    have := (h y (List.mem_of_find?_eq_some hl)).1
    simp only [if_pos this]
    exact look_gone L s
theorem look_unfit {L : List Hd} (h : Mine L) {s : ByteArray} (hs : ¬ fitN s) : lookH L s = none := by
  unfold lookH
  rw [List.find?_eq_none]
  intro y hy
  simp only [decide_eq_true_eq]
  intro e
  exact hs (e ▸ (h y hy).2)
theorem holds_some {q : Int} {L : List Hd} {o : Option Oc} {s : ByteArray} {now : Int} {y : Hd} (hn : now < 700) (h : lookH L s = some y) : holdsR (LE q L o) s now = (y, true) := by
  unfold holdsR
  rw [if_pos (by unfold CS.valid; simp [hn]), h]
theorem holds_none {q : Int} {L : List Hd} {o : Option Oc} {s : ByteArray} {now : Int} (hn : now < 700) (h : lookH L s = none) : holdsR (LE q L o) s now = (⟨.empty, false, 0⟩, false) := by
  unfold holdsR
  rw [if_pos (by unfold CS.valid; simp [hn]), h]
def strC (s : ByteArray) : List Value := [.string s]
theorem str_all {w : World} {B : Nat} {A : Option Addr} {len : Nat} {l : List ByteArray} (h : R.Args w B A len 1 strC l) {k : Nat} (hk : k < len) :
    ∃ (ad : Addr) (x : ByteArray), A = some ad ∧ l[k]? = some x ∧ ∀ w', Below B w w' → w'.cell? (ad.add k) = some (.string x) := by
  have hl := h.1
  have hx : l[k]? = some (l[k]'(by omega)) := List.getElem?_eq_getElem (by omega)
  obtain ⟨ad, e, hB, hc⟩ := h.2 k _ hx
  have hb : (ad.add (k * 1)).block < B := by rw [addBlock]; exact hB
  refine ⟨ad, _, e, hx, fun w' hw => ?_⟩
  have := (hw.cell hb).trans (hc 0 _ rfl)
  rwa [Nat.mul_one] at this
open Go.ChangeShapes Go.WideShapes Go.ChangeAt in
theorem open_strs {H : Type} {enc : TypeId × Value → H} {W : World} {base : Nat} {v : Value} {d : DataW H} {p : List MemPlace}
    (hv : Value.okWide Try.prog W .any base 44 v) (h : DataW.Trod enc Try.prog W 0 (fun _ => true) true 44 v d p) (hlt : ∀ x ∈ p, x.block < W.heap.size) (hw : R.Light 44 d) :
    ∃ A len cap l, v = .slice A len cap ∧ len ≤ cap ∧ cap ≤ maxLen ∧ R.Args W W.heap.size A len 1 strC l := by
  obtain ⟨A, len, cap, rfl, hc1, hc2, _, hel⟩ := R.open_arg Try.underlying44 cells9' hv h hlt hw (by omega)
  obtain ⟨l, hl, hp⟩ := R.exists_list (p := fun i (x : ByteArray) => ∃ ad, A = some ad ∧ ad.block < W.heap.size ∧ ∀ j u, (strC x)[j]? = some u → W.cell? (ad.add (i * 1 + j)) = some u) len (fun i hi => by
    obtain ⟨ad, cs, n, y, rfl, hB, hcl, hat, ht, hy, hly⟩ := hel i hi
    obtain ⟨c0, rfl⟩ : ∃ c0, cs = [c0] := by
      match cs, hcl with
      | [c0], _ => exact ⟨c0, rfl⟩
    obtain ⟨x, rfl, wx⟩ := R.cell_string Try.underlying9 ht hly
    exact ⟨x, ad, rfl, hB, fun j u hu => (hat j (by have := (List.getElem?_eq_some_iff.1 hu).1; simpa [strC] using this)).trans hu⟩)
  exact ⟨A, len, cap, l, rfl, hc1, hc2, hl, hp⟩
theorem lets_calls (w : World) (A : Option Addr) (len cap : Nat) (l : List ByteArray) (gn : ByteArray) (hA : R.Args w w.heap.size A len 1 strC l) (hlen : len ≤ cap) (hcap : cap ≤ maxLen) :
    Calls Try.prog 4 #[.slice A len cap, .string gn] w (fun e w' => e = .returned (.bool true) ∧ Keep Nothing w w') := by
  have AW := Lib.hid (fun w => awake7 w)
  have hu46 := Try.underlying46
  have HA := Lib.hid hA
  have hb : ∀ w', Below w.heap.size w w' → Keep Nothing w w' := fun w' h => Keep.of_below h _
  have hmax : maxLen = 9223372036854775807 := by rfl
  have HN := Lib.hid (x_new (Holds.start w) none_stable)
  clear hA
  go_enter Try.func4, Try.ntmps4
  go_wp2_with fail
  refine HN.out.mono ?_
  rintro e w1 ⟨b, rfl, h⟩
  have H1 := Lib.hid h
  have X1 := Lib.hid (x_call h none_stable (by decide) (by decide) (by decide) List.Pairwise.nil xOpen 0)
  unfold Cmd.val Cmd.cs at X1
  clear h
  go_wp2_with fail
  refine X1.out.mono ?_
  rintro e w2 hp
  obtain ⟨g, rfl, h⟩ := call_ok hp e1
  rw [opS 0] at h
  have H2 := Lib.hid h.drop
  clear h hp
  go_wp2_with fail
  refine (tell11 w2 ⟨0, 1, 0, 0, 3⟩).mono ?_
  rintro e w4 ⟨rfl, hk⟩
  have H4 := Lib.hid (H2.out.kept ((cliP_stable _ _).star none_stable) hk)
  have X4 := Lib.hid (x_handle H4.out none_stable (by decide) (by decide) List.Pairwise.nil (by intro o ho; injection ho with ho; subst ho; decide) (tellM ⟨0, 1, 0, 0, 3⟩) (by decide) 0)
  clear hk
  go_wp2_with fail
  refine X4.out.mono ?_
  rintro e w5 hp
  obtain ⟨A5, k5, c5, D5, d5, rfl, h⟩ := hand_one hp opH
  have H5 := Lib.hid h
  clear h hp
  go_wp2_with fail
  generalize hg1 : w.heap.size = b1 at *
  clear hg1
  go_loopw [6, 7] (fun qv v wr => ∃ (k q : Nat) (L : List Hd), k ≤ 50 ∧ q ≤ k ∧ v = .int .i64 k ∧ qv = .int .i64 q ∧ Rise L ∧ Mine L ∧ L.length ≤ k ∧ Holds b1 w wr (star (cliP b (LE q L none)) none_)) (fun _ v _ => 50 - (intOf v).toNat)
  case atStart => exact ⟨0, 0, [], by omega, by omega, by simp, by simp, List.Pairwise.nil, (fun y hy => by cases hy), by simp, H5.out⟩
  case round =>
    obtain ⟨k, q, L, hk, hq, rfl, rfl, hr, hm, hl, hh⟩ := hrel
    have H := Lib.hid hh
    have HR := Lib.hid hr
    have HM := Lib.hid hm
    clear hh hr hm
    by_cases hin : k < len ∧ k < 50
    · obtain ⟨hkl, hk3⟩ := hin
      obtain ⟨ad, s, rfl, hx, hat⟩ := str_all HA.out hkl
      have dd := hat _ H.out.below
      have HAT := Lib.hid hat
      have XC := Lib.hid (x_call H.out none_stable (by show (0 : Int) ≤ 2 ∧ (2 : Int) < 8; decide) (by show (0 : Int) ≤ (q : Int) ∧ (q : Int) < 1000000; omega) (by show L.length ≤ 500000; omega) HR.out (xLk s) 1)
      unfold Cmd.val Cmd.cs at XC
      clear hat hx
      by_cases hf : fitN s
      · have HF := Lib.hid hf
        clear hf
        go_wp2_with fail
        refine XC.out.mono ?_
        rintro e w6 hp
        obtain ⟨g6, rfl, h6⟩ := call_ok hp (lkE (.inl rfl) HF.out)
        rw [lkS] at h6
        have H6 := Lib.hid h6.drop
        have hwq : IntKind.i64.wrap ((q : Int) + 1) = (q : Int) + 1 := by rw [IntKind.wrap_i64]; omega
        have hwu : IntKind.u64.wrap ((q : Int) + 1) = (q : Int) + 1 := by rw [IntKind.wrap_u64]; omega
        clear h6 hp dd
        go_wp2_with fail
        refine (tell11 w6 ⟨3, (q : Int) + 1, 0, (q : Int) + 1, 0⟩).mono ?_
        rintro e w7 ⟨rfl, hk7⟩
        have H7 := Lib.hid (H6.out.kept ((cliP_stable _ _).star none_stable) hk7)
        have X7 := Lib.hid (x_handle H7.out none_stable (by show (0 : Int) ≤ 2 ∧ (2 : Int) < 8; decide) (by show L.length ≤ 500000; omega) HR.out (by intro o ho; injection ho with ho; subst ho; show I64 1; decide) (tellM ⟨3, (q : Int) + 1, 0, (q : Int) + 1, 0⟩) (by show I64 0; decide) 1)
        clear hk7
        go_wp2_with fail
        refine X7.out.mono ?_
        rintro e w8 hp
        obtain ⟨A8, k8, c8, D8, d8, rfl, h8⟩ := hand_one hp (tlS ((q : Int) + 1) L s ((q : Int) + 1) 1)
        have H8 := Lib.hid h8
        have dd8 := HAT.out _ h8.below
        have hl8 := hold_len' L ⟨s, false, (q : Int) + 1⟩
        have HR8 := Lib.hid (rise_hold HR.out ⟨s, false, (q : Int) + 1⟩)
        have HM8 := Lib.hid (mine_hold (t := (q : Int) + 1) HM.out HF.out)
        have X8 := Lib.hid (x_holds h8 (by show (holdL L ⟨s, false, (q : Int) + 1⟩).length ≤ 1000000; omega) HR8.out s 1)
        rw [holds_some (by decide) (look_hold L ⟨s, false, (q : Int) + 1⟩)] at X8
        unfold Hd.val Hd.cs at X8
        clear h8 hp
        go_wp2_with fail
        refine X8.out.mono ?_
        rintro e w9 ⟨rfl, hk9⟩
        have H9 := Lib.hid ((H8.out.kept ((cliP_stable _ _).star none_stable) hk9).alloc ((cliP_stable _ _).star none_stable) (.cells #[.string s, .bool false, .int .u64 ((q : Int) + 1)] 46))
        clear hk9
        go_wp2_with fail
        go_roundw
        case rel => exact ⟨k + 1, q + 1, holdL L ⟨s, false, (q : Int) + 1⟩, by omega, by omega, by go_num, by go_num, HR8.out, HM8.out, by omega, H9.out⟩
        case measure => simp [intOf]; omega
      · have HF := Lib.hid hf
        clear hf
        go_wp2_with fail
        refine XC.out.mono ?_
        rintro e w6 hp
        obtain ⟨rfl, h6⟩ := call_no hp (lkN (.inl rfl) HF.out) (by decide)
        have H6 := Lib.hid h6
        have d6 := HAT.out _ h6.below
        clear h6 hp dd
        have hff := HF.out
        unfold fitN at hff
        rcases (show ¬ (1 ≤ s.size) ∨ (1 ≤ s.size ∧ ¬ s.size ≤ 64) by omega) with h1 | ⟨h1, h2⟩
        · have D1 : decide ((1 : Int) ≤ (s.size : Int)) = false := decide_eq_false (by omega)
          clear h1 hff
          go_wp2_with fail
          go_roundw
          case rel => exact ⟨k + 1, q, L, by omega, by omega, by go_num, rfl, HR.out, HM.out, by omega, H6.out⟩
          case measure => simp [intOf]; omega
        · have D1 : decide ((1 : Int) ≤ (s.size : Int)) = true := decide_eq_true (by omega)
          have D2 : decide ((s.size : Int) ≤ 64) = false := decide_eq_false (by omega)
          clear h1 h2 hff
          go_wp2_with fail
          go_roundw
          case rel => exact ⟨k + 1, q, L, by omega, by omega, by go_num, rfl, HR.out, HM.out, by omega, H6.out⟩
          case measure => simp [intOf]; omega
    · have hex : ¬ k < len ∨ (k < len ∧ ¬ k < 50) := by omega
      have XU := Lib.hid (x_call H.out none_stable (by show (0 : Int) ≤ 2 ∧ (2 : Int) < 8; decide) (by show (0 : Int) ≤ (q : Int) ∧ (q : Int) < 1000000; omega) (by show L.length ≤ 500000; omega) HR.out (xUn gn) 2)
      unfold Cmd.val Cmd.cs at XU
      have hl2 : (letL L gn false).length ≤ L.length := let_len L gn false
      by_cases hf : fitN gn
      · have HF := Lib.hid hf
        have E1 : decide ((1 : Int) ≤ (gn.size : Int)) = true := decide_eq_true (by have := hf.1; omega)
        have E2 : decide ((gn.size : Int) ≤ 64) = true := decide_eq_true (by have := hf.2; omega)
        clear hf
        rcases hex with h | ⟨h, h'⟩
        all_goals
          go_wp2_with fail
          refine XU.out.mono ?_
          rintro e w6 hp
          obtain ⟨g6, rfl, h6⟩ := call_ok hp (lkE (.inr rfl) HF.out)
          rw [unS] at h6
          have H6 := Lib.hid h6.drop
          have X8 := Lib.hid (x_holds H6.out (by show (letL L gn false).length ≤ 1000000; omega) (rise_let HR.out gn false) gn 2)
          rw [holds_none (by decide) (look_let HM.out gn)] at X8
          unfold Hd.val Hd.cs at X8
          clear h6 hp
          go_wp2_with fail
          refine X8.out.mono ?_
          rintro e w9 ⟨rfl, hk9⟩
          have H9 := Lib.hid ((H6.out.kept ((cliP_stable _ _).star none_stable) hk9).alloc ((cliP_stable _ _).star none_stable) (.cells #[.string .empty, .bool false, .int .u64 0] 46))
          clear hk9
          go_wp2_with fail
          refine (AW.out _).mono ?_
          rintro e w10 ⟨rfl, hk⟩
          have K := Lib.hid hk
          clear hk
          go_wp2_with fail
          go_ret
          exact ⟨rfl, (hb _ H9.out.below).then K.out⟩
      · have HF := Lib.hid hf
        have hff := hf
        unfold fitN at hff
        rcases (show ¬ (1 ≤ gn.size) ∨ (1 ≤ gn.size ∧ ¬ gn.size ≤ 64) by omega) with h1 | ⟨h1, h2⟩
        · have E1 : decide ((1 : Int) ≤ (gn.size : Int)) = false := decide_eq_false (by omega)
          clear hf hff h1
          rcases hex with h | ⟨h, h'⟩
          all_goals
            go_wp2_with fail
            refine XU.out.mono ?_
            rintro e w6 hp
            obtain ⟨rfl, h6⟩ := call_no hp (lkN (.inr rfl) HF.out) (by decide)
            have H6 := Lib.hid h6
            have X8 := Lib.hid (x_holds H6.out (by show L.length ≤ 1000000; omega) HR.out gn 2)
            rw [holds_none (by decide) (look_unfit HM.out HF.out)] at X8
            unfold Hd.val Hd.cs at X8
            clear h6 hp
            go_wp2_with fail
            refine X8.out.mono ?_
            rintro e w9 ⟨rfl, hk9⟩
            have H9 := Lib.hid ((H6.out.kept ((cliP_stable _ _).star none_stable) hk9).alloc ((cliP_stable _ _).star none_stable) (.cells #[.string .empty, .bool false, .int .u64 0] 46))
            clear hk9
            go_wp2_with fail
            refine (AW.out _).mono ?_
            rintro e w10 ⟨rfl, hk⟩
            have K := Lib.hid hk
            clear hk
            go_wp2_with fail
            go_ret
            exact ⟨rfl, (hb _ H9.out.below).then K.out⟩
        · have E1 : decide ((1 : Int) ≤ (gn.size : Int)) = true := decide_eq_true (by omega)
          have E2 : decide ((gn.size : Int) ≤ 64) = false := decide_eq_false (by omega)
          clear hf hff h1 h2
          rcases hex with h | ⟨h, h'⟩
          all_goals
            go_wp2_with fail
            refine XU.out.mono ?_
            rintro e w6 hp
            obtain ⟨rfl, h6⟩ := call_no hp (lkN (.inr rfl) HF.out) (by decide)
            have H6 := Lib.hid h6
            have X8 := Lib.hid (x_holds H6.out (by show L.length ≤ 1000000; omega) HR.out gn 2)
            rw [holds_none (by decide) (look_unfit HM.out HF.out)] at X8
            unfold Hd.val Hd.cs at X8
            clear h6 hp
            go_wp2_with fail
            refine X8.out.mono ?_
            rintro e w9 ⟨rfl, hk9⟩
            have H9 := Lib.hid ((H6.out.kept ((cliP_stable _ _).star none_stable) hk9).alloc ((cliP_stable _ _).star none_stable) (.cells #[.string .empty, .bool false, .int .u64 0] 46))
            clear hk9
            go_wp2_with fail
            refine (AW.out _).mono ?_
            rintro e w10 ⟨rfl, hk⟩
            have K := Lib.hid hk
            clear hk
            go_wp2_with fail
            go_ret
            exact ⟨rfl, (hb _ H9.out.below).then K.out⟩
open Go.ChangeShapes Go.WideShapes Go.ChangeAt in
theorem lets_law : R.Law 4 Try.f4 R.any := by
  intro H enc W base args ds p hval hA hsz _ hlt
  rw [Try.params4] at hA hval hsz
  obtain ⟨v0, vs0, d0, ds0, p0, q0, hargs, rfl, rfl, h0, r0⟩ := trodAll_cons hA
  obtain ⟨v1, vs1, d1, ds1, p1, q1, rfl, rfl, rfl, h1, r1⟩ := trodAll_cons r0
  obtain ⟨rfl, rfl, rfl⟩ := trodAll_nil r1
  obtain rfl : args = #[v0, v1] := by cases args; simp_all
  obtain ⟨A, len, cap, l, rfl, hc1, hc2, hAr⟩ := open_strs (hval 0 44 v0 rfl rfl) h0 (fun x hx => hlt x (List.mem_append_left _ hx)) (R.light_of (j := 0) hsz rfl rfl)
  obtain ⟨gn, rfl⟩ := okWide_string Try.underlying9 (hval 1 9 v1 rfl rfl)
  exact (lets_calls W A len cap l gn hAr hc1 hc2).mono fun e w' h => ⟨h.1, h.2.below (Nat.le_refl _) (fun _ h => h.elim)⟩
end Go.Proofs.Ythlfcinjmljbjaa.A
