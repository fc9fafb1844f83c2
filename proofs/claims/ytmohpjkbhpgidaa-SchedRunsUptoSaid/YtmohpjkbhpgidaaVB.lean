/-
  The scheduler: pick, Ready, Ended, Blocked. Printed by gen_vb.py.
-/
import Derived.Test.YtmohpjkbhpgidaaVA
namespace Go.Proofs.Ytmohpjkbhpgidaa.A
open Go.RowKit Go.Proofs.Ytmohpjkbhpgidaa.U
set_option linter.unusedVariables false
set_option linter.unusedSimpArgs false
set_option maxRecDepth 100000
set_option maxHeartbeats 1600000

def ptrs (X : List (Nat × Tk)) : List Value := X.map fun x => .pointer (some ⟨x.1, 0, none⟩)
theorem ptrs_len (X : List (Nat × Tk)) : (ptrs X).length = X.length := by simp [ptrs]
theorem ptrs_get {X : List (Nat × Tk)} {k : Nat} {x : Nat × Tk} (h : X[k]? = some x) : (ptrs X)[k]? = some (.pointer (some ⟨x.1, 0, none⟩)) := by simp [ptrs, h]
def pickL (p : Tk → Bool) (X : List (Nat × Tk)) : Nat → List Int
  | 0 => []
  | k + 1 => pickL p X k ++ (match X[k]? with | some x => if p x.2 then [(k : Int)] else [] | none => [])
theorem pickL_len (p : Tk → Bool) (X : List (Nat × Tk)) : ∀ k, (pickL p X k).length ≤ k
  | 0 => Nat.le_refl _
  | k + 1 => by
    unfold pickL
    rw [List.length_append]
    have := pickL_len p X k
    split
    · split
      · simp only [List.length_cons, List.length_nil]; omega
      · simp only [List.length_nil]; omega
    · simp only [List.length_nil]; omega
/-- What a scheduler's tasks lie as. -/
structure Tasks (w : World) (b : Nat) (X : List (Nat × Tk)) (A : Option Addr) (c : Nat) (m : Value) : Prop where
  blk : Blk w b 139 #[.slice A X.length c, m]
  src : U.Src w A 1 X.length (ptrs X)
  all : ∀ x ∈ X, ∃ A A' c c', Blk w x.1 143 (x.2.cs A A' c c')
  len : X.length ≤ 1000000
theorem Tasks.keep {w w' : World} {b : Nat} {X : List (Nat × Tk)} {A : Option Addr} {c : Nat} {m : Value} (h : Tasks w b X A c m) (hk : Keep Nothing w w') : Tasks w' b X A c m :=
  ⟨h.blk.keep hk (fun h => h), ⟨h.src.1, fun h0 => let ⟨ad, e, hc⟩ := h.src.2 h0; ⟨ad, e, fun j u hu => hk.cell (hc j u hu) (fun h => h)⟩⟩, fun x hx => let ⟨A, A', c, c', hb⟩ := h.all x hx; ⟨A, A', c, c', hb.keep hk (fun h => h)⟩, h.len⟩
theorem Tasks.at_ {w : World} {b k : Nat} {X : List (Nat × Tk)} {A : Option Addr} {c : Nat} {m : Value} (h : Tasks w b X A c m) (hk : k < X.length) :
    ∃ (ad : Addr) (x : Nat × Tk), A = some ad ∧ X[k]? = some x ∧ w.cell? (ad.add k) = some (.pointer (some ⟨x.1, 0, none⟩)) ∧ ∃ A A' c c', Blk w x.1 143 (x.2.cs A A' c c') := by
  obtain ⟨ad, e, hc⟩ := h.src.2 (by omega)
  have hx : X[k]? = some (X[k]'hk) := List.getElem?_eq_getElem hk
  exact ⟨ad, _, e, hx, hc k _ (ptrs_get hx), h.all _ (List.getElem_mem hk)⟩
def PickPost (L : List Int) (w : World) (e : Ending) (w' : World) : Prop := ∃ A c, e = .returned (.slice A L.length c) ∧ Row w' 3 1 (.slice A L.length c) L.length (ints L) ∧ Keep Nothing w w' ∧ ∀ g, (Value.slice A L.length c).ownBlock = some g → w.heap.size ≤ g
theorem pick_ready (w : World) (b : Nat) (X : List (Nat × Tk)) (A : Option Addr) (c : Nat) (m : Value) (h : Tasks w b X A c m) :
    Calls Try.prog 89 #[.pointer (some ⟨b, 0, none⟩), .func (.func 90) #[] #[]] w (PickPost (pickL Tk.ready X X.length) w) := by
  have hu := Try.underlying139
  have HT := Lib.hid h
  have HL := Lib.hid h.len
  have c0 := h.blk.cell 0
  clear h
  go_enter Try.func89, Try.ntmps89
  go_wp2_with fail
  go_loopw [5, 15] (fun lv iv wr => ∃ (k : Nat) (A' : Option Addr) (c' : Nat), k ≤ X.length ∧ iv = .int .i64 k ∧ lv = .slice A' (pickL Tk.ready X k).length c' ∧ Row wr 3 1 (.slice A' (pickL Tk.ready X k).length c') (pickL Tk.ready X k).length (ints (pickL Tk.ready X k)) ∧ Keep Nothing w wr ∧ ∀ g, (Value.slice A' (pickL Tk.ready X k).length c').ownBlock = some g → w.heap.size ≤ g) (fun _ iv _ => X.length - (intOf iv).toNat)
  case atStart => exact ⟨0, none, 0, by omega, by simp, rfl, Row.nil _ 3 1, Keep.same _ _, fun g hg => by simp [Value.ownBlock] at hg⟩
  case round =>
    obtain ⟨k, A', c', hk, rfl, rfl, hr, hkp, hf⟩ := hrel
    have HR := Lib.hid hr
    have HK := Lib.hid hkp
    have HF := Lib.hid hf
    have hlen := pickL_len Tk.ready X k
    have HLEN := Lib.hid hlen
    clear hr hkp hf
    by_cases hlt : k < X.length
    · have HLT := Lib.hid hlt
      obtain ⟨ad, x, rfl, hx, hc, B1, B2, b1, b2, hbx⟩ := (HT.out.keep HK.out).at_ hlt
      have HC := Lib.hid (ready90 wr x.1 x.2 B1 B2 b1 b2 hbx)
      have HX := Lib.hid hx
      clear hbx hx
      cases hp : Tk.ready x.2 with
      | false =>
        rw [show Tk.ready x.2 = false from hp] at HC
        have E := Lib.hid (show pickL Tk.ready X (k + 1) = pickL Tk.ready X k by show _ ++ _ = _; rw [HX.out]; simp [hp])
        clear hp
        go_wp2_with fail
        refine HC.out.mono ?_
        rintro e w3 ⟨rfl, hk3⟩
        have K3 := Lib.hid hk3
        have hxl := HL.out
        clear hk3 hc
        go_wp2_with fail
        go_roundw
        case rel => exact ⟨k + 1, A', c', by have := HLT.out; omega, by go_num, by rw [E.out], by rw [E.out]; exact HR.out.keep K3.out (fun _ _ h => h), HK.out.then K3.out, by rw [E.out]; exact HF.out⟩
        case measure => have := HLT.out; simp [intOf]; omega
      | true =>
        rw [show Tk.ready x.2 = true from hp] at HC
        have E := Lib.hid (show pickL Tk.ready X (k + 1) = pickL Tk.ready X k ++ [(k : Int)] by show _ ++ _ = _; rw [HX.out]; simp [hp])
        clear hp
        go_wp2_with fail
        refine HC.out.mono ?_
        rintro e w3 ⟨rfl, hk3⟩
        have K3 := Lib.hid hk3
        have R3 := Lib.hid (HR.out.keep hk3 (fun _ _ h => h))
        have hxl := HL.out
        clear hk3 hc
        go_wp2_with (at_builtin; refine wpList_app _ rfl E26 (.tmp 23) (.tmp 25) rfl (R3.out.alloc _) (Go.Proofs.Ytmohpjkbhpgidaa.U.Src.one w3 (.int .i64 (k : Int)) 3) 1 rfl rfl (by simp [Value.oneCell']) (by unfold maxLen; omega) (by omega) ?_)
        intro v4 w4 hr4 hg4 hl4
        obtain ⟨A4, c4, rfl, _, _⟩ := hr4.form
        have K4 := Lib.hid (((HK.out.then K3.out).alloc (.cells #[.int .i64 (k : Int)] 3)).grown hg4 (fun i hi => .inr (HF.out i hi)))
        have O4 := Lib.hid (show ∀ g, (Value.slice A4 ((pickL Tk.ready X k).length + 1) c4).ownBlock = some g → w.heap.size ≤ g by
          intro g hg
          have hz := HK.out.size
          have hz3 := K3.out.size
          rcases hl4 with h | h
          · rw [h] at hg; exact HF.out g hg
          · rw [h] at hg; injection hg with hg; rw [← hg]; simp; omega)
        have e5 : (pickL Tk.ready X (k + 1)).length = (pickL Tk.ready X k).length + 1 := by rw [E.out]; simp
        have R4 := Lib.hid (show Row w4 3 1 (.slice A4 (pickL Tk.ready X (k + 1)).length c4) (pickL Tk.ready X (k + 1)).length (ints (pickL Tk.ready X (k + 1))) by rw [e5, E.out, ints_app]; exact hr4)
        have E5 := Lib.hid e5
        clear hr4 hg4 hl4 e5
        go_wp2_with fail
        go_roundw
        case rel => exact ⟨k + 1, A4, c4, by have := HLT.out; omega, by go_num, by rw [E5.out], R4.out, K4.out, by rw [E5.out]; exact O4.out⟩
        case measure => have := HLT.out; simp [intOf]; omega
    · obtain rfl : k = X.length := by omega
      go_wp2_with fail
      go_ret
      exact ⟨A', c', rfl, HR.out, HK.out, HF.out⟩
theorem pick_open (w : World) (b : Nat) (X : List (Nat × Tk)) (A : Option Addr) (c : Nat) (m : Value) (h : Tasks w b X A c m) :
    Calls Try.prog 89 #[.pointer (some ⟨b, 0, none⟩), .func (.func 92) #[] #[]] w (PickPost (pickL Tk.open_ X X.length) w) := by
  have hu := Try.underlying139
  have HT := Lib.hid h
  have HL := Lib.hid h.len
  have c0 := h.blk.cell 0
  clear h
  go_enter Try.func89, Try.ntmps89
  go_wp2_with fail
  go_loopw [5, 15] (fun lv iv wr => ∃ (k : Nat) (A' : Option Addr) (c' : Nat), k ≤ X.length ∧ iv = .int .i64 k ∧ lv = .slice A' (pickL Tk.open_ X k).length c' ∧ Row wr 3 1 (.slice A' (pickL Tk.open_ X k).length c') (pickL Tk.open_ X k).length (ints (pickL Tk.open_ X k)) ∧ Keep Nothing w wr ∧ ∀ g, (Value.slice A' (pickL Tk.open_ X k).length c').ownBlock = some g → w.heap.size ≤ g) (fun _ iv _ => X.length - (intOf iv).toNat)
  case atStart => exact ⟨0, none, 0, by omega, by simp, rfl, Row.nil _ 3 1, Keep.same _ _, fun g hg => by simp [Value.ownBlock] at hg⟩
  case round =>
    obtain ⟨k, A', c', hk, rfl, rfl, hr, hkp, hf⟩ := hrel
    have HR := Lib.hid hr
    have HK := Lib.hid hkp
    have HF := Lib.hid hf
    have hlen := pickL_len Tk.open_ X k
    have HLEN := Lib.hid hlen
    clear hr hkp hf
    by_cases hlt : k < X.length
    · have HLT := Lib.hid hlt
      obtain ⟨ad, x, rfl, hx, hc, B1, B2, b1, b2, hbx⟩ := (HT.out.keep HK.out).at_ hlt
      have HC := Lib.hid (ended92 wr x.1 x.2 B1 B2 b1 b2 hbx)
      have HX := Lib.hid hx
      clear hbx hx
      cases hp : Tk.open_ x.2 with
      | false =>
        rw [show Tk.open_ x.2 = false from hp] at HC
        have E := Lib.hid (show pickL Tk.open_ X (k + 1) = pickL Tk.open_ X k by show _ ++ _ = _; rw [HX.out]; simp [hp])
        clear hp
        go_wp2_with fail
        refine HC.out.mono ?_
        rintro e w3 ⟨rfl, hk3⟩
        have K3 := Lib.hid hk3
        have hxl := HL.out
        clear hk3 hc
        go_wp2_with fail
        go_roundw
        case rel => exact ⟨k + 1, A', c', by have := HLT.out; omega, by go_num, by rw [E.out], by rw [E.out]; exact HR.out.keep K3.out (fun _ _ h => h), HK.out.then K3.out, by rw [E.out]; exact HF.out⟩
        case measure => have := HLT.out; simp [intOf]; omega
      | true =>
        rw [show Tk.open_ x.2 = true from hp] at HC
        have E := Lib.hid (show pickL Tk.open_ X (k + 1) = pickL Tk.open_ X k ++ [(k : Int)] by show _ ++ _ = _; rw [HX.out]; simp [hp])
        clear hp
        go_wp2_with fail
        refine HC.out.mono ?_
        rintro e w3 ⟨rfl, hk3⟩
        have K3 := Lib.hid hk3
        have R3 := Lib.hid (HR.out.keep hk3 (fun _ _ h => h))
        have hxl := HL.out
        clear hk3 hc
        go_wp2_with (at_builtin; refine wpList_app _ rfl E26 (.tmp 23) (.tmp 25) rfl (R3.out.alloc _) (Go.Proofs.Ytmohpjkbhpgidaa.U.Src.one w3 (.int .i64 (k : Int)) 3) 1 rfl rfl (by simp [Value.oneCell']) (by unfold maxLen; omega) (by omega) ?_)
        intro v4 w4 hr4 hg4 hl4
        obtain ⟨A4, c4, rfl, _, _⟩ := hr4.form
        have K4 := Lib.hid (((HK.out.then K3.out).alloc (.cells #[.int .i64 (k : Int)] 3)).grown hg4 (fun i hi => .inr (HF.out i hi)))
        have O4 := Lib.hid (show ∀ g, (Value.slice A4 ((pickL Tk.open_ X k).length + 1) c4).ownBlock = some g → w.heap.size ≤ g by
          intro g hg
          have hz := HK.out.size
          have hz3 := K3.out.size
          rcases hl4 with h | h
          · rw [h] at hg; exact HF.out g hg
          · rw [h] at hg; injection hg with hg; rw [← hg]; simp; omega)
        have e5 : (pickL Tk.open_ X (k + 1)).length = (pickL Tk.open_ X k).length + 1 := by rw [E.out]; simp
        have R4 := Lib.hid (show Row w4 3 1 (.slice A4 (pickL Tk.open_ X (k + 1)).length c4) (pickL Tk.open_ X (k + 1)).length (ints (pickL Tk.open_ X (k + 1))) by rw [e5, E.out, ints_app]; exact hr4)
        have E5 := Lib.hid e5
        clear hr4 hg4 hl4 e5
        go_wp2_with fail
        go_roundw
        case rel => exact ⟨k + 1, A4, c4, by have := HLT.out; omega, by go_num, by rw [E5.out], R4.out, K4.out, by rw [E5.out]; exact O4.out⟩
        case measure => have := HLT.out; simp [intOf]; omega
    · obtain rfl : k = X.length := by omega
      go_wp2_with fail
      go_ret
      exact ⟨A', c', rfl, HR.out, HK.out, HF.out⟩
theorem pick_blk (w : World) (b : Nat) (X : List (Nat × Tk)) (A : Option Addr) (c : Nat) (m : Value) (h : Tasks w b X A c m) :
    Calls Try.prog 89 #[.pointer (some ⟨b, 0, none⟩), .func (.func 98) #[] #[]] w (PickPost (pickL Tk.blk X X.length) w) := by
  have hu := Try.underlying139
  have HT := Lib.hid h
  have HL := Lib.hid h.len
  have c0 := h.blk.cell 0
  clear h
  go_enter Try.func89, Try.ntmps89
  go_wp2_with fail
  go_loopw [5, 15] (fun lv iv wr => ∃ (k : Nat) (A' : Option Addr) (c' : Nat), k ≤ X.length ∧ iv = .int .i64 k ∧ lv = .slice A' (pickL Tk.blk X k).length c' ∧ Row wr 3 1 (.slice A' (pickL Tk.blk X k).length c') (pickL Tk.blk X k).length (ints (pickL Tk.blk X k)) ∧ Keep Nothing w wr ∧ ∀ g, (Value.slice A' (pickL Tk.blk X k).length c').ownBlock = some g → w.heap.size ≤ g) (fun _ iv _ => X.length - (intOf iv).toNat)
  case atStart => exact ⟨0, none, 0, by omega, by simp, rfl, Row.nil _ 3 1, Keep.same _ _, fun g hg => by simp [Value.ownBlock] at hg⟩
  case round =>
    obtain ⟨k, A', c', hk, rfl, rfl, hr, hkp, hf⟩ := hrel
    have HR := Lib.hid hr
    have HK := Lib.hid hkp
    have HF := Lib.hid hf
    have hlen := pickL_len Tk.blk X k
    have HLEN := Lib.hid hlen
    clear hr hkp hf
    by_cases hlt : k < X.length
    · have HLT := Lib.hid hlt
      obtain ⟨ad, x, rfl, hx, hc, B1, B2, b1, b2, hbx⟩ := (HT.out.keep HK.out).at_ hlt
      have HC := Lib.hid (blocked98 wr x.1 x.2 B1 B2 b1 b2 hbx)
      have HX := Lib.hid hx
      clear hbx hx
      cases hp : Tk.blk x.2 with
      | false =>
        rw [show Tk.blk x.2 = false from hp] at HC
        have E := Lib.hid (show pickL Tk.blk X (k + 1) = pickL Tk.blk X k by show _ ++ _ = _; rw [HX.out]; simp [hp])
        clear hp
        go_wp2_with fail
        refine HC.out.mono ?_
        rintro e w3 ⟨rfl, hk3⟩
        have K3 := Lib.hid hk3
        have hxl := HL.out
        clear hk3 hc
        go_wp2_with fail
        go_roundw
        case rel => exact ⟨k + 1, A', c', by have := HLT.out; omega, by go_num, by rw [E.out], by rw [E.out]; exact HR.out.keep K3.out (fun _ _ h => h), HK.out.then K3.out, by rw [E.out]; exact HF.out⟩
        case measure => have := HLT.out; simp [intOf]; omega
      | true =>
        rw [show Tk.blk x.2 = true from hp] at HC
        have E := Lib.hid (show pickL Tk.blk X (k + 1) = pickL Tk.blk X k ++ [(k : Int)] by show _ ++ _ = _; rw [HX.out]; simp [hp])
        clear hp
        go_wp2_with fail
        refine HC.out.mono ?_
        rintro e w3 ⟨rfl, hk3⟩
        have K3 := Lib.hid hk3
        have R3 := Lib.hid (HR.out.keep hk3 (fun _ _ h => h))
        have hxl := HL.out
        clear hk3 hc
        go_wp2_with (at_builtin; refine wpList_app _ rfl E26 (.tmp 23) (.tmp 25) rfl (R3.out.alloc _) (Go.Proofs.Ytmohpjkbhpgidaa.U.Src.one w3 (.int .i64 (k : Int)) 3) 1 rfl rfl (by simp [Value.oneCell']) (by unfold maxLen; omega) (by omega) ?_)
        intro v4 w4 hr4 hg4 hl4
        obtain ⟨A4, c4, rfl, _, _⟩ := hr4.form
        have K4 := Lib.hid (((HK.out.then K3.out).alloc (.cells #[.int .i64 (k : Int)] 3)).grown hg4 (fun i hi => .inr (HF.out i hi)))
        have O4 := Lib.hid (show ∀ g, (Value.slice A4 ((pickL Tk.blk X k).length + 1) c4).ownBlock = some g → w.heap.size ≤ g by
          intro g hg
          have hz := HK.out.size
          have hz3 := K3.out.size
          rcases hl4 with h | h
          · rw [h] at hg; exact HF.out g hg
          · rw [h] at hg; injection hg with hg; rw [← hg]; simp; omega)
        have e5 : (pickL Tk.blk X (k + 1)).length = (pickL Tk.blk X k).length + 1 := by rw [E.out]; simp
        have R4 := Lib.hid (show Row w4 3 1 (.slice A4 (pickL Tk.blk X (k + 1)).length c4) (pickL Tk.blk X (k + 1)).length (ints (pickL Tk.blk X (k + 1))) by rw [e5, E.out, ints_app]; exact hr4)
        have E5 := Lib.hid e5
        clear hr4 hg4 hl4 e5
        go_wp2_with fail
        go_roundw
        case rel => exact ⟨k + 1, A4, c4, by have := HLT.out; omega, by go_num, by rw [E5.out], R4.out, K4.out, by rw [E5.out]; exact O4.out⟩
        case measure => have := HLT.out; simp [intOf]; omega
    · obtain rfl : k = X.length := by omega
      go_wp2_with fail
      go_ret
      exact ⟨A', c', rfl, HR.out, HK.out, HF.out⟩
end Go.Proofs.Ytmohpjkbhpgidaa.A
