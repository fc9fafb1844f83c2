/-
  Closures on entries; slices.IndexFunc, slices.Clone.
-/
import Derived.Test.YtnbllckmeehhjaaM
namespace Go.Proofs.Ytnbllckmeehhjaa.A
open Go.RowKit Go.Proofs.Ytnbllckmeehhjaa.U
set_option linter.unusedVariables false
set_option linter.unusedSimpArgs false
set_option maxRecDepth 100000

theorem is34 (w : World) (x : Ent) (p : Nat) (s : Int) (hp : w.cell? ⟨p, 0, none⟩ = some (.int .i64 s)) : Calls Try.prog 34 #[x.val, .pointer (some ⟨p, 0, none⟩)] w (fun e w' => e = .returned (.bool (decide (s ≤ x.a))) ∧ Keep Nothing w w') := by
  have hu := Try.underlying37
  have HP := Lib.hid (show (w.alloc (.cells x.cs 37)).cell? ⟨p, 0, none⟩ = some (.int .i64 s) from ((Keep.same Nothing w).alloc (.cells x.cs 37)).cell hp (fun h => h))
  have D := (Blk.fresh w 37 x.cs).cell 0
  unfold Ent.cs at D HP
  unfold Ent.val Ent.cs
  go_enter Try.func34, Try.ntmps34
  have hpp := HP.out
  go_wp2_with fail
  go_ret
  exact ⟨rfl, (Keep.same Nothing w).alloc _⟩
theorem is35 (w : World) (x : Ent) (p : Nat) (s : Int) (hp : w.cell? ⟨p, 0, none⟩ = some (.int .i64 s)) : Calls Try.prog 35 #[x.val, .pointer (some ⟨p, 0, none⟩)] w (fun e w' => e = .returned (.bool (isSlot s x)) ∧ Keep Nothing w w') := by
  have hu := Try.underlying37
  have HP := Lib.hid (show (w.alloc (.cells x.cs 37)).cell? ⟨p, 0, none⟩ = some (.int .i64 s) from ((Keep.same Nothing w).alloc (.cells x.cs 37)).cell hp (fun h => h))
  have D := (Blk.fresh w 37 x.cs).cell 0
  unfold Ent.cs at D HP
  unfold Ent.val Ent.cs
  go_enter Try.func35, Try.ntmps35
  have hpp := HP.out
  go_wp2_with fail
  go_ret
  exact ⟨rfl, (Keep.same Nothing w).alloc _⟩
theorem is41 (w : World) (x : Ent) (p : Nat) (s : Int) (hp : w.cell? ⟨p, 0, none⟩ = some (.int .i64 s)) : Calls Try.prog 41 #[x.val, .pointer (some ⟨p, 0, none⟩)] w (fun e w' => e = .returned (.bool (decide (x.a ≤ s))) ∧ Keep Nothing w w') := by
  have hu := Try.underlying37
  have HP := Lib.hid (show (w.alloc (.cells x.cs 37)).cell? ⟨p, 0, none⟩ = some (.int .i64 s) from ((Keep.same Nothing w).alloc (.cells x.cs 37)).cell hp (fun h => h))
  have D := (Blk.fresh w 37 x.cs).cell 0
  unfold Ent.cs at D HP
  unfold Ent.val Ent.cs
  go_enter Try.func41, Try.ntmps41
  have hpp := HP.out
  go_wp2_with fail
  go_ret
  exact ⟨rfl, (Keep.same Nothing w).alloc _⟩
/-- The first one of which p holds. -/
def FirstP (L : List Ent) (p : Ent → Bool) (i : Int) : Prop := (i = -1 ∧ ∀ (j : Nat) (x : Ent), L[j]? = some x → p x = false) ∨ ∃ (k : Nat) (x : Ent), i = k ∧ L[k]? = some x ∧ p x = true ∧ ∀ (j : Nat) (y : Ent), j < k → L[j]? = some y → p y = false
def FirstPost (L : List Ent) (p : Ent → Bool) (w : World) (e : Ending) (w' : World) : Prop := ∃ i : Int, e = .returned (.int .i64 i) ∧ FirstP L p i ∧ Keep Nothing w w'
/-- A closure that tells whether p holds of an entry. -/
def Tells (g b : Nat) (p : Ent → Bool) (w : World) : Prop := ∀ (w' : World) (x : Ent), Keep Nothing w w' → Calls Try.prog g #[x.val, .pointer (some ⟨b, 0, none⟩)] w' (fun e w'' => e = .returned (.bool (p x)) ∧ Keep Nothing w' w'')
theorem tells34 {w : World} {b : Nat} {s : Int} (h : w.cell? ⟨b, 0, none⟩ = some (.int .i64 s)) : Tells 34 b (fun x => decide (s ≤ x.a)) w := fun w' x hk => is34 w' x b s (hk.cell h (fun h => h))
theorem tells35 {w : World} {b : Nat} {s : Int} (h : w.cell? ⟨b, 0, none⟩ = some (.int .i64 s)) : Tells 35 b (isSlot s) w := fun w' x hk => is35 w' x b s (hk.cell h (fun h => h))
theorem tells41 {w : World} {b : Nat} {s : Int} (h : w.cell? ⟨b, 0, none⟩ = some (.int .i64 s)) : Tells 41 b (fun x => decide (x.a ≤ s)) w := fun w' x hk => is41 w' x b s (hk.cell h (fun h => h))
set_option maxHeartbeats 3200000 in
theorem ix_34 (w : World) (A : Option Addr) (n c : Nat) (L : List Ent) (h : U.Src w A 7 n (ents L)) (hn : n ≤ 9223372036854775807) (b : Nat) (p : Ent → Bool) (ht : Tells 34 b p w) :
    Calls Try.prog 33 #[.slice A n c, .func (.func 34) #[] #[.pointer (some ⟨b, 0, none⟩)]] w (FirstPost L p w) := by
  have hu := Try.underlying37
  have HS := Lib.hid h
  have HL := Lib.hid (src_len h)
  have HT := Lib.hid ht
  clear h ht
  go_enter Try.func33, Try.ntmps33
  go_wp2_with fail
  go_loopw [8] (fun v wr => ∃ k : Nat, k ≤ n ∧ v = .int .i64 k ∧ Keep Nothing w wr ∧ ∀ (j : Nat) (y : Ent), j < k → L[j]? = some y → p y = false) (fun v _ => n - (intOf v).toNat)
  case atStart => exact ⟨0, by omega, by simp, Keep.same _ _, fun j y hj => by omega⟩
  case round =>
    obtain ⟨k, hk, rfl, hkk, hne⟩ := hrel
    have K := Lib.hid hkk
    have NE := Lib.hid hne
    clear hkk hne
    by_cases hlt : k < n
    · obtain ⟨ad, x, rfl, hx, he⟩ := ent_at HS.out hlt
      obtain ⟨c0, c1, c2, c3, c4, c5, c6⟩ := he.keep K.out (fun h => h)
      have HX := Lib.hid hx
      have HI := Lib.hid (HT.out wr x K.out)
      clear hx he
      cases hi : p x with
      | true =>
        rw [hi] at HI
        have HF := Lib.hid hi
        clear hi
        go_wp2_with fail
        refine HI.out.mono ?_
        rintro e w2 ⟨rfl, hk2⟩
        have K2 := Lib.hid (K.out.then hk2)
        clear hk2 c0 c1 c2 c3 c4 c5 c6
        go_wp2_with fail
        go_ret
        exact ⟨k, rfl, .inr ⟨k, x, rfl, HX.out, HF.out, NE.out⟩, K2.out⟩
      | false =>
        rw [hi] at HI
        have HF := Lib.hid hi
        clear hi
        go_wp2_with fail
        refine HI.out.mono ?_
        rintro e w2 ⟨rfl, hk2⟩
        have K2 := Lib.hid (K.out.then hk2)
        clear hk2 c0 c1 c2 c3 c4 c5 c6
        go_wp2_with fail
        go_roundw
        case rel => exact ⟨k + 1, by omega, by go_num, K2.out, fun j y hj hy => by
          by_cases h : j < k
          · exact NE.out j y h hy
          · obtain rfl : j = k := by omega
            rw [HX.out] at hy
            injection hy with hy
            subst hy
            exact HF.out⟩
        case measure => simp [intOf]; omega
    · obtain rfl : k = n := by omega
      have FS := Lib.hid (show ∀ (j : Nat) (x : Ent), L[j]? = some x → p x = false from fun j x hx => NE.out j x (by have := (List.getElem?_eq_some_iff.1 hx).1; have := HL.out; omega) hx)
      go_wp2_with fail
      go_ret
      exact ⟨-1, rfl, .inl ⟨rfl, FS.out⟩, K.out⟩
set_option maxHeartbeats 3200000 in
theorem ix_35 (w : World) (A : Option Addr) (n c : Nat) (L : List Ent) (h : U.Src w A 7 n (ents L)) (hn : n ≤ 9223372036854775807) (b : Nat) (p : Ent → Bool) (ht : Tells 35 b p w) :
    Calls Try.prog 33 #[.slice A n c, .func (.func 35) #[] #[.pointer (some ⟨b, 0, none⟩)]] w (FirstPost L p w) := by
  have hu := Try.underlying37
  have HS := Lib.hid h
  have HL := Lib.hid (src_len h)
  have HT := Lib.hid ht
  clear h ht
  go_enter Try.func33, Try.ntmps33
  go_wp2_with fail
  go_loopw [8] (fun v wr => ∃ k : Nat, k ≤ n ∧ v = .int .i64 k ∧ Keep Nothing w wr ∧ ∀ (j : Nat) (y : Ent), j < k → L[j]? = some y → p y = false) (fun v _ => n - (intOf v).toNat)
  case atStart => exact ⟨0, by omega, by simp, Keep.same _ _, fun j y hj => by omega⟩
  case round =>
    obtain ⟨k, hk, rfl, hkk, hne⟩ := hrel
    have K := Lib.hid hkk
    have NE := Lib.hid hne
    clear hkk hne
    by_cases hlt : k < n
    · obtain ⟨ad, x, rfl, hx, he⟩ := ent_at HS.out hlt
      obtain ⟨c0, c1, c2, c3, c4, c5, c6⟩ := he.keep K.out (fun h => h)
      have HX := Lib.hid hx
      have HI := Lib.hid (HT.out wr x K.out)
      clear hx he
      cases hi : p x with
      | true =>
        rw [hi] at HI
        have HF := Lib.hid hi
        clear hi
        go_wp2_with fail
        refine HI.out.mono ?_
        rintro e w2 ⟨rfl, hk2⟩
        have K2 := Lib.hid (K.out.then hk2)
        clear hk2 c0 c1 c2 c3 c4 c5 c6
        go_wp2_with fail
        go_ret
        exact ⟨k, rfl, .inr ⟨k, x, rfl, HX.out, HF.out, NE.out⟩, K2.out⟩
      | false =>
        rw [hi] at HI
        have HF := Lib.hid hi
        clear hi
        go_wp2_with fail
        refine HI.out.mono ?_
        rintro e w2 ⟨rfl, hk2⟩
        have K2 := Lib.hid (K.out.then hk2)
        clear hk2 c0 c1 c2 c3 c4 c5 c6
        go_wp2_with fail
        go_roundw
        case rel => exact ⟨k + 1, by omega, by go_num, K2.out, fun j y hj hy => by
          by_cases h : j < k
          · exact NE.out j y h hy
          · obtain rfl : j = k := by omega
            rw [HX.out] at hy
            injection hy with hy
            subst hy
            exact HF.out⟩
        case measure => simp [intOf]; omega
    · obtain rfl : k = n := by omega
      have FS := Lib.hid (show ∀ (j : Nat) (x : Ent), L[j]? = some x → p x = false from fun j x hx => NE.out j x (by have := (List.getElem?_eq_some_iff.1 hx).1; have := HL.out; omega) hx)
      go_wp2_with fail
      go_ret
      exact ⟨-1, rfl, .inl ⟨rfl, FS.out⟩, K.out⟩
set_option maxHeartbeats 3200000 in
theorem ix_41 (w : World) (A : Option Addr) (n c : Nat) (L : List Ent) (h : U.Src w A 7 n (ents L)) (hn : n ≤ 9223372036854775807) (b : Nat) (p : Ent → Bool) (ht : Tells 41 b p w) :
    Calls Try.prog 33 #[.slice A n c, .func (.func 41) #[] #[.pointer (some ⟨b, 0, none⟩)]] w (FirstPost L p w) := by
  have hu := Try.underlying37
  have HS := Lib.hid h
  have HL := Lib.hid (src_len h)
  have HT := Lib.hid ht
  clear h ht
  go_enter Try.func33, Try.ntmps33
  go_wp2_with fail
  go_loopw [8] (fun v wr => ∃ k : Nat, k ≤ n ∧ v = .int .i64 k ∧ Keep Nothing w wr ∧ ∀ (j : Nat) (y : Ent), j < k → L[j]? = some y → p y = false) (fun v _ => n - (intOf v).toNat)
  case atStart => exact ⟨0, by omega, by simp, Keep.same _ _, fun j y hj => by omega⟩
  case round =>
    obtain ⟨k, hk, rfl, hkk, hne⟩ := hrel
    have K := Lib.hid hkk
    have NE := Lib.hid hne
    clear hkk hne
    by_cases hlt : k < n
    · obtain ⟨ad, x, rfl, hx, he⟩ := ent_at HS.out hlt
      obtain ⟨c0, c1, c2, c3, c4, c5, c6⟩ := he.keep K.out (fun h => h)
      have HX := Lib.hid hx
      have HI := Lib.hid (HT.out wr x K.out)
      clear hx he
      cases hi : p x with
      | true =>
        rw [hi] at HI
        have HF := Lib.hid hi
        clear hi
        go_wp2_with fail
        refine HI.out.mono ?_
        rintro e w2 ⟨rfl, hk2⟩
        have K2 := Lib.hid (K.out.then hk2)
        clear hk2 c0 c1 c2 c3 c4 c5 c6
        go_wp2_with fail
        go_ret
        exact ⟨k, rfl, .inr ⟨k, x, rfl, HX.out, HF.out, NE.out⟩, K2.out⟩
      | false =>
        rw [hi] at HI
        have HF := Lib.hid hi
        clear hi
        go_wp2_with fail
        refine HI.out.mono ?_
        rintro e w2 ⟨rfl, hk2⟩
        have K2 := Lib.hid (K.out.then hk2)
        clear hk2 c0 c1 c2 c3 c4 c5 c6
        go_wp2_with fail
        go_roundw
        case rel => exact ⟨k + 1, by omega, by go_num, K2.out, fun j y hj hy => by
          by_cases h : j < k
          · exact NE.out j y h hy
          · obtain rfl : j = k := by omega
            rw [HX.out] at hy
            injection hy with hy
            subst hy
            exact HF.out⟩
        case measure => simp [intOf]; omega
    · obtain rfl : k = n := by omega
      have FS := Lib.hid (show ∀ (j : Nat) (x : Ent), L[j]? = some x → p x = false from fun j x hx => NE.out j x (by have := (List.getElem?_eq_some_iff.1 hx).1; have := HL.out; omega) hx)
      go_wp2_with fail
      go_ret
      exact ⟨-1, rfl, .inl ⟨rfl, FS.out⟩, K.out⟩
def FreshEnts (L : List Ent) (w : World) (e : Ending) (w' : World) : Prop := ∃ A c, e = .returned (.slice A L.length c) ∧ Row w' 37 7 (.slice A L.length c) L.length (ents L) ∧ Keep Nothing w w' ∧ ∀ k, (Value.slice A L.length c).ownBlock = some k → w.heap.size ≤ k
theorem clone_calls (w : World) (A : Option Addr) (n c : Nat) (L : List Ent) (h : U.Src w A 7 n (ents L)) (hn : n ≤ 1000000) :
    Calls Try.prog 32 #[.slice A n c] w (FreshEnts L w) := by
  have hL := src_len h
  subst hL
  have H := Lib.hid h
  have hu22 := Try.underlying22
  have hz := fun (A : Option Addr) (n c : Nat) w => Lib.run_eql_slice_nil (P := Try.prog) w 22 37 A n c 0 0 Try.underlying22
  clear h
  cases A with
  | none =>
    have h0 : L.length = 0 := by
      rcases Nat.eq_zero_or_pos L.length with h | h
      · exact h
      · obtain ⟨ad, e, _⟩ := H.out.2 h
        cases e
    obtain rfl : L = [] := List.eq_nil_of_length_eq_zero h0
    go_enter Try.func32, Try.ntmps32
    go_wp2_with fail
    go_ret
    exact ⟨none, 0, rfl, Row.nil _ 37 7, Keep.same _ _, fun k hk => by simp [Value.ownBlock] at hk⟩
  | some ad =>
    have H2 := Lib.hid (show U.Src (w.alloc (.cells #[] 37)) (some ad) 7 L.length (ents L) from ⟨H.out.1, fun hn => by
      obtain ⟨ad', e, hc⟩ := H.out.2 hn
      exact ⟨ad', e, fun j u hu => ((Keep.same Nothing w).alloc _).cell (hc j u hu) (fun h => h)⟩⟩)
    have R0 := Lib.hid (Row.fresh w 37 7 0 #[] rfl (by unfold maxLen; omega))
    have O1 := Lib.hid (ents_one L)
    go_enter Try.func32, Try.ntmps32
    go_wp2_with (at_builtin; refine wpList_app _ rfl EE (.tmp 5) (.tmp 6) rfl R0.out H2.out c rfl rfl O1.out (by unfold maxLen; omega) (by omega) ?_)
    intro v' w' hr hg hl
    obtain ⟨A', c', rfl, _, _⟩ := hr.form
    have R1 := Lib.hid hr
    have K1 := Lib.hid (((Keep.same Nothing w).alloc (.cells #[] 37)).grown hg (fun i hi => .inr (by simp [Value.ownBlock] at hi; omega)))
    have O := Lib.hid (show ∀ k, (Value.slice A' L.length c').ownBlock = some k → w.heap.size ≤ k by
      intro k hk
      rcases hl with h | h
      · rw [h] at hk; simp [Value.ownBlock] at hk; omega
      · rw [h] at hk; injection hk with hk; omega)
    clear hr hg hl
    try rw [List.nil_append] at R1
    go_wp2_with fail
    go_ret
    exact ⟨_, _, by simp, R1.out, K1.out, O.out⟩
end Go.Proofs.Ytnbllckmeehhjaa.A
