/-
  The writer.
-/
import Derived.Test.YtjojibgihoebaaaP
import Derived.Test.YtjojibgihoebaaaQ
namespace Go.Proofs.Ytjojibgihoebaaa.A
open Go.RowKit Go.Proofs.Ytjojibgihoebaaa.U
set_option linter.unusedVariables false
set_option linter.unusedSimpArgs false

def bytesV (L : List UInt8) : List Value := L.map fun c => .int .u8 (c.toNat : Int)
theorem bytesV_app (L M : List UInt8) : bytesV (L ++ M) = bytesV L ++ bytesV M := by simp [bytesV]
theorem bytesV_len (L : List UInt8) : (bytesV L).length = L.length := by simp [bytesV]
theorem E89 : Elem Try.prog 89 5 1 1 (.int .u8 0) := ⟨Try.underlying89, by kernel_rfl, by rfl, by decide⟩
theorem strCells_bytes (s : ByteArray) : Lib.strCells s = bytesV s.data.toList := rfl
/-- A writer: its block, its bytes. -/
def wrP (b : Nat) (L : List UInt8) : SP := fun w F => ∃ v, Blk w b 91 #[v] ∧ Row w 5 1 v L.length (bytesV L) ∧ ∀ k, F k ↔ k = b ∨ v.ownBlock = some k
theorem wrP_stable (b : Nat) (L : List UInt8) : Stable (wrP b L) where
  keep := fun ⟨v, hb, hr, hF⟩ hk hn => ⟨v, hb.keep hk (hn b ((hF b).2 (.inl rfl))), hr.keep hk (fun g hg => hn g ((hF g).2 (.inr hg))), hF⟩
  lt := fun ⟨v, hb, hr, hF⟩ hk => by
    rcases (hF _).1 hk with h | h
    · rw [h]; exact hb.lt
    · exact hr.lt _ h
/-- Bytes are put behind. -/
theorem wr_push {w w1 w2 : World} {b : Nat} {v v' : Value} {L M : List UInt8} {n : Nat} {F : Nat → Prop} (hn : n = L.length) (hb : Blk w b 91 #[v]) (hr : Row w 5 1 v n (bytesV L)) (hF : ∀ k, F k ↔ k = b ∨ v.ownBlock = some k)
    (h1 : Keep Nothing w w1) (hg : w1.grownBy w2 v.ownBlock) (hl : v'.ownBlock = v.ownBlock ∨ ∃ k, v'.ownBlock = some k ∧ w.heap.size ≤ k) (hr' : Row w2 5 1 v' (n + M.length) (bytesV L ++ bytesV M)) :
    Step w F (wrP b (L ++ M)) (w2.setCell ⟨b, 0, none⟩ v') := by
  subst hn
  have hb1 := hb.keep h1 (fun h => h)
  have hr1 := hr.keep h1 (fun _ _ h => h)
  have hb2 := hb1.grown hg (hr1.apart hb1 (by decide))
  have hne := hr'.apart hb2 (by decide)
  have hb3 := hb2.put 0 v'
  have hsz := h1.size
  refine ⟨fun k => k = b ∨ v'.ownBlock = some k, ⟨v', by simpa using hb3, ?_, fun _ => Iff.rfl⟩, ?_, fun k hk => ?_⟩
  · rw [List.length_append, bytesV_app]
    exact hr'.keep ((Keep.same (fun i => i = b) w2).set (p := ⟨b, 0, none⟩) (.inl rfl) v') (fun g hg e => hne (by rw [hg, e]))
  · exact ((((Keep.same F w).trans h1 (fun _ h => h.elim)).grown hg (fun i hi => .inl ((hF i).2 (.inr hi)))).set (p := ⟨b, 0, none⟩) (.inl ((hF b).2 (.inl rfl))) v')
  · rcases hk with hk | hk
    · exact .inl ((hF k).2 (.inl hk))
    · rcases hl with h | ⟨g, h, hg⟩
      · exact .inl ((hF k).2 (.inr (h ▸ hk)))
      · rw [h] at hk; injection hk with hk; right; omega
theorem Step.then {w w1 w2 : World} {F : Nat → Prop} {P Q : SP} (h : Step w F P w1) (k : ∀ F', P w1 F' → Step w1 F' Q w2) : Step w F Q w2 := by
  obtain ⟨F', hp, hk, hn⟩ := h
  obtain ⟨F'', hq, hk2, hn2⟩ := k F' hp
  have hsz := hk.size
  exact ⟨F'', hq, hk.trans hk2 hn, fun i hi => by
    rcases hn2 i hi with h | h
    · exact hn i h
    · right; omega⟩
theorem Step.after {w w1 w2 : World} {F F' : Nat → Prop} {Q : SP} (hk : Keep F w w1) (hn : ∀ k, F' k → F k ∨ w.heap.size ≤ k) (h : Step w1 F' Q w2) : Step w F Q w2 := by
  obtain ⟨F'', hq, hk2, hn2⟩ := h
  have hsz := hk.size
  exact ⟨F'', hq, hk.trans hk2 hn, fun i hi => by
    rcases hn2 i hi with h | h
    · exact hn i h
    · right; omega⟩
theorem Step.calls {w w1 : World} {F : Nat → Prop} {P Q : SP} {p : Program} {f : FuncId} {args : Array Value} {post : Ending → Prop} (h : Step w F P w1) (c : ∀ F', P w1 F' → Calls p f args w1 fun e w' => post e ∧ Step w1 F' Q w') :
    Calls p f args w1 fun e w' => post e ∧ Step w F Q w' := by
  obtain ⟨F', hp, hk, hn⟩ := h
  refine (c F' hp).mono fun e w' ⟨he, F'', hq, hk2, hn2⟩ => ⟨he, F'', hq, hk.trans hk2 hn, fun i hi => ?_⟩
  have hsz := hk.size
  rcases hn2 i hi with h | h
  · exact hn i h
  · right; omega
abbrev unit_ : Ending → Prop := fun e => e = .returned (.tuple #[])

theorem new_calls (w : World) : Calls Try.prog 16 #[] w (fun e w' => e = .returned (.pointer (some ⟨w.heap.size, 0, none⟩)) ∧ w' = w.alloc (.cells #[.slice none 0 0] 91)) := by
  go_enter Try.func16, Try.ntmps16
  go_wp2_with fail
  go_ret
  exact ⟨rfl, rfl⟩
theorem new_wr (w : World) : wrP w.heap.size [] (w.alloc (.cells #[.slice none 0 0] 91)) (fun k => k = w.heap.size) :=
  ⟨.slice none 0 0, Blk.fresh w 91 _, Row.nil _ 5 1, fun k => by simp [Value.ownBlock]⟩

theorem or128_all : ∀ m, m < 256 → (128 ||| m : Nat) = 128 + m % 128 := by decide +kernel
theorem or128 (n : Nat) : bits .or .u8 128 ((n : Int) % 256) = ((128 + n % 128 : Nat) : Int) := by
  have h := (bits_nat .u8 8 (by decide) (fun n h0 h1 => by rw [IntKind.wrap_u8]; omega) 128 (n % 256) (by omega) (by omega)).2
  have e : (128 ||| n % 256 : Nat) = 128 + n % 128 := by
    rw [or128_all _ (by omega)]; omega
  rw [e] at h
  have e2 : ((n % 256 : Nat) : Int) = (n : Int) % 256 := by omega
  rw [e2] at h
  exact h
set_option maxRecDepth 100000 in
theorem u64_calls (w : World) (b : Nat) (L : List UInt8) (F : Nat → Prop) (n : Nat) (h : wrP b L w F) (hn : n < 18446744073709551616) (hL : L.length ≤ 140737488355000) :
    Calls Try.prog 18 #[.pointer (some ⟨b, 0, none⟩), .int .u64 n] w (fun e w' => unit_ e ∧ Step w F (wrP b (L ++ u64L n)) w') := by
  have hu91 := Try.underlying91
  have H := Lib.hid h
  have h10 := u64L_len10 n hn
  clear h
  go_enter Try.func18, Try.ntmps18
  go_wp2_with fail
  go_loopw [1] (fun x wr => ∃ (m : Nat) (M : List UInt8), x = .int .u64 m ∧ m ≤ n ∧ u64L n = M ++ u64L m ∧ Step w F (wrP b (L ++ M)) wr) (fun x _ => (intOf x).toNat)
  case atStart => exact ⟨n, [], rfl, Nat.le_refl _, rfl, F, by rw [List.append_nil]; exact H.out, Keep.same _ _, fun k hk => .inl hk⟩
  case round =>
    obtain ⟨m, M, rfl, hm, hu, hst⟩ := hrel
    have hML : M.length ≤ 10 := by
      have := congrArg List.length hu
      rw [List.length_append] at this
      omega
    have U := Lib.hid hu
    have S := Lib.hid hst
    obtain ⟨F', ⟨v, hb, hr, hF⟩, hk, hn'⟩ := hst
    rw [List.length_append] at hr
    obtain ⟨A, c, rfl, hc1, hc2⟩ := hr.form
    have HK := Lib.hid hk
    have HN := Lib.hid hn'
    have hcell := hb.cell 0
    have B := Lib.hid hb
    have R := Lib.hid hr
    have HF := Lib.hid hF
    clear hu hb hr hF hk hn' h10
    by_cases hbig : 127 < m
    · have hor := or128 m
      have hw8 : IntKind.u8.wrap (m : Int) = ((m % 256 : Nat) : Int) := by rw [IntKind.wrap_u8]; omega
      go_wp2_with (at_builtin; refine wpList_app _ rfl E89 (.tmp 12) (.tmp 16) rfl (R.out.alloc _) (Src.one wr (.int .u8 ((128 + m % 128 : Nat) : Int)) 5) 1 rfl rfl (by simp [Value.oneCell']) (by unfold maxLen; omega) (by omega) ?_)
      intro v2 w2 hr2 hg2 hl2
      obtain ⟨A2, c2, rfl, _, _⟩ := hr2.form
      have B2 := Lib.hid ((B.out.alloc _).grown hg2 (R.out.apart B.out (by decide)))
      have hcell2 := B2.out.cell 0
      have hfree2 := B2.out.free 0
      have P2 := Lib.hid (wr_push (M := [UInt8.ofNat (128 + m % 128)]) (by simp) B.out R.out HF.out ((Keep.same _ _).alloc _) hg2 (hl2.imp id (fun h => ⟨_, h, by omega⟩)) (by
        have e : bytesV [UInt8.ofNat (128 + m % 128)] = [.int .u8 ((128 + m % 128 : Nat) : Int)] := by simp [bytesV]; omega
        rw [e]; exact hr2))
      clear hr2 hg2 hl2
      go_wp2_with fail
      go_roundw
      case rel => exact ⟨m / 128, M ++ [UInt8.ofNat (128 + m % 128)], by go_num, by omega, by rw [U.out, u64L_big (by omega)]; simp, by rw [← List.append_assoc]; exact Step.after HK.out HN.out P2.out⟩
      case measure => simp [intOf]; omega
    · have hlt : m < 128 := by omega
      have hw8 : (m : Int) % 256 = (m : Int) := by omega
      go_wp2_with (at_builtin; refine wpList_app _ rfl E89 (.tmp 26) (.tmp 29) rfl (R.out.alloc _) (Src.one wr (.int .u8 (m : Int)) 5) 1 rfl rfl (by simp [Value.oneCell']) (by unfold maxLen; omega) (by omega) ?_)
      intro v2 w2 hr2 hg2 hl2
      obtain ⟨A2, c2, rfl, _, _⟩ := hr2.form
      have B2 := Lib.hid ((B.out.alloc _).grown hg2 (R.out.apart B.out (by decide)))
      have hcell2 := B2.out.cell 0
      have hfree2 := B2.out.free 0
      have P2 := Lib.hid (wr_push (M := [UInt8.ofNat m]) (by simp) B.out R.out HF.out ((Keep.same _ _).alloc _) hg2 (hl2.imp id (fun h => ⟨_, h, by omega⟩)) (by
        have e : bytesV [UInt8.ofNat m] = [.int .u8 (m : Int)] := by simp [bytesV]; omega
        rw [e]; exact hr2))
      clear hr2 hg2 hl2
      go_wp2_with fail
      go_end0
      refine ⟨rfl, ?_⟩
      rw [U.out, u64L_small hlt, ← List.append_assoc]
      exact Step.after HK.out HN.out P2.out
end Go.Proofs.Ytjojibgihoebaaa.A
