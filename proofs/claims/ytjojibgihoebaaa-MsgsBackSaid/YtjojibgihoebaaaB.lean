/-
  The writer's others; the reference's texts.
-/
import Derived.Test.YtjojibgihoebaaaA
namespace Go.Proofs.Ytjojibgihoebaaa.A
open Go.RowKit Go.Proofs.Ytjojibgihoebaaa.U
set_option linter.unusedVariables false
set_option linter.unusedSimpArgs false

abbrev I64 (n : Int) : Prop := -9223372036854775808 ≤ n ∧ n ≤ 9223372036854775807
set_option maxRecDepth 100000 in
theorem u64_none (w : World) (n : Int) : Calls Try.prog 18 #[.pointer none, .int .u64 n] w (fun e w' => unit_ e ∧ w' = w) := by
  go_enter Try.func18, Try.ntmps18
  go_wp2_with fail
  refine bodyPost_ret (results_none rfl _ _ _) rfl ?_
  exact ⟨rfl, rfl⟩
theorem bits_xor64 {a b : Nat} (ha : a < 18446744073709551616) (hb : b < 18446744073709551616) : bits .xor .u64 a b = ((a ^^^ b : Nat) : Int) := by
  have h : a ^^^ b < 18446744073709551616 := Nat.xor_lt_two_pow (n := 64) ha hb
  simp only [bits, BitVec.ofInt_natCast, BitVec.toNat_xor, BitVec.toNat_ofNat]
  rw [show IntKind.u64.bits = 64 from rfl, Nat.mod_eq_of_lt (show a < 2 ^ 64 by omega), Nat.mod_eq_of_lt (show b < 2 ^ 64 by omega), IntKind.wrap_u64]
  omega
theorem flip64 {r : Nat} (h : r < 18446744073709551616) : (r ^^^ 18446744073709551615 : Nat) = 18446744073709551615 - r := by
  have h1 : (BitVec.allOnes 64 ^^^ BitVec.ofNat 64 r).toNat = 18446744073709551615 ^^^ r := by
    rw [BitVec.toNat_xor, BitVec.toNat_ofNat, Nat.mod_eq_of_lt (show r < 2 ^ 64 by omega)]; rfl
  rw [Nat.xor_comm, ← h1, BitVec.xor_comm, BitVec.xor_allOnes, BitVec.toNat_not, BitVec.toNat_ofNat, Nat.mod_eq_of_lt (show r < 2 ^ 64 by omega)]
theorem zig_pos {n : Int} (hn : I64 n) (h : 0 ≤ n) : bits .xor .u64 (IntKind.u64.wrap (wrap64 (n * 2))) (n / 9223372036854775808) = (zig n : Int) := by
  have e1 : IntKind.u64.wrap (wrap64 (n * 2)) = (zig n : Int) := by
    rw [IntKind.wrap_u64]; unfold wrap64 zig; rw [if_pos h]; have := hn.1; have := hn.2; omega
  have e2 : n / 9223372036854775808 = ((0 : Nat) : Int) := by have := hn.2; omega
  rw [e1, e2, bits_xor64 (zig_lt hn.1 hn.2) (by omega), Nat.xor_zero]
theorem zig_neg {n : Int} (hn : I64 n) (h : n < 0) : bits .xor .u64 (IntKind.u64.wrap (wrap64 (n * 2))) (IntKind.u64.wrap (n / 9223372036854775808)) = (zig n : Int) := by
  have hz := zig_lt hn.1 hn.2
  have e0 : 18446744073709551615 - zig n = (18446744073709551616 + 2 * n).toNat := by unfold zig; rw [if_neg (by omega)]; have := hn.1; omega
  have e1 : IntKind.u64.wrap (wrap64 (n * 2)) = ((18446744073709551615 - zig n : Nat) : Int) := by
    rw [e0, IntKind.wrap_u64]; unfold wrap64; have := hn.1; omega
  have e2 : IntKind.u64.wrap (n / 9223372036854775808) = ((18446744073709551615 : Nat) : Int) := by rw [IntKind.wrap_u64]; have := hn.1; omega
  rw [e1, e2, bits_xor64 (by omega) (by omega), flip64 (by omega)]
  congr 1
  omega
theorem int_calls (w : World) (b : Nat) (L : List UInt8) (F : Nat → Prop) (n : Int) (h : wrP b L w F) (hn : I64 n) (hL : L.length ≤ 140737488355000) :
    Calls Try.prog 17 #[.pointer (some ⟨b, 0, none⟩), .int .i64 n] w (fun e w' => unit_ e ∧ Step w F (wrP b (L ++ u64L (zig n))) w') := by
  have H := Lib.hid (fun w (h : wrP b L w F) => u64_calls w b L F (zig n) h (zig_lt hn.1 hn.2) hL)
  have H0 := Lib.hid h
  clear h
  by_cases h0 : 0 ≤ n
  · have hz := zig_pos hn (by omega)
    have HH := Lib.hid (H.out w H0.out)
    clear H H0
    go_enter Try.func17, Try.ntmps17
    go_wp2_with fail
    refine HH.out.mono ?_
    rintro e w1 ⟨rfl, hs⟩
    have S := Lib.hid hs
    clear hs
    go_wp2_with fail
    go_end0
    exact ⟨rfl, S.out⟩
  · have hz := zig_neg hn (by omega)
    have HH := Lib.hid (H.out w H0.out)
    clear H H0
    go_enter Try.func17, Try.ntmps17
    go_wp2_with fail
    refine HH.out.mono ?_
    rintro e w1 ⟨rfl, hs⟩
    have S := Lib.hid hs
    clear hs
    go_wp2_with fail
    go_end0
    exact ⟨rfl, S.out⟩
theorem text_calls (w : World) (b : Nat) (L : List UInt8) (F : Nat → Prop) (s : ByteArray) (h : wrP b L w F) (hL : L.length + s.size ≤ 140737488355000) :
    Calls Try.prog 19 #[.pointer (some ⟨b, 0, none⟩), .string s] w (fun e w' => unit_ e ∧ Step w F (wrP b (L ++ u64L s.size ++ s.data.toList)) w') := by
  have H := Lib.hid (u64_calls w b L F s.size h (by omega) (by omega))
  have h10 := u64L_len10 s.size (by omega)
  have hu91 := Try.underlying91
  have hcv : (s.size : Int) % 18446744073709551616 = s.size := by omega
  clear h
  go_enter Try.func19, Try.ntmps19
  go_wp2_with fail
  refine H.out.mono ?_
  rintro e w1 ⟨rfl, hst⟩
  obtain ⟨F', ⟨v, hb, hr, hF⟩, hk, hn'⟩ := hst
  rw [List.length_append] at hr
  obtain ⟨A, c, rfl, hc1, hc2⟩ := hr.form
  have HK := Lib.hid hk
  have HN := Lib.hid hn'
  have hcell := hb.cell 0
  have B := Lib.hid hb
  have R := Lib.hid hr
  have HF := Lib.hid hF
  clear hb hr hF hk hn'
  go_wp2_with (at_builtin; refine wpList_app_str _ rfl E89 Try.underlying9 (.tmp 15) (.tmp 16) rfl R.out s rfl rfl (by unfold maxLen; omega) (by omega) ?_)
  intro v2 w2 hr2 hg2 hl2
  obtain ⟨A2, c2, rfl, _, _⟩ := hr2.form
  have B2 := Lib.hid (B.out.grown hg2 (R.out.apart B.out (by decide)))
  have hcell2 := B2.out.cell 0
  have hfree2 := B2.out.free 0
  have hsl := size_list s
  have P2 := Lib.hid (wr_push (M := s.data.toList) (by simp) B.out R.out HF.out (Keep.same _ _) hg2 (hl2.imp id (fun h => ⟨_, h, by omega⟩)) (by rw [hsl]; exact hr2))
  clear hr2 hg2 hl2
  go_wp2_with fail
  go_end0
  exact ⟨rfl, Step.after HK.out HN.out P2.out⟩
theorem text_none (w : World) (s : ByteArray) : Calls Try.prog 19 #[.pointer none, .string s] w (fun e w' => unit_ e ∧ w' = w) := by
  go_enter Try.func19, Try.ntmps19
  go_wp2_with fail
  refine bodyPost_ret (results_none rfl _ _ _) rfl ?_
  exact ⟨rfl, rfl⟩
theorem int_none (w : World) (n : Int) : Calls Try.prog 17 #[.pointer none, .int .i64 n] w (fun e w' => unit_ e ∧ w' = w) := by
  go_enter Try.func17, Try.ntmps17
  go_wp2_with fail
  refine (u64_none _ _).mono ?_
  rintro e w' ⟨rfl, rfl⟩
  go_wp2_with fail
  go_end0
  exact ⟨rfl, rfl⟩
def ofL (L : List UInt8) : ByteArray := ⟨L.toArray⟩
theorem ofL_size (L : List UInt8) : (ofL L).size = L.length := rfl
theorem ofL_app (L M : List UInt8) : ofL (L ++ M) = ofL L ++ ofL M := by
  apply ByteArray.ext
  simp [ofL, ByteArray.data_append]
theorem ofL_list (s : ByteArray) : ofL s.data.toList = s := by
  apply ByteArray.ext
  simp [ofL]
set_option maxRecDepth 100000 in
theorem back_bytes {w : World} {n : Nat} {v : Value} {L : List UInt8} (hn : n = L.length) (hr : Row w 5 1 v n (bytesV L)) (hL : n ≤ 140737488355328) :
    (convert 89 9 v).run Try.prog w = .ok (.string (ofL L)) w := by
  subst hn
  obtain ⟨A, c, rfl, _, _⟩ := hr.form
  rcases hr.2 with ⟨h0, hl⟩ | ⟨g, o, cap, cur, hv, hb, h1, h2, h3, h4⟩
  · have hl0 : L = [] := List.eq_nil_of_length_eq_zero hl
    subst hl0
    injection h0 with e1 e2 e3
    subst e1 e3
    have hk9 := Try.underlying9
    have hk89 := Try.underlying89
    have hk5 := Try.underlying5
    simp [convert, run_underlying hk9, run_underlying hk89, run_underlying hk5, ofL, Conv.bytesToString]
    rfl
  · injection hv with e1 e2 e3
    subst e1
    exact run_convert_bytes_back (P := Try.prog) w 89 9 5 ⟨g, o, none⟩ c L Try.underlying89 Try.underlying5 Try.underlying9 (by
      intro j hj
      obtain ⟨ad, u, e, hu, hc⟩ := hr.src.at_ hj
      injection e with e
      subst e
      rw [hc, ← hu]
      simp [bytesV, hj])
theorem string_calls (w : World) (b : Nat) (L : List UInt8) (F : Nat → Prop) (h : wrP b L w F) (hL : L.length ≤ 140737488355328) :
    Calls Try.prog 21 #[.pointer (some ⟨b, 0, none⟩)] w (fun e w' => e = .returned (.string (ofL L)) ∧ w' = w) := by
  have hu91 := Try.underlying91
  obtain ⟨v, hb, hr, hF⟩ := h
  have hcv := back_bytes rfl hr hL
  have hc := hb.cell 0
  go_enter Try.func21, Try.ntmps21
  go_wp2_with fail
  go_ret
  exact ⟨rfl, rfl⟩
theorem string_none (w : World) : Calls Try.prog 21 #[.pointer none] w (fun e w' => e = .returned (.string ByteArray.empty) ∧ w' = w) := by
  go_enter Try.func21, Try.ntmps21
  go_wp2_with fail
  go_ret
  exact ⟨rfl, rfl⟩
end Go.Proofs.Ytjojibgihoebaaa.A
