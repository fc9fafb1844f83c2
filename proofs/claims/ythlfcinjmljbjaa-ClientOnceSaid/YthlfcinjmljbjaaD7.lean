/-
  The client: Holds.
-/
import Derived.Test.YthlfcinjmljbjaaD6
namespace Go.Proofs.Ythlfcinjmljbjaa.A
open Go.RowKit Go.Proofs.Ythlfcinjmljbjaa.U
set_option linter.unusedVariables false
set_option linter.unusedSimpArgs false
set_option maxRecDepth 100000

section
variable {B : Nat} {w0 w : World} {b : Nat} {S : CS} {Q : SP}
abbrev zH : Array Value := #[.string ⟨#[]⟩, .bool false, .int .u64 0]
theorem holds13 (w : World) (p A : Option Addr) (c : Nat) (h : Blk w b 62 (S.cs p A S.L.length c)) (hs : U.Src w A 3 S.L.length (hds S.L)) (hn : S.L.length ≤ 1000000) (hr : Rise S.L) (s : ByteArray) (now : Int) :
    Calls Try.prog 13 #[.pointer (some ⟨b, 0, none⟩), .string s, .int .i64 now] w (fun e w' => e = .returned (.tuple #[(holdsR S s now).1.val, .bool (holdsR S s now).2]) ∧ Keep Nothing w w') := by
  have hu := Try.underlying62
  have hu2 := Try.underlying46
  have Z := Blk.fresh w 46 zH
  have B1 := h.alloc (.cells zH 46)
  have K1 := Lib.hid ((Keep.same Nothing w).alloc (.cells zH 46))
  have S1 := Lib.hid (show U.Src (w.alloc (.cells zH 46)) A 3 S.L.length (hds S.L) from ⟨hs.1, fun hn => by
    obtain ⟨ad', e, hc⟩ := hs.2 hn
    exact ⟨ad', e, fun j u hu => K1.out.cell (hc j u hu) (fun h => h)⟩⟩)
  have HV := Lib.hid (valid12 _ b S p A S.L.length c now B1)
  have HA := Lib.hid (at27 _ p A c B1 S1.out hn hr s)
  have RI := Lib.hid hr
  have BB := Lib.hid B1
  have ZZ := Lib.hid Z
  clear h hs B1 Z hr
  cases hv : S.valid now with
  | false =>
    have E := Lib.hid (show holdsR S s now = (⟨.empty, false, 0⟩, false) by unfold holdsR; rw [hv]; rfl)
    rw [hv] at HV
    clear hv
    obtain ⟨r0, f0, r1, f1, r2, f2, q0, q1, q2, p0, p1⟩ := store3 ZZ.out (.string ⟨#[]⟩) (.bool false) (.int .u64 0)
    go_enter Try.func13, Try.ntmps13
    go_wp2_with fail
    refine HV.out.mono ?_
    rintro e w' ⟨rfl, rfl⟩
    go_wp2_with fail
    refine bodyPost_ret (v := .tuple #[.agg zH, .bool false]) (by simp [results, Try.results13, go_sem, hu, hu2, p0, p1, q0, q1, q2]) rfl ?_
    exact ⟨by rw [E.out]; rfl, K1.out⟩
  | true =>
    rw [hv] at HV
    have VV := Lib.hid hv
    clear hv
    go_enter Try.func13, Try.ntmps13
    go_wp2_with fail
    refine HV.out.mono ?_
    rintro e w' ⟨rfl, rfl⟩
    go_wp2_with fail
    refine HA.out.mono ?_
    rintro e w3 ⟨k, t, rfl, h1, h2, h3, h4⟩
    have K3 := Lib.hid h4
    have Z3 := ZZ.out.keep h4 (fun h => h)
    have F := found_look RI.out h2 h3
    clear h2 h3
    rcases F with ⟨rfl, y, hy, he, hl⟩ | ⟨rfl, hl⟩
    · have E := Lib.hid (show holdsR S s now = (y, true) by unfold holdsR; rw [VV.out, if_pos rfl, hl])
      obtain ⟨ad, y', rfl, hy', hat⟩ := hd_at S1.out (show k < S.L.length from (List.getElem?_eq_some_iff.1 hy).1)
      obtain rfl : y' = y := by rw [hy] at hy'; injection hy' with e; exact e.symm
      obtain ⟨d0, d1, d2⟩ := hat.keep h4 (fun h => h)
      have B3 := (BB.out.keep h4 (fun h => h)).cell 11
      have hk := (List.getElem?_eq_some_iff.1 hy).1
      obtain ⟨r0, f0, r1, f1, r2, f2, q0, q1, q2, p0, p1⟩ := store3 Z3 (.string y'.nm) (.bool y'.rd) (.int .u64 y'.tk)
      have KZ := Lib.hid (blks3 Z3 (.string y'.nm) (.bool y'.rd) (.int .u64 y'.tk)).2
      clear h4 hy hy' he hl Z3 hat h1
      go_wp2_with fail
      refine bodyPost_ret (v := .tuple #[y'.val, .bool true]) (by simp [results, Try.results13, go_sem, hu, hu2, p0, p1, q0, q1, q2]) rfl ?_
      exact ⟨by rw [E.out], (K1.out.then K3.out).trans KZ.out (fun i hi => .inr (by rw [hi]; exact Nat.le_refl _))⟩
    · have E := Lib.hid (show holdsR S s now = (⟨.empty, false, 0⟩, false) by unfold holdsR; rw [VV.out, if_pos rfl, hl])
      obtain ⟨r0, f0, r1, f1, r2, f2, q0, q1, q2, p0, p1⟩ := store3 Z3 (.string ⟨#[]⟩) (.bool false) (.int .u64 0)
      have KZ := Lib.hid (blks3 Z3 (.string ⟨#[]⟩) (.bool false) (.int .u64 0)).2
      clear h4 hl Z3 h1
      go_wp2_with fail
      refine bodyPost_ret (v := .tuple #[.agg zH, .bool false]) (by simp [results, Try.results13, go_sem, hu, hu2, p0, p1, q0, q1, q2]) rfl ?_
      exact ⟨by rw [E.out]; rfl, (K1.out.then K3.out).trans KZ.out (fun i hi => .inr (by rw [hi]; exact Nat.le_refl _))⟩
end
end Go.Proofs.Ythlfcinjmljbjaa.A
