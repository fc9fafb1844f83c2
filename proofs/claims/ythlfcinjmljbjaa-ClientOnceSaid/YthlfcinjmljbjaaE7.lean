/-
  The client: hold, where the name is held.
-/
import Derived.Test.YthlfcinjmljbjaaE6
namespace Go.Proofs.Ythlfcinjmljbjaa.A
open Go.RowKit Go.Proofs.Ythlfcinjmljbjaa.U
set_option linter.unusedVariables false
set_option linter.unusedSimpArgs false
set_option maxRecDepth 100000

theorem hold32same (w : World) (b : Nat) (S : CS) (p A : Option Addr) (c : Nat) (x : Hd) (h : Blk w b 62 (S.cs p A S.L.length c)) (hs : U.Src w A 3 S.L.length (hds S.L)) (hn : S.L.length ≤ 1000000) (hr : Rise S.L) (hl : lookH S.L x.nm = some x) :
    Calls Try.prog 32 #[.pointer (some ⟨b, 0, none⟩), x.val] w (fun e w' => unit_ e ∧ Keep Nothing w w') := by
  have hu := Try.underlying62
  have hu2 := Try.underlying46
  have Z := Blk.fresh w 46 x.cs
  have B1 := h.alloc (.cells x.cs 46)
  have K1 := Lib.hid ((Keep.same Nothing w).alloc (.cells x.cs 46))
  have S1 := Lib.hid (show U.Src (w.alloc (.cells x.cs 46)) A 3 S.L.length (hds S.L) from ⟨hs.1, fun hn => by
    obtain ⟨ad', e, hc⟩ := hs.2 hn
    exact ⟨ad', e, fun j u hu => K1.out.cell (hc j u hu) (fun h => h)⟩⟩)
  have HA := Lib.hid (at27 _ p A c B1 S1.out hn hr x.nm)
  have RI := Lib.hid hr
  have BB := Lib.hid B1
  have ZZ := Lib.hid Z
  have z0 := Z.cell 0
  clear h hs B1 Z hr
  go_enter Try.func32, Try.ntmps32
  go_wp2_with fail
  refine HA.out.mono ?_
  rintro e w3 ⟨k, t, rfl, h1, h2, h3, h4⟩
  have K3 := Lib.hid h4
  have Z3 := ZZ.out.keep h4 (fun h => h)
  have F := found_look RI.out h2 h3
  clear h2 h3 z0
  rcases F with ⟨rfl, y, hy, he, hl'⟩ | ⟨rfl, hl'⟩
  · obtain rfl : y = x := by rw [hl] at hl'; injection hl' with e; exact e.symm
    obtain ⟨ad, y', rfl, hy', hat⟩ := hd_at S1.out (show k < S.L.length from (List.getElem?_eq_some_iff.1 hy).1)
    obtain rfl : y' = y := by rw [hy] at hy'; injection hy' with e; exact e.symm
    obtain ⟨d0, d1, d2⟩ := hat.keep h4 (fun h => h)
    have B3 := (BB.out.keep h4 (fun h => h)).cell 11
    have hk := (List.getElem?_eq_some_iff.1 hy).1
    have y0 := Z3.cell 0
    have y1 := Z3.cell 1
    have y2 := Z3.cell 2
    have EQ := fun w => neq46 w y' y'
    rw [show eqH y' y' = true by unfold eqH; simp] at EQ
    unfold Hd.cs at EQ
    clear h4 hy hy' he hl hl' Z3 hat h1
    go_wp2_with fail
    go_region
    all_goals go_wp2_with fail
    all_goals go_end0
    all_goals exact ⟨rfl, by repeat (first | exact (K1.out.then K3.out) | apply Keep.drew)⟩
  · rw [hl] at hl'; cases hl'
end Go.Proofs.Ythlfcinjmljbjaa.A
