/-
  The client: Held.
-/
import Derived.Test.YthlfcinjmljbjaaE2
namespace Go.Proofs.Ythlfcinjmljbjaa.A
open Go.RowKit Go.Proofs.Ythlfcinjmljbjaa.U
set_option linter.unusedVariables false
set_option linter.unusedSimpArgs false
set_option maxRecDepth 100000

theorem held18 (w : World) (b : Nat) (S : CS) (p A : Option Addr) (c : Nat) (h : Blk w b 62 (S.cs p A S.L.length c)) (hs : U.Src w A 3 S.L.length (hds S.L)) (hn : S.L.length ≤ 1000000) :
    Calls Try.prog 18 #[.pointer (some ⟨b, 0, none⟩)] w (FreshHds S.L w) := by
  have hu := Try.underlying62
  have c0 := h.cell 11
  have H := Lib.hid (clone_calls w A S.L.length c S.L hs hn)
  clear h hs hn
  go_enter Try.func18, Try.ntmps18
  go_wp2_with fail
  refine H.out.mono ?_
  rintro e w' ⟨A', c', rfl, h1, h2, h3⟩
  have H1 := Lib.hid h1
  have H2 := Lib.hid h2
  have H3 := Lib.hid h3
  clear h1 h2 h3
  go_wp2_with fail
  go_ret
  exact ⟨A', c', rfl, H1.out, H2.out, H3.out⟩
end Go.Proofs.Ythlfcinjmljbjaa.A
