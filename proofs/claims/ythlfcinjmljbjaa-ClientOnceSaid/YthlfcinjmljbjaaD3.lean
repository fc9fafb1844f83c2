/-
  slices.Clone on a row of Held; the client's state.
-/
import Derived.Test.YthlfcinjmljbjaaO
import Derived.Test.YthlfcinjmljbjaaD2
namespace Go.Proofs.Ythlfcinjmljbjaa.A
open Go.RowKit Go.Proofs.Ythlfcinjmljbjaa.U
set_option linter.unusedVariables false
set_option linter.unusedSimpArgs false
set_option maxRecDepth 100000

def FreshHds (L : List Hd) (w : World) (e : Ending) (w' : World) : Prop := ∃ A c, e = .returned (.slice A L.length c) ∧ Row w' 46 3 (.slice A L.length c) L.length (hds L) ∧ Keep Nothing w w' ∧ ∀ k, (Value.slice A L.length c).ownBlock = some k → w.heap.size ≤ k
theorem clone_calls (w : World) (A : Option Addr) (n c : Nat) (L : List Hd) (h : U.Src w A 3 n (hds L)) (hn : n ≤ 1000000) :
    Calls Try.prog 29 #[.slice A n c] w (FreshHds L w) := by
  have hL := hsrc_len h
  subst hL
  have H := Lib.hid h
  have hu22 := Try.underlying57
  have hz := fun (A : Option Addr) (n c : Nat) w => Lib.run_eql_slice_nil (P := Try.prog) w 57 46 A n c 0 0 Try.underlying57
  clear h
  cases A with
  | none =>
    have h0 : L.length = 0 := by
      rcases Nat.eq_zero_or_pos L.length with h | h
      · exact h
      · obtain ⟨ad, e, _⟩ := H.out.2 h
        cases e
    obtain rfl : L = [] := List.eq_nil_of_length_eq_zero h0
    go_enter Try.func29, Try.ntmps29
    go_wp2_with fail
    go_ret
    exact ⟨none, 0, rfl, Row.nil _ 46 3, Keep.same _ _, fun k hk => by simp [Value.ownBlock] at hk⟩
  | some ad =>
    have H2 := Lib.hid (show U.Src (w.alloc (.cells #[] 46)) (some ad) 3 L.length (hds L) from ⟨H.out.1, fun hn => by
      obtain ⟨ad', e, hc⟩ := H.out.2 hn
      exact ⟨ad', e, fun j u hu => ((Keep.same Nothing w).alloc _).cell (hc j u hu) (fun h => h)⟩⟩)
    have R0 := Lib.hid (Row.fresh w 46 3 0 #[] rfl (by unfold maxLen; omega))
    have O1 := Lib.hid (hds_one L)
    go_enter Try.func29, Try.ntmps29
    go_wp2_with (at_builtin; refine wpList_app _ rfl EH (.tmp 5) (.tmp 6) rfl R0.out H2.out c rfl rfl O1.out (by unfold maxLen; omega) (by omega) ?_)
    intro v' w' hr hg hl
    obtain ⟨A', c', rfl, _, _⟩ := hr.form
    have R1 := Lib.hid hr
    have K1 := Lib.hid (((Keep.same Nothing w).alloc (.cells #[] 46)).grown hg (fun i hi => .inr (by simp [Value.ownBlock] at hi; omega)))
    have O := Lib.hid (show ∀ k, (Value.slice A' L.length c').ownBlock = some k → w.heap.size ≤ k by
      intro k hk
      rcases hl with h | h
      · rw [h] at hk; simp [Value.ownBlock] at hk; omega
      · rw [h] at hk; injection hk with hk; omega)
    clear hr hg hl
    try rw [List.nil_append] at R1
    go_wp2_with fail
    go_ret
    exact ⟨_, _, by simp, R1.out, K1.out, O.out⟩

structure Oc where
  cmd : Cmd
  first : Int
  sent : Int
abbrev Oc.cs (x : Oc) : Array Value := #[.int .i64 x.cmd.k, .int .i64 x.cmd.s, .int .i64 x.cmd.q, .string x.cmd.nm, .int .i64 x.cmd.n, .int .i64 x.first, .int .i64 x.sent]
structure CS where
  id : Int
  n : Int
  life : Int
  server : Int
  session : Int
  seq : Int
  had : Bool
  op : Option Oc
  til : Int
  kept : Bool
  keptAt : Int
  L : List Hd
abbrev CS.cs (S : CS) (p A : Option Addr) (m c : Nat) : Array Value :=
  #[.int .i64 S.id, .int .i64 S.n, .int .i64 S.life, .int .i64 S.server, .int .i64 S.session, .int .i64 S.seq, .bool S.had, .pointer p, .int .i64 S.til, .bool S.kept, .int .i64 S.keptAt, .slice A m c]
def opP (p : Option Addr) : Option Oc → SP
  | none => fun _ F => p = none ∧ ∀ k, ¬ F k
  | some o => fun w F => ∃ b, p = some ⟨b, 0, none⟩ ∧ blkP b 66 o.cs w F
theorem opP_stable (p : Option Addr) (o : Option Oc) : Stable (opP p o) := by
  cases o with
  | none => exact ⟨fun h _ _ => h, fun h hk => absurd hk (h.2 _)⟩
  | some o => exact ⟨fun ⟨b, e, h⟩ hk hn => ⟨b, e, (blkP_stable _ _ _).keep h hk hn⟩, fun ⟨b, e, h⟩ hk => (blkP_stable _ _ _).lt h hk⟩
abbrev lrow (S : CS) (A : Option Addr) (c : Nat) : SP := rowP 46 3 (.slice A S.L.length c) S.L.length (hds S.L)
def cliP (b : Nat) (S : CS) : SP := fun w F => ∃ p A c, star (blkP b 62 (S.cs p A S.L.length c)) (star (opP p S.op) (lrow S A c)) w F
theorem cliP_stable (b : Nat) (S : CS) : Stable (cliP b S) where
  keep := fun ⟨p, A, c, h⟩ hk hn => ⟨p, A, c, ((blkP_stable _ _ _).star ((opP_stable _ _).star (rowP_stable _ _ _ _ _))).keep h hk hn⟩
  lt := fun ⟨p, A, c, h⟩ hk => ((blkP_stable _ _ _).star ((opP_stable _ _).star (rowP_stable _ _ _ _ _))).lt h hk
section
variable {B : Nat} {w0 w : World} {b : Nat} {S : CS} {Q : SP}
theorem cli_open (h : Holds B w0 w (star (cliP b S) Q)) : ∃ p A c, Holds B w0 w (star (blkP b 62 (S.cs p A S.L.length c)) (star (opP p S.op) (star (lrow S A c) Q))) := by
  obtain ⟨F, ⟨F1, F2, ⟨p, A, c, h1⟩, h2, h3, h4⟩, hr⟩ := h
  have g : Holds B w0 w (star (star (blkP b 62 (S.cs p A S.L.length c)) (star (opP p S.op) (lrow S A c))) Q) := ⟨F, ⟨F1, F2, h1, h2, h3, h4⟩, hr⟩
  exact ⟨p, A, c, g.perm (by ac_rfl)⟩
theorem cli_close {p A : Option Addr} {c : Nat} (h : Holds B w0 w (star (blkP b 62 (S.cs p A S.L.length c)) (star (opP p S.op) (star (lrow S A c) Q)))) : Holds B w0 w (star (cliP b S) Q) := by
  have g : Holds B w0 w (star (star (blkP b 62 (S.cs p A S.L.length c)) (star (opP p S.op) (lrow S A c))) Q) := h.perm (by ac_rfl)
  obtain ⟨F, ⟨F1, F2, h1, h2, h3, h4⟩, hr⟩ := g
  exact ⟨F, ⟨F1, F2, ⟨p, A, c, h1⟩, h2, h3, h4⟩, hr⟩
end
end Go.Proofs.Ythlfcinjmljbjaa.A
