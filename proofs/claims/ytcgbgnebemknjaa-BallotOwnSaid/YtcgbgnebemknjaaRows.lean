/-
  No cell of these rows narrows 'for every input' (looked for: loops, veiled, ifaces, maps, wideKeys, modest, calm, conditions, laid).
  DERIVED. THE GIVEN ROWS OF THIS SEAT. 5 by the template 'for every input the law returns true; each argument reads behind the call as it read before'; 0 by the template 'total and deterministic' (their statements: YtcgbgnebemknjaaTotals.lean).
  GIVEN WITH THE SEED: the statements are not yours to turn. If you find one false, say at which input.
  Laid BY PROGRAM, IN A SANDBOX (cutbox-rows.mjs): the forced cells as the released guide's own fill.sh prints them over the translation abbcfccad31eb5fe… (all of the seat's roots in one cut). By AI agents, Wed Nov 11 2026. No macro, syntax, notation, axiom, sorry.
-/
import Derived.Test.YtcgbgnebemknjaaChecked
import GoSem.Claim
import GoSem.ClaimJoined
import GoSem.ClaimMapViews
import Derived.JoinedTies
import Derived.KernelRfl
namespace Go.Proofs.Ytcgbgnebemknjaa
/- THE CELL 'sum', in the pinned program and in every row, IS THE sha256 OF THE DUMP (.gsa) THAT YtcgbgnebemknjaaProg.lean LOADS. Nothing in Lean hashes anything: it is a label: what it is worth is what the hold of that sum in a sandbox is worth. -/
noncomputable def Try.pinned : Pinned := { name := "ytcgbgnebemknjaa", sum := "abbcfccad31eb5fed3046f0744108744ba31813793697bf49fe42e1a4a5f262e", checked := Try.checked }
namespace Rows
def none {H : Type} : Left H := { results := [], args := [] }

/-- 'latchkeylaw14.BallotParts': WHATEVER THE INPUT: true; the input reads as it did. -/
def ballotPartsSpec : ChangeSpec := { name := "ballotParts", fn := fun _ => fun
  | [d1, d2, d3] => { results := [.lit (.bool true)], args := [d1, d2, d3] }
  | _ => none }
def ballotPartsRow : OpenClaim := { program := "ytcgbgnebemknjaa", sum := "abbcfccad31eb5fed3046f0744108744ba31813793697bf49fe42e1a4a5f262e", func := "latchkey/latchkeylaw14.BallotParts", spec := "ballotParts", unfollowed := true, recurses := true, apart := false }
def BallotPartsSaid : Prop := ballotPartsRow.holds Try.pinned (OpenSpec.ofChange ballotPartsSpec)

/-- ITS FALSE NEIGHBOUR: 'it returns false'. Refute it at one input. -/
def ballotPartsWrong : ChangeSpec := { name := "ballotParts", fn := fun _ => fun
  | [d1, d2, d3] => { results := [.lit (.bool false)], args := [d1, d2, d3] }
  | _ => none }
def BallotPartsWrongFalsely : Prop := ballotPartsRow.holds Try.pinned (OpenSpec.ofChange ballotPartsWrong)

/-- 'latchkeylaw14.BallotNexts': WHATEVER THE INPUT: true; the input reads as it did. -/
def ballotNextsSpec : ChangeSpec := { name := "ballotNexts", fn := fun _ => fun
  | [d1, d2, d3] => { results := [.lit (.bool true)], args := [d1, d2, d3] }
  | _ => none }
def ballotNextsRow : OpenClaim := { program := "ytcgbgnebemknjaa", sum := "abbcfccad31eb5fed3046f0744108744ba31813793697bf49fe42e1a4a5f262e", func := "latchkey/latchkeylaw14.BallotNexts", spec := "ballotNexts", unfollowed := true, recurses := true, apart := false }
def BallotNextsSaid : Prop := ballotNextsRow.holds Try.pinned (OpenSpec.ofChange ballotNextsSpec)

/-- ITS FALSE NEIGHBOUR: 'it returns false'. Refute it at one input. -/
def ballotNextsWrong : ChangeSpec := { name := "ballotNexts", fn := fun _ => fun
  | [d1, d2, d3] => { results := [.lit (.bool false)], args := [d1, d2, d3] }
  | _ => none }
def BallotNextsWrongFalsely : Prop := ballotNextsRow.holds Try.pinned (OpenSpec.ofChange ballotNextsWrong)

/-- 'latchkeylaw14.BallotOwn': WHATEVER THE INPUT: true; the input reads as it did. -/
def ballotOwnSpec : ChangeSpec := { name := "ballotOwn", fn := fun _ => fun
  | [d1, d2] => { results := [.lit (.bool true)], args := [d1, d2] }
  | _ => none }
def ballotOwnRow : OpenClaim := { program := "ytcgbgnebemknjaa", sum := "abbcfccad31eb5fed3046f0744108744ba31813793697bf49fe42e1a4a5f262e", func := "latchkey/latchkeylaw14.BallotOwn", spec := "ballotOwn", unfollowed := true, recurses := true, apart := false }
def BallotOwnSaid : Prop := ballotOwnRow.holds Try.pinned (OpenSpec.ofChange ballotOwnSpec)

/-- ITS FALSE NEIGHBOUR: 'it returns false'. Refute it at one input. -/
def ballotOwnWrong : ChangeSpec := { name := "ballotOwn", fn := fun _ => fun
  | [d1, d2] => { results := [.lit (.bool false)], args := [d1, d2] }
  | _ => none }
def BallotOwnWrongFalsely : Prop := ballotOwnRow.holds Try.pinned (OpenSpec.ofChange ballotOwnWrong)

/-- 'latchkeylaw14.BallotAbove': WHATEVER THE INPUT: true; the input reads as it did. -/
def ballotAboveSpec : ChangeSpec := { name := "ballotAbove", fn := fun _ => fun
  | [d1, d2] => { results := [.lit (.bool true)], args := [d1, d2] }
  | _ => none }
def ballotAboveRow : OpenClaim := { program := "ytcgbgnebemknjaa", sum := "abbcfccad31eb5fed3046f0744108744ba31813793697bf49fe42e1a4a5f262e", func := "latchkey/latchkeylaw14.BallotAbove", spec := "ballotAbove", unfollowed := true, recurses := true, apart := false }
def BallotAboveSaid : Prop := ballotAboveRow.holds Try.pinned (OpenSpec.ofChange ballotAboveSpec)

/-- ITS FALSE NEIGHBOUR: 'it returns false'. Refute it at one input. -/
def ballotAboveWrong : ChangeSpec := { name := "ballotAbove", fn := fun _ => fun
  | [d1, d2] => { results := [.lit (.bool false)], args := [d1, d2] }
  | _ => none }
def BallotAboveWrongFalsely : Prop := ballotAboveRow.holds Try.pinned (OpenSpec.ofChange ballotAboveWrong)

/-- 'latchkeylaw14.BallotMajorities': WHATEVER THE INPUT: true; the input reads as it did. -/
def ballotMajoritiesSpec : ChangeSpec := { name := "ballotMajorities", fn := fun _ => fun
  | [d] => { results := [.lit (.bool true)], args := [d] }
  | _ => none }
def ballotMajoritiesRow : OpenClaim := { program := "ytcgbgnebemknjaa", sum := "abbcfccad31eb5fed3046f0744108744ba31813793697bf49fe42e1a4a5f262e", func := "latchkey/latchkeylaw14.BallotMajorities", spec := "ballotMajorities", unfollowed := true, recurses := true, apart := false }
def BallotMajoritiesSaid : Prop := ballotMajoritiesRow.holds Try.pinned (OpenSpec.ofChange ballotMajoritiesSpec)

/-- ITS FALSE NEIGHBOUR: 'it returns false'. Refute it at one input. -/
def ballotMajoritiesWrong : ChangeSpec := { name := "ballotMajorities", fn := fun _ => fun
  | [d] => { results := [.lit (.bool false)], args := [d] }
  | _ => none }
def BallotMajoritiesWrongFalsely : Prop := ballotMajoritiesRow.holds Try.pinned (OpenSpec.ofChange ballotMajoritiesWrong)

/- THE SECOND FORM. 'bulk': how many values and letters a reading holds, each counted each time it is reached (what is shared counts as often as it is met; a slice's spare places count too). A statement '..UptoSaid' is the law's where the arguments, and the package variables that the reading takes, are together of bulk at most 1048576: NARROWER than '..Said'. Prove '..Said' where nothing that the law and all that it calls make is longer than what came in: it says more and counts as full. Else prove '..UptoSaid'. A law counts once. -/
mutual
def uptoBulk {H : Type} : DataW H → Nat
  | .lit (.string bytes) => bytes.length + 1
  | .lit _ => 1
  | .nil => 1
  | .ptr d => uptoBulk d + 1
  | .slice elems spare => uptoBulkAll elems + uptoBulkAll spare + 1
  | .agg parts => uptoBulkAll parts + 1
  | .iface _ d => uptoBulk d + 1
  | .map entries => uptoBulkEntries entries + 1
  | .held _ => 1
def uptoBulkAll {H : Type} : List (DataW H) → Nat
  | [] => 0
  | d :: r => uptoBulk d + uptoBulkAll r
def uptoBulkEntries {H : Type} : List (Lit × DataW H) → Nat
  | [] => 0
  | x :: r => uptoBulkEntry x + uptoBulkEntries r
def uptoBulkEntry {H : Type} : Lit × DataW H → Nat
  | (.string bytes, d) => bytes.length + uptoBulk d + 1
  | (_, d) => uptoBulk d + 1
 end
def uptoSmall : (H : Type) → List (DataW H) → Bool := fun _ ds => decide (uptoBulkAll ds ≤ 1048576)
def OpenSpec.upto (s : _root_.Go.ChangeSpec) : _root_.Go.OpenSpec := { _root_.Go.OpenSpec.ofChange s with cond := some uptoSmall }

/-- 'latchkeylaw14.BallotParts', WHERE WHAT IT READS IS OF BULK AT MOST 1048576: true; the input reads as it did. -/
def ballotPartsUptoRow : OpenClaim := { program := "ytcgbgnebemknjaa", sum := "abbcfccad31eb5fed3046f0744108744ba31813793697bf49fe42e1a4a5f262e", func := "latchkey/latchkeylaw14.BallotParts", spec := "ballotParts", unfollowed := true, recurses := true, apart := false, narrowed := true }
def BallotPartsUptoSaid : Prop := ballotPartsUptoRow.holds Try.pinned (OpenSpec.upto ballotPartsSpec)

/-- 'latchkeylaw14.BallotNexts', WHERE WHAT IT READS IS OF BULK AT MOST 1048576: true; the input reads as it did. -/
def ballotNextsUptoRow : OpenClaim := { program := "ytcgbgnebemknjaa", sum := "abbcfccad31eb5fed3046f0744108744ba31813793697bf49fe42e1a4a5f262e", func := "latchkey/latchkeylaw14.BallotNexts", spec := "ballotNexts", unfollowed := true, recurses := true, apart := false, narrowed := true }
def BallotNextsUptoSaid : Prop := ballotNextsUptoRow.holds Try.pinned (OpenSpec.upto ballotNextsSpec)

/-- 'latchkeylaw14.BallotOwn', WHERE WHAT IT READS IS OF BULK AT MOST 1048576: true; the input reads as it did. -/
def ballotOwnUptoRow : OpenClaim := { program := "ytcgbgnebemknjaa", sum := "abbcfccad31eb5fed3046f0744108744ba31813793697bf49fe42e1a4a5f262e", func := "latchkey/latchkeylaw14.BallotOwn", spec := "ballotOwn", unfollowed := true, recurses := true, apart := false, narrowed := true }
def BallotOwnUptoSaid : Prop := ballotOwnUptoRow.holds Try.pinned (OpenSpec.upto ballotOwnSpec)

/-- 'latchkeylaw14.BallotAbove', WHERE WHAT IT READS IS OF BULK AT MOST 1048576: true; the input reads as it did. -/
def ballotAboveUptoRow : OpenClaim := { program := "ytcgbgnebemknjaa", sum := "abbcfccad31eb5fed3046f0744108744ba31813793697bf49fe42e1a4a5f262e", func := "latchkey/latchkeylaw14.BallotAbove", spec := "ballotAbove", unfollowed := true, recurses := true, apart := false, narrowed := true }
def BallotAboveUptoSaid : Prop := ballotAboveUptoRow.holds Try.pinned (OpenSpec.upto ballotAboveSpec)

/-- 'latchkeylaw14.BallotMajorities', WHERE WHAT IT READS IS OF BULK AT MOST 1048576: true; the input reads as it did. -/
def ballotMajoritiesUptoRow : OpenClaim := { program := "ytcgbgnebemknjaa", sum := "abbcfccad31eb5fed3046f0744108744ba31813793697bf49fe42e1a4a5f262e", func := "latchkey/latchkeylaw14.BallotMajorities", spec := "ballotMajorities", unfollowed := true, recurses := true, apart := false, narrowed := true }
def BallotMajoritiesUptoSaid : Prop := ballotMajoritiesUptoRow.holds Try.pinned (OpenSpec.upto ballotMajoritiesSpec)

end Rows
end Go.Proofs.Ytcgbgnebemknjaa
