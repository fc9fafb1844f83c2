/-
  No cell of these rows narrows 'for every input' (looked for: loops, veiled, ifaces, maps, wideKeys, modest, calm, conditions, laid).
  DERIVED. THE GIVEN ROWS OF THIS SEAT. 5 by the template 'for every input the law returns true; each argument reads behind the call as it read before'; 0 by the template 'total and deterministic' (their statements: YtnbllckmeehhjaaTotals.lean).
  GIVEN WITH THE SEED: the statements are not yours to turn. If you find one false, say at which input.
  Laid BY PROGRAM, IN A SANDBOX (cutbox-rows.mjs): the forced cells as the released guide's own fill.sh prints them over the translation 4a9e9adefab5344c… (all of the seat's roots in one cut). By AI agents, Wed Nov 11 2026. No macro, syntax, notation, axiom, sorry.
-/
import Derived.Test.YtnbllckmeehhjaaChecked
import GoSem.Claim
import GoSem.ClaimJoined
import GoSem.ClaimMapViews
import Derived.JoinedTies
import Derived.KernelRfl
namespace Go.Proofs.Ytnbllckmeehhjaa
/- THE CELL 'sum', in the pinned program and in every row, IS THE sha256 OF THE DUMP (.gsa) THAT YtnbllckmeehhjaaProg.lean LOADS. Nothing in Lean hashes anything: it is a label: what it is worth is what the hold of that sum in a sandbox is worth. -/
noncomputable def Try.pinned : Pinned := { name := "ytnbllckmeehhjaa", sum := "4a9e9adefab5344c14d9e151852d6df5344edc0e2b62e6dab3da577377edb53b", checked := Try.checked }
namespace Rows
def none {H : Type} : Left H := { results := [], args := [] }

/-- 'latchkeylaw15.AcceptorRecords': WHATEVER THE INPUT: true; the input reads as it did. -/
def acceptorRecordsSpec : ChangeSpec := { name := "acceptorRecords", fn := fun _ => fun
  | [d1, d2] => { results := [.lit (.bool true)], args := [d1, d2] }
  | _ => none }
def acceptorRecordsRow : OpenClaim := { program := "ytnbllckmeehhjaa", sum := "4a9e9adefab5344c14d9e151852d6df5344edc0e2b62e6dab3da577377edb53b", func := "latchkey/latchkeylaw15.AcceptorRecords", spec := "acceptorRecords", inPlace := ["slices.overlaps[latchkey/api.Entry]"], unfollowed := true, recurses := true, apart := false }
def AcceptorRecordsSaid : Prop := acceptorRecordsRow.holds Try.pinned (OpenSpec.ofChange acceptorRecordsSpec)

/-- ITS FALSE NEIGHBOUR: 'it returns false'. Refute it at one input. -/
def acceptorRecordsWrong : ChangeSpec := { name := "acceptorRecords", fn := fun _ => fun
  | [d1, d2] => { results := [.lit (.bool false)], args := [d1, d2] }
  | _ => none }
def AcceptorRecordsWrongFalsely : Prop := acceptorRecordsRow.holds Try.pinned (OpenSpec.ofChange acceptorRecordsWrong)

/-- 'latchkeylaw15.AcceptorRefuses': WHATEVER THE INPUT: true; the input reads as it did. -/
def acceptorRefusesSpec : ChangeSpec := { name := "acceptorRefuses", fn := fun _ => fun
  | [d1, d2, d3] => { results := [.lit (.bool true)], args := [d1, d2, d3] }
  | _ => none }
def acceptorRefusesRow : OpenClaim := { program := "ytnbllckmeehhjaa", sum := "4a9e9adefab5344c14d9e151852d6df5344edc0e2b62e6dab3da577377edb53b", func := "latchkey/latchkeylaw15.AcceptorRefuses", spec := "acceptorRefuses", inPlace := ["slices.overlaps[latchkey/api.Entry]"], unfollowed := true, recurses := true, apart := false }
def AcceptorRefusesSaid : Prop := acceptorRefusesRow.holds Try.pinned (OpenSpec.ofChange acceptorRefusesSpec)

/-- ITS FALSE NEIGHBOUR: 'it returns false'. Refute it at one input. -/
def acceptorRefusesWrong : ChangeSpec := { name := "acceptorRefuses", fn := fun _ => fun
  | [d1, d2, d3] => { results := [.lit (.bool false)], args := [d1, d2, d3] }
  | _ => none }
def AcceptorRefusesWrongFalsely : Prop := acceptorRefusesRow.holds Try.pinned (OpenSpec.ofChange acceptorRefusesWrong)

/-- 'latchkeylaw15.AcceptorRises': WHATEVER THE INPUT: true; the input reads as it did. -/
def acceptorRisesSpec : ChangeSpec := { name := "acceptorRises", fn := fun _ => fun
  | [d] => { results := [.lit (.bool true)], args := [d] }
  | _ => none }
def acceptorRisesRow : OpenClaim := { program := "ytnbllckmeehhjaa", sum := "4a9e9adefab5344c14d9e151852d6df5344edc0e2b62e6dab3da577377edb53b", func := "latchkey/latchkeylaw15.AcceptorRises", spec := "acceptorRises", inPlace := ["slices.overlaps[latchkey/api.Entry]"], unfollowed := true, recurses := true, apart := false }
def AcceptorRisesSaid : Prop := acceptorRisesRow.holds Try.pinned (OpenSpec.ofChange acceptorRisesSpec)

/-- ITS FALSE NEIGHBOUR: 'it returns false'. Refute it at one input. -/
def acceptorRisesWrong : ChangeSpec := { name := "acceptorRises", fn := fun _ => fun
  | [d] => { results := [.lit (.bool false)], args := [d] }
  | _ => none }
def AcceptorRisesWrongFalsely : Prop := acceptorRisesRow.holds Try.pinned (OpenSpec.ofChange acceptorRisesWrong)

/-- 'latchkeylaw15.AcceptorPlays': WHATEVER THE INPUT: true; the input reads as it did. -/
def acceptorPlaysSpec : ChangeSpec := { name := "acceptorPlays", fn := fun _ => fun
  | [d1, d2] => { results := [.lit (.bool true)], args := [d1, d2] }
  | _ => none }
def acceptorPlaysRow : OpenClaim := { program := "ytnbllckmeehhjaa", sum := "4a9e9adefab5344c14d9e151852d6df5344edc0e2b62e6dab3da577377edb53b", func := "latchkey/latchkeylaw15.AcceptorPlays", spec := "acceptorPlays", inPlace := ["slices.overlaps[latchkey/api.Entry]"], unfollowed := true, recurses := true, apart := false }
def AcceptorPlaysSaid : Prop := acceptorPlaysRow.holds Try.pinned (OpenSpec.ofChange acceptorPlaysSpec)

/-- ITS FALSE NEIGHBOUR: 'it returns false'. Refute it at one input. -/
def acceptorPlaysWrong : ChangeSpec := { name := "acceptorPlays", fn := fun _ => fun
  | [d1, d2] => { results := [.lit (.bool false)], args := [d1, d2] }
  | _ => none }
def AcceptorPlaysWrongFalsely : Prop := acceptorPlaysRow.holds Try.pinned (OpenSpec.ofChange acceptorPlaysWrong)

/-- 'latchkeylaw15.AcceptorNone': WHATEVER THE INPUT: true; the input reads as it did. -/
def acceptorNoneSpec : ChangeSpec := { name := "acceptorNone", fn := fun _ => fun
  | [d] => { results := [.lit (.bool true)], args := [d] }
  | _ => none }
def acceptorNoneRow : OpenClaim := { program := "ytnbllckmeehhjaa", sum := "4a9e9adefab5344c14d9e151852d6df5344edc0e2b62e6dab3da577377edb53b", func := "latchkey/latchkeylaw15.AcceptorNone", spec := "acceptorNone", inPlace := ["slices.overlaps[latchkey/api.Entry]"], unfollowed := true, recurses := true, apart := false }
def AcceptorNoneSaid : Prop := acceptorNoneRow.holds Try.pinned (OpenSpec.ofChange acceptorNoneSpec)

/-- ITS FALSE NEIGHBOUR: 'it returns false'. Refute it at one input. -/
def acceptorNoneWrong : ChangeSpec := { name := "acceptorNone", fn := fun _ => fun
  | [d] => { results := [.lit (.bool false)], args := [d] }
  | _ => none }
def AcceptorNoneWrongFalsely : Prop := acceptorNoneRow.holds Try.pinned (OpenSpec.ofChange acceptorNoneWrong)

/- THE SECOND FORM. 'bulk': how many values and letters a reading holds, each counted each time it is reached (what is shared counts as often as it is met; a slice's spare places count too). A statement '..UptoSaid' is the law's where the arguments, and the package variables that the reading takes, are together of bulk at most 1048576: NARROWER than '..Said'. Prove '..Said' where nothing that the law and all that it calls make is longer than what came in: it says more and counts as full. Else prove '..UptoSaid'. A law counts once. -/
mutual
def uptoBulk {H : Type} : DataW H → Nat
  | .lit (.string bytes) => bytes.length + 1
  | .lit _ => 1
  | .nil => 1
  | .ptr d => uptoBulk d + 1
  | .slice elems spare => uptoBulkAll elems + uptoBulkAll spare + 1
  | .agg parts => uptoBulkAll parts + 1
  | .iface _ d => uptoBulk d + 1
  | .map entries => uptoBulkEntries entries + 1
  | .held _ => 1
def uptoBulkAll {H : Type} : List (DataW H) → Nat
  | [] => 0
  | d :: r => uptoBulk d + uptoBulkAll r
def uptoBulkEntries {H : Type} : List (Lit × DataW H) → Nat
  | [] => 0
  | x :: r => uptoBulkEntry x + uptoBulkEntries r
def uptoBulkEntry {H : Type} : Lit × DataW H → Nat
  | (.string bytes, d) => bytes.length + uptoBulk d + 1
  | (_, d) => uptoBulk d + 1
 end
def uptoSmall : (H : Type) → List (DataW H) → Bool := fun _ ds => decide (uptoBulkAll ds ≤ 1048576)
def OpenSpec.upto (s : _root_.Go.ChangeSpec) : _root_.Go.OpenSpec := { _root_.Go.OpenSpec.ofChange s with cond := some uptoSmall }

/-- 'latchkeylaw15.AcceptorRecords', WHERE WHAT IT READS IS OF BULK AT MOST 1048576: true; the input reads as it did. -/
def acceptorRecordsUptoRow : OpenClaim := { program := "ytnbllckmeehhjaa", sum := "4a9e9adefab5344c14d9e151852d6df5344edc0e2b62e6dab3da577377edb53b", func := "latchkey/latchkeylaw15.AcceptorRecords", spec := "acceptorRecords", inPlace := ["slices.overlaps[latchkey/api.Entry]"], unfollowed := true, recurses := true, apart := false, narrowed := true }
def AcceptorRecordsUptoSaid : Prop := acceptorRecordsUptoRow.holds Try.pinned (OpenSpec.upto acceptorRecordsSpec)

/-- 'latchkeylaw15.AcceptorRefuses', WHERE WHAT IT READS IS OF BULK AT MOST 1048576: true; the input reads as it did. -/
def acceptorRefusesUptoRow : OpenClaim := { program := "ytnbllckmeehhjaa", sum := "4a9e9adefab5344c14d9e151852d6df5344edc0e2b62e6dab3da577377edb53b", func := "latchkey/latchkeylaw15.AcceptorRefuses", spec := "acceptorRefuses", inPlace := ["slices.overlaps[latchkey/api.Entry]"], unfollowed := true, recurses := true, apart := false, narrowed := true }
def AcceptorRefusesUptoSaid : Prop := acceptorRefusesUptoRow.holds Try.pinned (OpenSpec.upto acceptorRefusesSpec)

/-- 'latchkeylaw15.AcceptorRises', WHERE WHAT IT READS IS OF BULK AT MOST 1048576: true; the input reads as it did. -/
def acceptorRisesUptoRow : OpenClaim := { program := "ytnbllckmeehhjaa", sum := "4a9e9adefab5344c14d9e151852d6df5344edc0e2b62e6dab3da577377edb53b", func := "latchkey/latchkeylaw15.AcceptorRises", spec := "acceptorRises", inPlace := ["slices.overlaps[latchkey/api.Entry]"], unfollowed := true, recurses := true, apart := false, narrowed := true }
def AcceptorRisesUptoSaid : Prop := acceptorRisesUptoRow.holds Try.pinned (OpenSpec.upto acceptorRisesSpec)

/-- 'latchkeylaw15.AcceptorPlays', WHERE WHAT IT READS IS OF BULK AT MOST 1048576: true; the input reads as it did. -/
def acceptorPlaysUptoRow : OpenClaim := { program := "ytnbllckmeehhjaa", sum := "4a9e9adefab5344c14d9e151852d6df5344edc0e2b62e6dab3da577377edb53b", func := "latchkey/latchkeylaw15.AcceptorPlays", spec := "acceptorPlays", inPlace := ["slices.overlaps[latchkey/api.Entry]"], unfollowed := true, recurses := true, apart := false, narrowed := true }
def AcceptorPlaysUptoSaid : Prop := acceptorPlaysUptoRow.holds Try.pinned (OpenSpec.upto acceptorPlaysSpec)

/-- 'latchkeylaw15.AcceptorNone', WHERE WHAT IT READS IS OF BULK AT MOST 1048576: true; the input reads as it did. -/
def acceptorNoneUptoRow : OpenClaim := { program := "ytnbllckmeehhjaa", sum := "4a9e9adefab5344c14d9e151852d6df5344edc0e2b62e6dab3da577377edb53b", func := "latchkey/latchkeylaw15.AcceptorNone", spec := "acceptorNone", inPlace := ["slices.overlaps[latchkey/api.Entry]"], unfollowed := true, recurses := true, apart := false, narrowed := true }
def AcceptorNoneUptoSaid : Prop := acceptorNoneUptoRow.holds Try.pinned (OpenSpec.upto acceptorNoneSpec)

end Rows
end Go.Proofs.Ytnbllckmeehhjaa
