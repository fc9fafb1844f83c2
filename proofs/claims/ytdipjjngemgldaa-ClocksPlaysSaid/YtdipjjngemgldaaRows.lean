/-
  No cell of these rows narrows 'for every input' (looked for: loops, veiled, ifaces, maps, wideKeys, modest, calm, conditions, laid).
  DERIVED. THE GIVEN ROWS OF THIS SEAT. 4 by the template 'for every input the law returns true; each argument reads behind the call as it read before'; 0 by the template 'total and deterministic' (their statements: YtdipjjngemgldaaTotals.lean).
  GIVEN WITH THE SEED: the statements are not yours to turn. If you find one false, say at which input.
  Laid BY PROGRAM, IN A SANDBOX (cutbox-rows.mjs): the forced cells as the released guide's own fill.sh prints them over the translation ee0d438062e92478… (all of the seat's roots in one cut). By AI agents, Wed Nov 11 2026. No macro, syntax, notation, axiom, sorry.
-/
import Derived.Test.YtdipjjngemgldaaChecked
import GoSem.Claim
import GoSem.ClaimJoined
import GoSem.ClaimMapViews
import Derived.JoinedTies
import Derived.KernelRfl
namespace Go.Proofs.Ytdipjjngemgldaa
/- THE CELL 'sum', in the pinned program and in every row, IS THE sha256 OF THE DUMP (.gsa) THAT YtdipjjngemgldaaProg.lean LOADS. Nothing in Lean hashes anything: it is a label: what it is worth is what the hold of that sum in a sandbox is worth. -/
noncomputable def Try.pinned : Pinned := { name := "ytdipjjngemgldaa", sum := "ee0d438062e92478fc2cb25a9527b37e3b5575a67810ad3fdbb195842694568f", checked := Try.checked }
namespace Rows
def none {H : Type} : Left H := { results := [], args := [] }

/-- 'latchkeylaw07.ClocksSums': WHATEVER THE INPUT: true; the input reads as it did. -/
def clocksSumsSpec : ChangeSpec := { name := "clocksSums", fn := fun _ => fun
  | [d] => { results := [.lit (.bool true)], args := [d] }
  | _ => none }
def clocksSumsRow : OpenClaim := { program := "ytdipjjngemgldaa", sum := "ee0d438062e92478fc2cb25a9527b37e3b5575a67810ad3fdbb195842694568f", func := "latchkey/latchkeylaw07.ClocksSums", spec := "clocksSums", unfollowed := true, recurses := true, apart := false }
def ClocksSumsSaid : Prop := clocksSumsRow.holds Try.pinned (OpenSpec.ofChange clocksSumsSpec)

/-- ITS FALSE NEIGHBOUR: 'it returns false'. Refute it at one input. -/
def clocksSumsWrong : ChangeSpec := { name := "clocksSums", fn := fun _ => fun
  | [d] => { results := [.lit (.bool false)], args := [d] }
  | _ => none }
def ClocksSumsWrongFalsely : Prop := clocksSumsRow.holds Try.pinned (OpenSpec.ofChange clocksSumsWrong)

/-- 'latchkeylaw07.ClocksLeases': WHATEVER THE INPUT: true; the input reads as it did. -/
def clocksLeasesSpec : ChangeSpec := { name := "clocksLeases", fn := fun _ => fun
  | [d1, d2, d3] => { results := [.lit (.bool true)], args := [d1, d2, d3] }
  | _ => none }
def clocksLeasesRow : OpenClaim := { program := "ytdipjjngemgldaa", sum := "ee0d438062e92478fc2cb25a9527b37e3b5575a67810ad3fdbb195842694568f", func := "latchkey/latchkeylaw07.ClocksLeases", spec := "clocksLeases", unfollowed := true, recurses := true, apart := false }
def ClocksLeasesSaid : Prop := clocksLeasesRow.holds Try.pinned (OpenSpec.ofChange clocksLeasesSpec)

/-- ITS FALSE NEIGHBOUR: 'it returns false'. Refute it at one input. -/
def clocksLeasesWrong : ChangeSpec := { name := "clocksLeases", fn := fun _ => fun
  | [d1, d2, d3] => { results := [.lit (.bool false)], args := [d1, d2, d3] }
  | _ => none }
def ClocksLeasesWrongFalsely : Prop := clocksLeasesRow.holds Try.pinned (OpenSpec.ofChange clocksLeasesWrong)

/-- 'latchkeylaw07.ClocksPlays': WHATEVER THE INPUT: true; the input reads as it did. -/
def clocksPlaysSpec : ChangeSpec := { name := "clocksPlays", fn := fun _ => fun
  | [d1, d2] => { results := [.lit (.bool true)], args := [d1, d2] }
  | _ => none }
def clocksPlaysRow : OpenClaim := { program := "ytdipjjngemgldaa", sum := "ee0d438062e92478fc2cb25a9527b37e3b5575a67810ad3fdbb195842694568f", func := "latchkey/latchkeylaw07.ClocksPlays", spec := "clocksPlays", unfollowed := true, recurses := true, apart := false }
def ClocksPlaysSaid : Prop := clocksPlaysRow.holds Try.pinned (OpenSpec.ofChange clocksPlaysSpec)

/-- ITS FALSE NEIGHBOUR: 'it returns false'. Refute it at one input. -/
def clocksPlaysWrong : ChangeSpec := { name := "clocksPlays", fn := fun _ => fun
  | [d1, d2] => { results := [.lit (.bool false)], args := [d1, d2] }
  | _ => none }
def ClocksPlaysWrongFalsely : Prop := clocksPlaysRow.holds Try.pinned (OpenSpec.ofChange clocksPlaysWrong)

/-- 'latchkeylaw07.ClocksNone': WHATEVER THE INPUT: true; the input reads as it did. -/
def clocksNoneSpec : ChangeSpec := { name := "clocksNone", fn := fun _ => fun
  | [d] => { results := [.lit (.bool true)], args := [d] }
  | _ => none }
def clocksNoneRow : OpenClaim := { program := "ytdipjjngemgldaa", sum := "ee0d438062e92478fc2cb25a9527b37e3b5575a67810ad3fdbb195842694568f", func := "latchkey/latchkeylaw07.ClocksNone", spec := "clocksNone", unfollowed := true, recurses := true, apart := false }
def ClocksNoneSaid : Prop := clocksNoneRow.holds Try.pinned (OpenSpec.ofChange clocksNoneSpec)

/-- ITS FALSE NEIGHBOUR: 'it returns false'. Refute it at one input. -/
def clocksNoneWrong : ChangeSpec := { name := "clocksNone", fn := fun _ => fun
  | [d] => { results := [.lit (.bool false)], args := [d] }
  | _ => none }
def ClocksNoneWrongFalsely : Prop := clocksNoneRow.holds Try.pinned (OpenSpec.ofChange clocksNoneWrong)

/- THE SECOND FORM. 'bulk': how many values and letters a reading holds, each counted each time it is reached (what is shared counts as often as it is met; a slice's spare places count too). A statement '..UptoSaid' is the law's where the arguments, and the package variables that the reading takes, are together of bulk at most 1048576: NARROWER than '..Said'. Prove '..Said' where nothing that the law and all that it calls make is longer than what came in: it says more and counts as full. Else prove '..UptoSaid'. A law counts once. -/
mutual
def uptoBulk {H : Type} : DataW H → Nat
  | .lit (.string bytes) => bytes.length + 1
  | .lit _ => 1
  | .nil => 1
  | .ptr d => uptoBulk d + 1
  | .slice elems spare => uptoBulkAll elems + uptoBulkAll spare + 1
  | .agg parts => uptoBulkAll parts + 1
  | .iface _ d => uptoBulk d + 1
  | .map entries => uptoBulkEntries entries + 1
  | .held _ => 1
def uptoBulkAll {H : Type} : List (DataW H) → Nat
  | [] => 0
  | d :: r => uptoBulk d + uptoBulkAll r
def uptoBulkEntries {H : Type} : List (Lit × DataW H) → Nat
  | [] => 0
  | x :: r => uptoBulkEntry x + uptoBulkEntries r
def uptoBulkEntry {H : Type} : Lit × DataW H → Nat
  | (.string bytes, d) => bytes.length + uptoBulk d + 1
  | (_, d) => uptoBulk d + 1
 end
def uptoSmall : (H : Type) → List (DataW H) → Bool := fun _ ds => decide (uptoBulkAll ds ≤ 1048576)
def OpenSpec.upto (s : _root_.Go.ChangeSpec) : _root_.Go.OpenSpec := { _root_.Go.OpenSpec.ofChange s with cond := some uptoSmall }

/-- 'latchkeylaw07.ClocksSums', WHERE WHAT IT READS IS OF BULK AT MOST 1048576: true; the input reads as it did. -/
def clocksSumsUptoRow : OpenClaim := { program := "ytdipjjngemgldaa", sum := "ee0d438062e92478fc2cb25a9527b37e3b5575a67810ad3fdbb195842694568f", func := "latchkey/latchkeylaw07.ClocksSums", spec := "clocksSums", unfollowed := true, recurses := true, apart := false, narrowed := true }
def ClocksSumsUptoSaid : Prop := clocksSumsUptoRow.holds Try.pinned (OpenSpec.upto clocksSumsSpec)

/-- 'latchkeylaw07.ClocksLeases', WHERE WHAT IT READS IS OF BULK AT MOST 1048576: true; the input reads as it did. -/
def clocksLeasesUptoRow : OpenClaim := { program := "ytdipjjngemgldaa", sum := "ee0d438062e92478fc2cb25a9527b37e3b5575a67810ad3fdbb195842694568f", func := "latchkey/latchkeylaw07.ClocksLeases", spec := "clocksLeases", unfollowed := true, recurses := true, apart := false, narrowed := true }
def ClocksLeasesUptoSaid : Prop := clocksLeasesUptoRow.holds Try.pinned (OpenSpec.upto clocksLeasesSpec)

/-- 'latchkeylaw07.ClocksPlays', WHERE WHAT IT READS IS OF BULK AT MOST 1048576: true; the input reads as it did. -/
def clocksPlaysUptoRow : OpenClaim := { program := "ytdipjjngemgldaa", sum := "ee0d438062e92478fc2cb25a9527b37e3b5575a67810ad3fdbb195842694568f", func := "latchkey/latchkeylaw07.ClocksPlays", spec := "clocksPlays", unfollowed := true, recurses := true, apart := false, narrowed := true }
def ClocksPlaysUptoSaid : Prop := clocksPlaysUptoRow.holds Try.pinned (OpenSpec.upto clocksPlaysSpec)

/-- 'latchkeylaw07.ClocksNone', WHERE WHAT IT READS IS OF BULK AT MOST 1048576: true; the input reads as it did. -/
def clocksNoneUptoRow : OpenClaim := { program := "ytdipjjngemgldaa", sum := "ee0d438062e92478fc2cb25a9527b37e3b5575a67810ad3fdbb195842694568f", func := "latchkey/latchkeylaw07.ClocksNone", spec := "clocksNone", unfollowed := true, recurses := true, apart := false, narrowed := true }
def ClocksNoneUptoSaid : Prop := clocksNoneUptoRow.holds Try.pinned (OpenSpec.upto clocksNoneSpec)

end Rows
end Go.Proofs.Ytdipjjngemgldaa
