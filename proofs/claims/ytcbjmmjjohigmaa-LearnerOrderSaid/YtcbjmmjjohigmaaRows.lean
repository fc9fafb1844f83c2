/-
  No cell of these rows narrows 'for every input' (looked for: loops, veiled, ifaces, maps, wideKeys, modest, calm, conditions, laid).
  DERIVED. THE GIVEN ROWS OF THIS SEAT. 4 by the template 'for every input the law returns true; each argument reads behind the call as it read before'; 0 by the template 'total and deterministic' (their statements: YtcbjmmjjohigmaaTotals.lean).
  GIVEN WITH THE SEED: the statements are not yours to turn. If you find one false, say at which input.
  Laid BY PROGRAM, IN A SANDBOX (cutbox-rows.mjs): the forced cells as the released guide's own fill.sh prints them over the translation af68a74326dce4f0… (all of the seat's roots in one cut). By AI agents, Wed Nov 11 2026. No macro, syntax, notation, axiom, sorry.
-/
import Derived.Test.YtcbjmmjjohigmaaChecked
import GoSem.Claim
import GoSem.ClaimJoined
import GoSem.ClaimMapViews
import Derived.JoinedTies
import Derived.KernelRfl
namespace Go.Proofs.Ytcbjmmjjohigmaa
/- THE CELL 'sum', in the pinned program and in every row, IS THE sha256 OF THE DUMP (.gsa) THAT YtcbjmmjjohigmaaProg.lean LOADS. Nothing in Lean hashes anything: it is a label: what it is worth is what the hold of that sum in a sandbox is worth. -/
noncomputable def Try.pinned : Pinned := { name := "ytcbjmmjjohigmaa", sum := "af68a74326dce4f0bc0d5f7f15810a94a1d16ebf228f95bf3e2489c64fc0fb79", checked := Try.checked }
namespace Rows
def none {H : Type} : Left H := { results := [], args := [] }

/-- 'latchkeylaw17.LearnerOrder': WHATEVER THE INPUT: true; the input reads as it did. -/
def learnerOrderSpec : ChangeSpec := { name := "learnerOrder", fn := fun _ => fun
  | [d1, d2] => { results := [.lit (.bool true)], args := [d1, d2] }
  | _ => none }
def learnerOrderRow : OpenClaim := { program := "ytcbjmmjjohigmaa", sum := "af68a74326dce4f0bc0d5f7f15810a94a1d16ebf228f95bf3e2489c64fc0fb79", func := "latchkey/latchkeylaw17.LearnerOrder", spec := "learnerOrder", unfollowed := true, recurses := true, apart := false }
def LearnerOrderSaid : Prop := learnerOrderRow.holds Try.pinned (OpenSpec.ofChange learnerOrderSpec)

/-- ITS FALSE NEIGHBOUR: 'it returns false'. Refute it at one input. -/
def learnerOrderWrong : ChangeSpec := { name := "learnerOrder", fn := fun _ => fun
  | [d1, d2] => { results := [.lit (.bool false)], args := [d1, d2] }
  | _ => none }
def LearnerOrderWrongFalsely : Prop := learnerOrderRow.holds Try.pinned (OpenSpec.ofChange learnerOrderWrong)

/-- 'latchkeylaw17.LearnerFirst': WHATEVER THE INPUT: true; the input reads as it did. -/
def learnerFirstSpec : ChangeSpec := { name := "learnerFirst", fn := fun _ => fun
  | [d1, d2] => { results := [.lit (.bool true)], args := [d1, d2] }
  | _ => none }
def learnerFirstRow : OpenClaim := { program := "ytcbjmmjjohigmaa", sum := "af68a74326dce4f0bc0d5f7f15810a94a1d16ebf228f95bf3e2489c64fc0fb79", func := "latchkey/latchkeylaw17.LearnerFirst", spec := "learnerFirst", unfollowed := true, recurses := true, apart := false }
def LearnerFirstSaid : Prop := learnerFirstRow.holds Try.pinned (OpenSpec.ofChange learnerFirstSpec)

/-- ITS FALSE NEIGHBOUR: 'it returns false'. Refute it at one input. -/
def learnerFirstWrong : ChangeSpec := { name := "learnerFirst", fn := fun _ => fun
  | [d1, d2] => { results := [.lit (.bool false)], args := [d1, d2] }
  | _ => none }
def LearnerFirstWrongFalsely : Prop := learnerFirstRow.holds Try.pinned (OpenSpec.ofChange learnerFirstWrong)

/-- 'latchkeylaw17.LearnerPlays': WHATEVER THE INPUT: true; the input reads as it did. -/
def learnerPlaysSpec : ChangeSpec := { name := "learnerPlays", fn := fun _ => fun
  | [d1, d2] => { results := [.lit (.bool true)], args := [d1, d2] }
  | _ => none }
def learnerPlaysRow : OpenClaim := { program := "ytcbjmmjjohigmaa", sum := "af68a74326dce4f0bc0d5f7f15810a94a1d16ebf228f95bf3e2489c64fc0fb79", func := "latchkey/latchkeylaw17.LearnerPlays", spec := "learnerPlays", unfollowed := true, recurses := true, apart := false }
def LearnerPlaysSaid : Prop := learnerPlaysRow.holds Try.pinned (OpenSpec.ofChange learnerPlaysSpec)

/-- ITS FALSE NEIGHBOUR: 'it returns false'. Refute it at one input. -/
def learnerPlaysWrong : ChangeSpec := { name := "learnerPlays", fn := fun _ => fun
  | [d1, d2] => { results := [.lit (.bool false)], args := [d1, d2] }
  | _ => none }
def LearnerPlaysWrongFalsely : Prop := learnerPlaysRow.holds Try.pinned (OpenSpec.ofChange learnerPlaysWrong)

/-- 'latchkeylaw17.LearnerNone': WHATEVER THE INPUT: true; the input reads as it did. -/
def learnerNoneSpec : ChangeSpec := { name := "learnerNone", fn := fun _ => fun
  | [d] => { results := [.lit (.bool true)], args := [d] }
  | _ => none }
def learnerNoneRow : OpenClaim := { program := "ytcbjmmjjohigmaa", sum := "af68a74326dce4f0bc0d5f7f15810a94a1d16ebf228f95bf3e2489c64fc0fb79", func := "latchkey/latchkeylaw17.LearnerNone", spec := "learnerNone", unfollowed := true, recurses := true, apart := false }
def LearnerNoneSaid : Prop := learnerNoneRow.holds Try.pinned (OpenSpec.ofChange learnerNoneSpec)

/-- ITS FALSE NEIGHBOUR: 'it returns false'. Refute it at one input. -/
def learnerNoneWrong : ChangeSpec := { name := "learnerNone", fn := fun _ => fun
  | [d] => { results := [.lit (.bool false)], args := [d] }
  | _ => none }
def LearnerNoneWrongFalsely : Prop := learnerNoneRow.holds Try.pinned (OpenSpec.ofChange learnerNoneWrong)

/- THE SECOND FORM. 'bulk': how many values and letters a reading holds, each counted each time it is reached (what is shared counts as often as it is met; a slice's spare places count too). A statement '..UptoSaid' is the law's where the arguments, and the package variables that the reading takes, are together of bulk at most 1048576: NARROWER than '..Said'. Prove '..Said' where nothing that the law and all that it calls make is longer than what came in: it says more and counts as full. Else prove '..UptoSaid'. A law counts once. -/
mutual
def uptoBulk {H : Type} : DataW H → Nat
  | .lit (.string bytes) => bytes.length + 1
  | .lit _ => 1
  | .nil => 1
  | .ptr d => uptoBulk d + 1
  | .slice elems spare => uptoBulkAll elems + uptoBulkAll spare + 1
  | .agg parts => uptoBulkAll parts + 1
  | .iface _ d => uptoBulk d + 1
  | .map entries => uptoBulkEntries entries + 1
  | .held _ => 1
def uptoBulkAll {H : Type} : List (DataW H) → Nat
  | [] => 0
  | d :: r => uptoBulk d + uptoBulkAll r
def uptoBulkEntries {H : Type} : List (Lit × DataW H) → Nat
  | [] => 0
  | x :: r => uptoBulkEntry x + uptoBulkEntries r
def uptoBulkEntry {H : Type} : Lit × DataW H → Nat
  | (.string bytes, d) => bytes.length + uptoBulk d + 1
  | (_, d) => uptoBulk d + 1
 end
def uptoSmall : (H : Type) → List (DataW H) → Bool := fun _ ds => decide (uptoBulkAll ds ≤ 1048576)
def OpenSpec.upto (s : _root_.Go.ChangeSpec) : _root_.Go.OpenSpec := { _root_.Go.OpenSpec.ofChange s with cond := some uptoSmall }

/-- 'latchkeylaw17.LearnerOrder', WHERE WHAT IT READS IS OF BULK AT MOST 1048576: true; the input reads as it did. -/
def learnerOrderUptoRow : OpenClaim := { program := "ytcbjmmjjohigmaa", sum := "af68a74326dce4f0bc0d5f7f15810a94a1d16ebf228f95bf3e2489c64fc0fb79", func := "latchkey/latchkeylaw17.LearnerOrder", spec := "learnerOrder", unfollowed := true, recurses := true, apart := false, narrowed := true }
def LearnerOrderUptoSaid : Prop := learnerOrderUptoRow.holds Try.pinned (OpenSpec.upto learnerOrderSpec)

/-- 'latchkeylaw17.LearnerFirst', WHERE WHAT IT READS IS OF BULK AT MOST 1048576: true; the input reads as it did. -/
def learnerFirstUptoRow : OpenClaim := { program := "ytcbjmmjjohigmaa", sum := "af68a74326dce4f0bc0d5f7f15810a94a1d16ebf228f95bf3e2489c64fc0fb79", func := "latchkey/latchkeylaw17.LearnerFirst", spec := "learnerFirst", unfollowed := true, recurses := true, apart := false, narrowed := true }
def LearnerFirstUptoSaid : Prop := learnerFirstUptoRow.holds Try.pinned (OpenSpec.upto learnerFirstSpec)

/-- 'latchkeylaw17.LearnerPlays', WHERE WHAT IT READS IS OF BULK AT MOST 1048576: true; the input reads as it did. -/
def learnerPlaysUptoRow : OpenClaim := { program := "ytcbjmmjjohigmaa", sum := "af68a74326dce4f0bc0d5f7f15810a94a1d16ebf228f95bf3e2489c64fc0fb79", func := "latchkey/latchkeylaw17.LearnerPlays", spec := "learnerPlays", unfollowed := true, recurses := true, apart := false, narrowed := true }
def LearnerPlaysUptoSaid : Prop := learnerPlaysUptoRow.holds Try.pinned (OpenSpec.upto learnerPlaysSpec)

/-- 'latchkeylaw17.LearnerNone', WHERE WHAT IT READS IS OF BULK AT MOST 1048576: true; the input reads as it did. -/
def learnerNoneUptoRow : OpenClaim := { program := "ytcbjmmjjohigmaa", sum := "af68a74326dce4f0bc0d5f7f15810a94a1d16ebf228f95bf3e2489c64fc0fb79", func := "latchkey/latchkeylaw17.LearnerNone", spec := "learnerNone", unfollowed := true, recurses := true, apart := false, narrowed := true }
def LearnerNoneUptoSaid : Prop := learnerNoneUptoRow.holds Try.pinned (OpenSpec.upto learnerNoneSpec)

end Rows
end Go.Proofs.Ytcbjmmjjohigmaa
