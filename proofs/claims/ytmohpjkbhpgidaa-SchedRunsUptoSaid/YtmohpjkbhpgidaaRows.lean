/-
  No cell of these rows narrows 'for every input' (looked for: loops, veiled, ifaces, maps, wideKeys, modest, calm, conditions, laid).
  DERIVED. THE GIVEN ROWS OF THIS SEAT. 16 by the template 'for every input the law returns true; each argument reads behind the call as it read before'; 0 by the template 'total and deterministic' (their statements: YtmohpjkbhpgidaaTotals.lean).
  GIVEN WITH THE SEED: the statements are not yours to turn. If you find one false, say at which input.
  Laid BY PROGRAM, IN A SANDBOX (cutbox-rows.mjs): the forced cells as the released guide's own fill.sh prints them over the translation 57e4258f34c1b475… (all of the seat's roots in one cut). By AI agents, Wed Nov 11 2026. No macro, syntax, notation, axiom, sorry.
-/
import Derived.Test.YtmohpjkbhpgidaaChecked
import GoSem.Claim
import GoSem.ClaimJoined
import GoSem.ClaimMapViews
import Derived.JoinedTies
import Derived.KernelRfl
namespace Go.Proofs.Ytmohpjkbhpgidaa
/- THE CELL 'sum', in the pinned program and in every row, IS THE sha256 OF THE DUMP (.gsa) THAT YtmohpjkbhpgidaaProg.lean LOADS. Nothing in Lean hashes anything: it is a label: what it is worth is what the hold of that sum in a sandbox is worth. -/
noncomputable def Try.pinned : Pinned := { name := "ytmohpjkbhpgidaa", sum := "57e4258f34c1b475c37ddf1adc65b644377183f15098a28b3a8a609971ef92ed", checked := Try.checked }
namespace Rows
def none {H : Type} : Left H := { results := [], args := [] }

/-- 'latchkeylaw08.LmutexRWPlays': WHATEVER THE INPUT: true; the input reads as it did. -/
def lmutexRWPlaysSpec : ChangeSpec := { name := "lmutexRWPlays", fn := fun _ => fun
  | [d] => { results := [.lit (.bool true)], args := [d] }
  | _ => none }
def lmutexRWPlaysRow : OpenClaim := { program := "ytmohpjkbhpgidaa", sum := "57e4258f34c1b475c37ddf1adc65b644377183f15098a28b3a8a609971ef92ed", func := "latchkey/latchkeylaw08.LmutexRWPlays", spec := "lmutexRWPlays", inPlace := ["slices.overlaps[int]"], unfollowed := true, recurses := true, plainKeys := false, apart := false }
def LmutexRWPlaysSaid : Prop := lmutexRWPlaysRow.holds Try.pinned (OpenSpec.ofChange lmutexRWPlaysSpec)

/-- ITS FALSE NEIGHBOUR: 'it returns false'. Refute it at one input. -/
def lmutexRWPlaysWrong : ChangeSpec := { name := "lmutexRWPlays", fn := fun _ => fun
  | [d] => { results := [.lit (.bool false)], args := [d] }
  | _ => none }
def LmutexRWPlaysWrongFalsely : Prop := lmutexRWPlaysRow.holds Try.pinned (OpenSpec.ofChange lmutexRWPlaysWrong)

/-- 'latchkeylaw08.LmutexOrder': WHATEVER THE INPUT: true; the input reads as it did. -/
def lmutexOrderSpec : ChangeSpec := { name := "lmutexOrder", fn := fun _ => fun
  | [d] => { results := [.lit (.bool true)], args := [d] }
  | _ => none }
def lmutexOrderRow : OpenClaim := { program := "ytmohpjkbhpgidaa", sum := "57e4258f34c1b475c37ddf1adc65b644377183f15098a28b3a8a609971ef92ed", func := "latchkey/latchkeylaw08.LmutexOrder", spec := "lmutexOrder", inPlace := ["slices.overlaps[int]"], unfollowed := true, recurses := true, plainKeys := false, apart := false }
def LmutexOrderSaid : Prop := lmutexOrderRow.holds Try.pinned (OpenSpec.ofChange lmutexOrderSpec)

/-- ITS FALSE NEIGHBOUR: 'it returns false'. Refute it at one input. -/
def lmutexOrderWrong : ChangeSpec := { name := "lmutexOrder", fn := fun _ => fun
  | [d] => { results := [.lit (.bool false)], args := [d] }
  | _ => none }
def LmutexOrderWrongFalsely : Prop := lmutexOrderRow.holds Try.pinned (OpenSpec.ofChange lmutexOrderWrong)

/-- 'latchkeylaw08.LmutexFair': WHATEVER THE INPUT: true; the input reads as it did. -/
def lmutexFairSpec : ChangeSpec := { name := "lmutexFair", fn := fun _ => fun
  | [d] => { results := [.lit (.bool true)], args := [d] }
  | _ => none }
def lmutexFairRow : OpenClaim := { program := "ytmohpjkbhpgidaa", sum := "57e4258f34c1b475c37ddf1adc65b644377183f15098a28b3a8a609971ef92ed", func := "latchkey/latchkeylaw08.LmutexFair", spec := "lmutexFair", inPlace := ["slices.overlaps[int]"], unfollowed := true, recurses := true, plainKeys := false, apart := false }
def LmutexFairSaid : Prop := lmutexFairRow.holds Try.pinned (OpenSpec.ofChange lmutexFairSpec)

/-- ITS FALSE NEIGHBOUR: 'it returns false'. Refute it at one input. -/
def lmutexFairWrong : ChangeSpec := { name := "lmutexFair", fn := fun _ => fun
  | [d] => { results := [.lit (.bool false)], args := [d] }
  | _ => none }
def LmutexFairWrongFalsely : Prop := lmutexFairRow.holds Try.pinned (OpenSpec.ofChange lmutexFairWrong)

/-- 'latchkeylaw08.LmutexPlays': WHATEVER THE INPUT: true; the input reads as it did. -/
def lmutexPlaysSpec : ChangeSpec := { name := "lmutexPlays", fn := fun _ => fun
  | [d] => { results := [.lit (.bool true)], args := [d] }
  | _ => none }
def lmutexPlaysRow : OpenClaim := { program := "ytmohpjkbhpgidaa", sum := "57e4258f34c1b475c37ddf1adc65b644377183f15098a28b3a8a609971ef92ed", func := "latchkey/latchkeylaw08.LmutexPlays", spec := "lmutexPlays", inPlace := ["slices.overlaps[int]"], unfollowed := true, recurses := true, plainKeys := false, apart := false }
def LmutexPlaysSaid : Prop := lmutexPlaysRow.holds Try.pinned (OpenSpec.ofChange lmutexPlaysSpec)

/-- ITS FALSE NEIGHBOUR: 'it returns false'. Refute it at one input. -/
def lmutexPlaysWrong : ChangeSpec := { name := "lmutexPlays", fn := fun _ => fun
  | [d] => { results := [.lit (.bool false)], args := [d] }
  | _ => none }
def LmutexPlaysWrongFalsely : Prop := lmutexPlaysRow.holds Try.pinned (OpenSpec.ofChange lmutexPlaysWrong)

/-- 'latchkeylaw08.LmutexNone': WHATEVER THE INPUT: true; the input reads as it did. -/
def lmutexNoneSpec : ChangeSpec := { name := "lmutexNone", fn := fun _ => fun
  | [d] => { results := [.lit (.bool true)], args := [d] }
  | _ => none }
def lmutexNoneRow : OpenClaim := { program := "ytmohpjkbhpgidaa", sum := "57e4258f34c1b475c37ddf1adc65b644377183f15098a28b3a8a609971ef92ed", func := "latchkey/latchkeylaw08.LmutexNone", spec := "lmutexNone", inPlace := ["slices.overlaps[int]"], unfollowed := true, recurses := true, plainKeys := false, apart := false }
def LmutexNoneSaid : Prop := lmutexNoneRow.holds Try.pinned (OpenSpec.ofChange lmutexNoneSpec)

/-- ITS FALSE NEIGHBOUR: 'it returns false'. Refute it at one input. -/
def lmutexNoneWrong : ChangeSpec := { name := "lmutexNone", fn := fun _ => fun
  | [d] => { results := [.lit (.bool false)], args := [d] }
  | _ => none }
def LmutexNoneWrongFalsely : Prop := lmutexNoneRow.holds Try.pinned (OpenSpec.ofChange lmutexNoneWrong)

/-- 'latchkeylaw09.LgroupOnces': WHATEVER THE INPUT: true; the input reads as it did. -/
def lgroupOncesSpec : ChangeSpec := { name := "lgroupOnces", fn := fun _ => fun
  | [d] => { results := [.lit (.bool true)], args := [d] }
  | _ => none }
def lgroupOncesRow : OpenClaim := { program := "ytmohpjkbhpgidaa", sum := "57e4258f34c1b475c37ddf1adc65b644377183f15098a28b3a8a609971ef92ed", func := "latchkey/latchkeylaw09.LgroupOnces", spec := "lgroupOnces", plainKeys := false, apart := false }
def LgroupOncesSaid : Prop := lgroupOncesRow.holds Try.pinned (OpenSpec.ofChange lgroupOncesSpec)

/-- ITS FALSE NEIGHBOUR: 'it returns false'. Refute it at one input. -/
def lgroupOncesWrong : ChangeSpec := { name := "lgroupOnces", fn := fun _ => fun
  | [d] => { results := [.lit (.bool false)], args := [d] }
  | _ => none }
def LgroupOncesWrongFalsely : Prop := lgroupOncesRow.holds Try.pinned (OpenSpec.ofChange lgroupOncesWrong)

/-- 'latchkeylaw09.LgroupAlone': WHATEVER THE INPUT: true; the input reads as it did. -/
def lgroupAloneSpec : ChangeSpec := { name := "lgroupAlone", fn := fun _ => fun
  | [d] => { results := [.lit (.bool true)], args := [d] }
  | _ => none }
def lgroupAloneRow : OpenClaim := { program := "ytmohpjkbhpgidaa", sum := "57e4258f34c1b475c37ddf1adc65b644377183f15098a28b3a8a609971ef92ed", func := "latchkey/latchkeylaw09.LgroupAlone", spec := "lgroupAlone", plainKeys := false, apart := false }
def LgroupAloneSaid : Prop := lgroupAloneRow.holds Try.pinned (OpenSpec.ofChange lgroupAloneSpec)

/-- ITS FALSE NEIGHBOUR: 'it returns false'. Refute it at one input. -/
def lgroupAloneWrong : ChangeSpec := { name := "lgroupAlone", fn := fun _ => fun
  | [d] => { results := [.lit (.bool false)], args := [d] }
  | _ => none }
def LgroupAloneWrongFalsely : Prop := lgroupAloneRow.holds Try.pinned (OpenSpec.ofChange lgroupAloneWrong)

/-- 'latchkeylaw09.LgroupPlays': WHATEVER THE INPUT: true; the input reads as it did. -/
def lgroupPlaysSpec : ChangeSpec := { name := "lgroupPlays", fn := fun _ => fun
  | [d] => { results := [.lit (.bool true)], args := [d] }
  | _ => none }
def lgroupPlaysRow : OpenClaim := { program := "ytmohpjkbhpgidaa", sum := "57e4258f34c1b475c37ddf1adc65b644377183f15098a28b3a8a609971ef92ed", func := "latchkey/latchkeylaw09.LgroupPlays", spec := "lgroupPlays", plainKeys := false, apart := false }
def LgroupPlaysSaid : Prop := lgroupPlaysRow.holds Try.pinned (OpenSpec.ofChange lgroupPlaysSpec)

/-- ITS FALSE NEIGHBOUR: 'it returns false'. Refute it at one input. -/
def lgroupPlaysWrong : ChangeSpec := { name := "lgroupPlays", fn := fun _ => fun
  | [d] => { results := [.lit (.bool false)], args := [d] }
  | _ => none }
def LgroupPlaysWrongFalsely : Prop := lgroupPlaysRow.holds Try.pinned (OpenSpec.ofChange lgroupPlaysWrong)

/-- 'latchkeylaw09.LgroupZero': WHATEVER THE INPUT: true; the input reads as it did. -/
def lgroupZeroSpec : ChangeSpec := { name := "lgroupZero", fn := fun _ => fun
  | [d] => { results := [.lit (.bool true)], args := [d] }
  | _ => none }
def lgroupZeroRow : OpenClaim := { program := "ytmohpjkbhpgidaa", sum := "57e4258f34c1b475c37ddf1adc65b644377183f15098a28b3a8a609971ef92ed", func := "latchkey/latchkeylaw09.LgroupZero", spec := "lgroupZero", plainKeys := false, apart := false }
def LgroupZeroSaid : Prop := lgroupZeroRow.holds Try.pinned (OpenSpec.ofChange lgroupZeroSpec)

/-- ITS FALSE NEIGHBOUR: 'it returns false'. Refute it at one input. -/
def lgroupZeroWrong : ChangeSpec := { name := "lgroupZero", fn := fun _ => fun
  | [d] => { results := [.lit (.bool false)], args := [d] }
  | _ => none }
def LgroupZeroWrongFalsely : Prop := lgroupZeroRow.holds Try.pinned (OpenSpec.ofChange lgroupZeroWrong)

/-- 'latchkeylaw09.LgroupNone': WHATEVER THE INPUT: true; the input reads as it did. -/
def lgroupNoneSpec : ChangeSpec := { name := "lgroupNone", fn := fun _ => fun
  | [d] => { results := [.lit (.bool true)], args := [d] }
  | _ => none }
def lgroupNoneRow : OpenClaim := { program := "ytmohpjkbhpgidaa", sum := "57e4258f34c1b475c37ddf1adc65b644377183f15098a28b3a8a609971ef92ed", func := "latchkey/latchkeylaw09.LgroupNone", spec := "lgroupNone", plainKeys := false, apart := false }
def LgroupNoneSaid : Prop := lgroupNoneRow.holds Try.pinned (OpenSpec.ofChange lgroupNoneSpec)

/-- ITS FALSE NEIGHBOUR: 'it returns false'. Refute it at one input. -/
def lgroupNoneWrong : ChangeSpec := { name := "lgroupNone", fn := fun _ => fun
  | [d] => { results := [.lit (.bool false)], args := [d] }
  | _ => none }
def LgroupNoneWrongFalsely : Prop := lgroupNoneRow.holds Try.pinned (OpenSpec.ofChange lgroupNoneWrong)

/-- 'latchkeylaw10.SchedRuns': WHATEVER THE INPUT: true; the input reads as it did. -/
def schedRunsSpec : ChangeSpec := { name := "schedRuns", fn := fun _ => fun
  | [d1, d2] => { results := [.lit (.bool true)], args := [d1, d2] }
  | _ => none }
def schedRunsRow : OpenClaim := { program := "ytmohpjkbhpgidaa", sum := "57e4258f34c1b475c37ddf1adc65b644377183f15098a28b3a8a609971ef92ed", func := "latchkey/latchkeylaw10.SchedRuns", spec := "schedRuns", unfollowed := true, recurses := true, plainKeys := false, apart := false }
def SchedRunsSaid : Prop := schedRunsRow.holds Try.pinned (OpenSpec.ofChange schedRunsSpec)

/-- ITS FALSE NEIGHBOUR: 'it returns false'. Refute it at one input. -/
def schedRunsWrong : ChangeSpec := { name := "schedRuns", fn := fun _ => fun
  | [d1, d2] => { results := [.lit (.bool false)], args := [d1, d2] }
  | _ => none }
def SchedRunsWrongFalsely : Prop := schedRunsRow.holds Try.pinned (OpenSpec.ofChange schedRunsWrong)

/-- 'latchkeylaw10.SchedExclusive': WHATEVER THE INPUT: true; the input reads as it did. -/
def schedExclusiveSpec : ChangeSpec := { name := "schedExclusive", fn := fun _ => fun
  | [d1, d2] => { results := [.lit (.bool true)], args := [d1, d2] }
  | _ => none }
def schedExclusiveRow : OpenClaim := { program := "ytmohpjkbhpgidaa", sum := "57e4258f34c1b475c37ddf1adc65b644377183f15098a28b3a8a609971ef92ed", func := "latchkey/latchkeylaw10.SchedExclusive", spec := "schedExclusive", unfollowed := true, recurses := true, plainKeys := false, apart := false }
def SchedExclusiveSaid : Prop := schedExclusiveRow.holds Try.pinned (OpenSpec.ofChange schedExclusiveSpec)

/-- ITS FALSE NEIGHBOUR: 'it returns false'. Refute it at one input. -/
def schedExclusiveWrong : ChangeSpec := { name := "schedExclusive", fn := fun _ => fun
  | [d1, d2] => { results := [.lit (.bool false)], args := [d1, d2] }
  | _ => none }
def SchedExclusiveWrongFalsely : Prop := schedExclusiveRow.holds Try.pinned (OpenSpec.ofChange schedExclusiveWrong)

/-- 'latchkeylaw10.SchedOnce': WHATEVER THE INPUT: true; the input reads as it did. -/
def schedOnceSpec : ChangeSpec := { name := "schedOnce", fn := fun _ => fun
  | [d1, d2] => { results := [.lit (.bool true)], args := [d1, d2] }
  | _ => none }
def schedOnceRow : OpenClaim := { program := "ytmohpjkbhpgidaa", sum := "57e4258f34c1b475c37ddf1adc65b644377183f15098a28b3a8a609971ef92ed", func := "latchkey/latchkeylaw10.SchedOnce", spec := "schedOnce", unfollowed := true, recurses := true, plainKeys := false, apart := false }
def SchedOnceSaid : Prop := schedOnceRow.holds Try.pinned (OpenSpec.ofChange schedOnceSpec)

/-- ITS FALSE NEIGHBOUR: 'it returns false'. Refute it at one input. -/
def schedOnceWrong : ChangeSpec := { name := "schedOnce", fn := fun _ => fun
  | [d1, d2] => { results := [.lit (.bool false)], args := [d1, d2] }
  | _ => none }
def SchedOnceWrongFalsely : Prop := schedOnceRow.holds Try.pinned (OpenSpec.ofChange schedOnceWrong)

/-- 'latchkeylaw10.SchedWaits': WHATEVER THE INPUT: true; the input reads as it did. -/
def schedWaitsSpec : ChangeSpec := { name := "schedWaits", fn := fun _ => fun
  | [d1, d2] => { results := [.lit (.bool true)], args := [d1, d2] }
  | _ => none }
def schedWaitsRow : OpenClaim := { program := "ytmohpjkbhpgidaa", sum := "57e4258f34c1b475c37ddf1adc65b644377183f15098a28b3a8a609971ef92ed", func := "latchkey/latchkeylaw10.SchedWaits", spec := "schedWaits", unfollowed := true, recurses := true, plainKeys := false, apart := false }
def SchedWaitsSaid : Prop := schedWaitsRow.holds Try.pinned (OpenSpec.ofChange schedWaitsSpec)

/-- ITS FALSE NEIGHBOUR: 'it returns false'. Refute it at one input. -/
def schedWaitsWrong : ChangeSpec := { name := "schedWaits", fn := fun _ => fun
  | [d1, d2] => { results := [.lit (.bool false)], args := [d1, d2] }
  | _ => none }
def SchedWaitsWrongFalsely : Prop := schedWaitsRow.holds Try.pinned (OpenSpec.ofChange schedWaitsWrong)

/-- 'latchkeylaw10.SchedSteps': WHATEVER THE INPUT: true; the input reads as it did. -/
def schedStepsSpec : ChangeSpec := { name := "schedSteps", fn := fun _ => fun
  | [d1, d2] => { results := [.lit (.bool true)], args := [d1, d2] }
  | _ => none }
def schedStepsRow : OpenClaim := { program := "ytmohpjkbhpgidaa", sum := "57e4258f34c1b475c37ddf1adc65b644377183f15098a28b3a8a609971ef92ed", func := "latchkey/latchkeylaw10.SchedSteps", spec := "schedSteps", unfollowed := true, recurses := true, plainKeys := false, apart := false }
def SchedStepsSaid : Prop := schedStepsRow.holds Try.pinned (OpenSpec.ofChange schedStepsSpec)

/-- ITS FALSE NEIGHBOUR: 'it returns false'. Refute it at one input. -/
def schedStepsWrong : ChangeSpec := { name := "schedSteps", fn := fun _ => fun
  | [d1, d2] => { results := [.lit (.bool false)], args := [d1, d2] }
  | _ => none }
def SchedStepsWrongFalsely : Prop := schedStepsRow.holds Try.pinned (OpenSpec.ofChange schedStepsWrong)

/-- 'latchkeylaw10.SchedNone': WHATEVER THE INPUT: true; the input reads as it did. -/
def schedNoneSpec : ChangeSpec := { name := "schedNone", fn := fun _ => fun
  | [d] => { results := [.lit (.bool true)], args := [d] }
  | _ => none }
def schedNoneRow : OpenClaim := { program := "ytmohpjkbhpgidaa", sum := "57e4258f34c1b475c37ddf1adc65b644377183f15098a28b3a8a609971ef92ed", func := "latchkey/latchkeylaw10.SchedNone", spec := "schedNone", unfollowed := true, recurses := true, plainKeys := false, apart := false }
def SchedNoneSaid : Prop := schedNoneRow.holds Try.pinned (OpenSpec.ofChange schedNoneSpec)

/-- ITS FALSE NEIGHBOUR: 'it returns false'. Refute it at one input. -/
def schedNoneWrong : ChangeSpec := { name := "schedNone", fn := fun _ => fun
  | [d] => { results := [.lit (.bool false)], args := [d] }
  | _ => none }
def SchedNoneWrongFalsely : Prop := schedNoneRow.holds Try.pinned (OpenSpec.ofChange schedNoneWrong)

/- THE SECOND FORM. 'bulk': how many values and letters a reading holds, each counted each time it is reached (what is shared counts as often as it is met; a slice's spare places count too). A statement '..UptoSaid' is the law's where the arguments, and the package variables that the reading takes, are together of bulk at most 1048576: NARROWER than '..Said'. Prove '..Said' where nothing that the law and all that it calls make is longer than what came in: it says more and counts as full. Else prove '..UptoSaid'. A law counts once. -/
mutual
def uptoBulk {H : Type} : DataW H → Nat
  | .lit (.string bytes) => bytes.length + 1
  | .lit _ => 1
  | .nil => 1
  | .ptr d => uptoBulk d + 1
  | .slice elems spare => uptoBulkAll elems + uptoBulkAll spare + 1
  | .agg parts => uptoBulkAll parts + 1
  | .iface _ d => uptoBulk d + 1
  | .map entries => uptoBulkEntries entries + 1
  | .held _ => 1
def uptoBulkAll {H : Type} : List (DataW H) → Nat
  | [] => 0
  | d :: r => uptoBulk d + uptoBulkAll r
def uptoBulkEntries {H : Type} : List (Lit × DataW H) → Nat
  | [] => 0
  | x :: r => uptoBulkEntry x + uptoBulkEntries r
def uptoBulkEntry {H : Type} : Lit × DataW H → Nat
  | (.string bytes, d) => bytes.length + uptoBulk d + 1
  | (_, d) => uptoBulk d + 1
 end
def uptoSmall : (H : Type) → List (DataW H) → Bool := fun _ ds => decide (uptoBulkAll ds ≤ 1048576)
def OpenSpec.upto (s : _root_.Go.ChangeSpec) : _root_.Go.OpenSpec := { _root_.Go.OpenSpec.ofChange s with cond := some uptoSmall }

/-- 'latchkeylaw08.LmutexRWPlays', WHERE WHAT IT READS IS OF BULK AT MOST 1048576: true; the input reads as it did. -/
def lmutexRWPlaysUptoRow : OpenClaim := { program := "ytmohpjkbhpgidaa", sum := "57e4258f34c1b475c37ddf1adc65b644377183f15098a28b3a8a609971ef92ed", func := "latchkey/latchkeylaw08.LmutexRWPlays", spec := "lmutexRWPlays", inPlace := ["slices.overlaps[int]"], unfollowed := true, recurses := true, plainKeys := false, apart := false, narrowed := true }
def LmutexRWPlaysUptoSaid : Prop := lmutexRWPlaysUptoRow.holds Try.pinned (OpenSpec.upto lmutexRWPlaysSpec)

/-- 'latchkeylaw08.LmutexOrder', WHERE WHAT IT READS IS OF BULK AT MOST 1048576: true; the input reads as it did. -/
def lmutexOrderUptoRow : OpenClaim := { program := "ytmohpjkbhpgidaa", sum := "57e4258f34c1b475c37ddf1adc65b644377183f15098a28b3a8a609971ef92ed", func := "latchkey/latchkeylaw08.LmutexOrder", spec := "lmutexOrder", inPlace := ["slices.overlaps[int]"], unfollowed := true, recurses := true, plainKeys := false, apart := false, narrowed := true }
def LmutexOrderUptoSaid : Prop := lmutexOrderUptoRow.holds Try.pinned (OpenSpec.upto lmutexOrderSpec)

/-- 'latchkeylaw08.LmutexFair', WHERE WHAT IT READS IS OF BULK AT MOST 1048576: true; the input reads as it did. -/
def lmutexFairUptoRow : OpenClaim := { program := "ytmohpjkbhpgidaa", sum := "57e4258f34c1b475c37ddf1adc65b644377183f15098a28b3a8a609971ef92ed", func := "latchkey/latchkeylaw08.LmutexFair", spec := "lmutexFair", inPlace := ["slices.overlaps[int]"], unfollowed := true, recurses := true, plainKeys := false, apart := false, narrowed := true }
def LmutexFairUptoSaid : Prop := lmutexFairUptoRow.holds Try.pinned (OpenSpec.upto lmutexFairSpec)

/-- 'latchkeylaw08.LmutexPlays', WHERE WHAT IT READS IS OF BULK AT MOST 1048576: true; the input reads as it did. -/
def lmutexPlaysUptoRow : OpenClaim := { program := "ytmohpjkbhpgidaa", sum := "57e4258f34c1b475c37ddf1adc65b644377183f15098a28b3a8a609971ef92ed", func := "latchkey/latchkeylaw08.LmutexPlays", spec := "lmutexPlays", inPlace := ["slices.overlaps[int]"], unfollowed := true, recurses := true, plainKeys := false, apart := false, narrowed := true }
def LmutexPlaysUptoSaid : Prop := lmutexPlaysUptoRow.holds Try.pinned (OpenSpec.upto lmutexPlaysSpec)

/-- 'latchkeylaw08.LmutexNone', WHERE WHAT IT READS IS OF BULK AT MOST 1048576: true; the input reads as it did. -/
def lmutexNoneUptoRow : OpenClaim := { program := "ytmohpjkbhpgidaa", sum := "57e4258f34c1b475c37ddf1adc65b644377183f15098a28b3a8a609971ef92ed", func := "latchkey/latchkeylaw08.LmutexNone", spec := "lmutexNone", inPlace := ["slices.overlaps[int]"], unfollowed := true, recurses := true, plainKeys := false, apart := false, narrowed := true }
def LmutexNoneUptoSaid : Prop := lmutexNoneUptoRow.holds Try.pinned (OpenSpec.upto lmutexNoneSpec)

/-- 'latchkeylaw09.LgroupOnces', WHERE WHAT IT READS IS OF BULK AT MOST 1048576: true; the input reads as it did. -/
def lgroupOncesUptoRow : OpenClaim := { program := "ytmohpjkbhpgidaa", sum := "57e4258f34c1b475c37ddf1adc65b644377183f15098a28b3a8a609971ef92ed", func := "latchkey/latchkeylaw09.LgroupOnces", spec := "lgroupOnces", plainKeys := false, apart := false, narrowed := true }
def LgroupOncesUptoSaid : Prop := lgroupOncesUptoRow.holds Try.pinned (OpenSpec.upto lgroupOncesSpec)

/-- 'latchkeylaw09.LgroupAlone', WHERE WHAT IT READS IS OF BULK AT MOST 1048576: true; the input reads as it did. -/
def lgroupAloneUptoRow : OpenClaim := { program := "ytmohpjkbhpgidaa", sum := "57e4258f34c1b475c37ddf1adc65b644377183f15098a28b3a8a609971ef92ed", func := "latchkey/latchkeylaw09.LgroupAlone", spec := "lgroupAlone", plainKeys := false, apart := false, narrowed := true }
def LgroupAloneUptoSaid : Prop := lgroupAloneUptoRow.holds Try.pinned (OpenSpec.upto lgroupAloneSpec)

/-- 'latchkeylaw09.LgroupPlays', WHERE WHAT IT READS IS OF BULK AT MOST 1048576: true; the input reads as it did. -/
def lgroupPlaysUptoRow : OpenClaim := { program := "ytmohpjkbhpgidaa", sum := "57e4258f34c1b475c37ddf1adc65b644377183f15098a28b3a8a609971ef92ed", func := "latchkey/latchkeylaw09.LgroupPlays", spec := "lgroupPlays", plainKeys := false, apart := false, narrowed := true }
def LgroupPlaysUptoSaid : Prop := lgroupPlaysUptoRow.holds Try.pinned (OpenSpec.upto lgroupPlaysSpec)

/-- 'latchkeylaw09.LgroupZero', WHERE WHAT IT READS IS OF BULK AT MOST 1048576: true; the input reads as it did. -/
def lgroupZeroUptoRow : OpenClaim := { program := "ytmohpjkbhpgidaa", sum := "57e4258f34c1b475c37ddf1adc65b644377183f15098a28b3a8a609971ef92ed", func := "latchkey/latchkeylaw09.LgroupZero", spec := "lgroupZero", plainKeys := false, apart := false, narrowed := true }
def LgroupZeroUptoSaid : Prop := lgroupZeroUptoRow.holds Try.pinned (OpenSpec.upto lgroupZeroSpec)

/-- 'latchkeylaw09.LgroupNone', WHERE WHAT IT READS IS OF BULK AT MOST 1048576: true; the input reads as it did. -/
def lgroupNoneUptoRow : OpenClaim := { program := "ytmohpjkbhpgidaa", sum := "57e4258f34c1b475c37ddf1adc65b644377183f15098a28b3a8a609971ef92ed", func := "latchkey/latchkeylaw09.LgroupNone", spec := "lgroupNone", plainKeys := false, apart := false, narrowed := true }
def LgroupNoneUptoSaid : Prop := lgroupNoneUptoRow.holds Try.pinned (OpenSpec.upto lgroupNoneSpec)

/-- 'latchkeylaw10.SchedRuns', WHERE WHAT IT READS IS OF BULK AT MOST 1048576: true; the input reads as it did. -/
def schedRunsUptoRow : OpenClaim := { program := "ytmohpjkbhpgidaa", sum := "57e4258f34c1b475c37ddf1adc65b644377183f15098a28b3a8a609971ef92ed", func := "latchkey/latchkeylaw10.SchedRuns", spec := "schedRuns", unfollowed := true, recurses := true, plainKeys := false, apart := false, narrowed := true }
def SchedRunsUptoSaid : Prop := schedRunsUptoRow.holds Try.pinned (OpenSpec.upto schedRunsSpec)

/-- 'latchkeylaw10.SchedExclusive', WHERE WHAT IT READS IS OF BULK AT MOST 1048576: true; the input reads as it did. -/
def schedExclusiveUptoRow : OpenClaim := { program := "ytmohpjkbhpgidaa", sum := "57e4258f34c1b475c37ddf1adc65b644377183f15098a28b3a8a609971ef92ed", func := "latchkey/latchkeylaw10.SchedExclusive", spec := "schedExclusive", unfollowed := true, recurses := true, plainKeys := false, apart := false, narrowed := true }
def SchedExclusiveUptoSaid : Prop := schedExclusiveUptoRow.holds Try.pinned (OpenSpec.upto schedExclusiveSpec)

/-- 'latchkeylaw10.SchedOnce', WHERE WHAT IT READS IS OF BULK AT MOST 1048576: true; the input reads as it did. -/
def schedOnceUptoRow : OpenClaim := { program := "ytmohpjkbhpgidaa", sum := "57e4258f34c1b475c37ddf1adc65b644377183f15098a28b3a8a609971ef92ed", func := "latchkey/latchkeylaw10.SchedOnce", spec := "schedOnce", unfollowed := true, recurses := true, plainKeys := false, apart := false, narrowed := true }
def SchedOnceUptoSaid : Prop := schedOnceUptoRow.holds Try.pinned (OpenSpec.upto schedOnceSpec)

/-- 'latchkeylaw10.SchedWaits', WHERE WHAT IT READS IS OF BULK AT MOST 1048576: true; the input reads as it did. -/
def schedWaitsUptoRow : OpenClaim := { program := "ytmohpjkbhpgidaa", sum := "57e4258f34c1b475c37ddf1adc65b644377183f15098a28b3a8a609971ef92ed", func := "latchkey/latchkeylaw10.SchedWaits", spec := "schedWaits", unfollowed := true, recurses := true, plainKeys := false, apart := false, narrowed := true }
def SchedWaitsUptoSaid : Prop := schedWaitsUptoRow.holds Try.pinned (OpenSpec.upto schedWaitsSpec)

/-- 'latchkeylaw10.SchedSteps', WHERE WHAT IT READS IS OF BULK AT MOST 1048576: true; the input reads as it did. -/
def schedStepsUptoRow : OpenClaim := { program := "ytmohpjkbhpgidaa", sum := "57e4258f34c1b475c37ddf1adc65b644377183f15098a28b3a8a609971ef92ed", func := "latchkey/latchkeylaw10.SchedSteps", spec := "schedSteps", unfollowed := true, recurses := true, plainKeys := false, apart := false, narrowed := true }
def SchedStepsUptoSaid : Prop := schedStepsUptoRow.holds Try.pinned (OpenSpec.upto schedStepsSpec)

/-- 'latchkeylaw10.SchedNone', WHERE WHAT IT READS IS OF BULK AT MOST 1048576: true; the input reads as it did. -/
def schedNoneUptoRow : OpenClaim := { program := "ytmohpjkbhpgidaa", sum := "57e4258f34c1b475c37ddf1adc65b644377183f15098a28b3a8a609971ef92ed", func := "latchkey/latchkeylaw10.SchedNone", spec := "schedNone", unfollowed := true, recurses := true, plainKeys := false, apart := false, narrowed := true }
def SchedNoneUptoSaid : Prop := schedNoneUptoRow.holds Try.pinned (OpenSpec.upto schedNoneSpec)

end Rows
end Go.Proofs.Ytmohpjkbhpgidaa
