/-
  No cell of these rows narrows 'for every input' (looked for: loops, veiled, ifaces, maps, wideKeys, modest, calm, conditions, laid).
  DERIVED. THE GIVEN ROWS OF THIS SEAT. 13 by the template 'for every input the law returns true; each argument reads behind the call as it read before'; 0 by the template 'total and deterministic' (their statements: YtjojibgihoebaaaTotals.lean).
  GIVEN WITH THE SEED: the statements are not yours to turn. If you find one false, say at which input.
  Laid BY PROGRAM, IN A SANDBOX (cutbox-rows.mjs): the forced cells as the released guide's own fill.sh prints them over the translation 84b4b7e66086f377… (all of the seat's roots in one cut). By AI agents, Wed Nov 11 2026. No macro, syntax, notation, axiom, sorry.
-/
import Derived.Test.YtjojibgihoebaaaChecked
import GoSem.Claim
import GoSem.ClaimJoined
import GoSem.ClaimMapViews
import Derived.JoinedTies
import Derived.KernelRfl
namespace Go.Proofs.Ytjojibgihoebaaa
/- THE CELL 'sum', in the pinned program and in every row, IS THE sha256 OF THE DUMP (.gsa) THAT YtjojibgihoebaaaProg.lean LOADS. Nothing in Lean hashes anything: it is a label: what it is worth is what the hold of that sum in a sandbox is worth. -/
noncomputable def Try.pinned : Pinned := { name := "ytjojibgihoebaaa", sum := "84b4b7e66086f3772163e04c7980ae58a46a0e2ec79b98dfb0f7cd46ef9dce91", checked := Try.checked }
namespace Rows
def none {H : Type} : Left H := { results := [], args := [] }

/-- 'latchkeylaw01.CodecWrites': WHATEVER THE INPUT: true; the input reads as it did. -/
def codecWritesSpec : ChangeSpec := { name := "codecWrites", fn := fun _ => fun
  | [d] => { results := [.lit (.bool true)], args := [d] }
  | _ => none }
def codecWritesRow : OpenClaim := { program := "ytjojibgihoebaaa", sum := "84b4b7e66086f3772163e04c7980ae58a46a0e2ec79b98dfb0f7cd46ef9dce91", func := "latchkey/latchkeylaw01.CodecWrites", spec := "codecWrites", apart := false }
def CodecWritesSaid : Prop := codecWritesRow.holds Try.pinned (OpenSpec.ofChange codecWritesSpec)

/-- ITS FALSE NEIGHBOUR: 'it returns false'. Refute it at one input. -/
def codecWritesWrong : ChangeSpec := { name := "codecWrites", fn := fun _ => fun
  | [d] => { results := [.lit (.bool false)], args := [d] }
  | _ => none }
def CodecWritesWrongFalsely : Prop := codecWritesRow.holds Try.pinned (OpenSpec.ofChange codecWritesWrong)

/-- 'latchkeylaw01.CodecOnly': WHATEVER THE INPUT: true; the input reads as it did. -/
def codecOnlySpec : ChangeSpec := { name := "codecOnly", fn := fun _ => fun
  | [d1, d2] => { results := [.lit (.bool true)], args := [d1, d2] }
  | _ => none }
def codecOnlyRow : OpenClaim := { program := "ytjojibgihoebaaa", sum := "84b4b7e66086f3772163e04c7980ae58a46a0e2ec79b98dfb0f7cd46ef9dce91", func := "latchkey/latchkeylaw01.CodecOnly", spec := "codecOnly", apart := false }
def CodecOnlySaid : Prop := codecOnlyRow.holds Try.pinned (OpenSpec.ofChange codecOnlySpec)

/-- ITS FALSE NEIGHBOUR: 'it returns false'. Refute it at one input. -/
def codecOnlyWrong : ChangeSpec := { name := "codecOnly", fn := fun _ => fun
  | [d1, d2] => { results := [.lit (.bool false)], args := [d1, d2] }
  | _ => none }
def CodecOnlyWrongFalsely : Prop := codecOnlyRow.holds Try.pinned (OpenSpec.ofChange codecOnlyWrong)

/-- 'latchkeylaw01.CodecReads': WHATEVER THE INPUT: true; the input reads as it did. -/
def codecReadsSpec : ChangeSpec := { name := "codecReads", fn := fun _ => fun
  | [d1, d2] => { results := [.lit (.bool true)], args := [d1, d2] }
  | _ => none }
def codecReadsRow : OpenClaim := { program := "ytjojibgihoebaaa", sum := "84b4b7e66086f3772163e04c7980ae58a46a0e2ec79b98dfb0f7cd46ef9dce91", func := "latchkey/latchkeylaw01.CodecReads", spec := "codecReads", apart := false }
def CodecReadsSaid : Prop := codecReadsRow.holds Try.pinned (OpenSpec.ofChange codecReadsSpec)

/-- ITS FALSE NEIGHBOUR: 'it returns false'. Refute it at one input. -/
def codecReadsWrong : ChangeSpec := { name := "codecReads", fn := fun _ => fun
  | [d1, d2] => { results := [.lit (.bool false)], args := [d1, d2] }
  | _ => none }
def CodecReadsWrongFalsely : Prop := codecReadsRow.holds Try.pinned (OpenSpec.ofChange codecReadsWrong)

/-- 'latchkeylaw01.CodecBack': WHATEVER THE INPUT: true; the input reads as it did. -/
def codecBackSpec : ChangeSpec := { name := "codecBack", fn := fun _ => fun
  | [d] => { results := [.lit (.bool true)], args := [d] }
  | _ => none }
def codecBackRow : OpenClaim := { program := "ytjojibgihoebaaa", sum := "84b4b7e66086f3772163e04c7980ae58a46a0e2ec79b98dfb0f7cd46ef9dce91", func := "latchkey/latchkeylaw01.CodecBack", spec := "codecBack", apart := false }
def CodecBackSaid : Prop := codecBackRow.holds Try.pinned (OpenSpec.ofChange codecBackSpec)

/-- ITS FALSE NEIGHBOUR: 'it returns false'. Refute it at one input. -/
def codecBackWrong : ChangeSpec := { name := "codecBack", fn := fun _ => fun
  | [d] => { results := [.lit (.bool false)], args := [d] }
  | _ => none }
def CodecBackWrongFalsely : Prop := codecBackRow.holds Try.pinned (OpenSpec.ofChange codecBackWrong)

/-- 'latchkeylaw01.CodecNone': WHATEVER THE INPUT: true; the input reads as it did. -/
def codecNoneSpec : ChangeSpec := { name := "codecNone", fn := fun _ => fun
  | [d] => { results := [.lit (.bool true)], args := [d] }
  | _ => none }
def codecNoneRow : OpenClaim := { program := "ytjojibgihoebaaa", sum := "84b4b7e66086f3772163e04c7980ae58a46a0e2ec79b98dfb0f7cd46ef9dce91", func := "latchkey/latchkeylaw01.CodecNone", spec := "codecNone", apart := false }
def CodecNoneSaid : Prop := codecNoneRow.holds Try.pinned (OpenSpec.ofChange codecNoneSpec)

/-- ITS FALSE NEIGHBOUR: 'it returns false'. Refute it at one input. -/
def codecNoneWrong : ChangeSpec := { name := "codecNone", fn := fun _ => fun
  | [d] => { results := [.lit (.bool false)], args := [d] }
  | _ => none }
def CodecNoneWrongFalsely : Prop := codecNoneRow.holds Try.pinned (OpenSpec.ofChange codecNoneWrong)

/-- 'latchkeylaw03.CmdsEncodes': WHATEVER THE INPUT: true; the input reads as it did. -/
def cmdsEncodesSpec : ChangeSpec := { name := "cmdsEncodes", fn := fun _ => fun
  | [d] => { results := [.lit (.bool true)], args := [d] }
  | _ => none }
def cmdsEncodesRow : OpenClaim := { program := "ytjojibgihoebaaa", sum := "84b4b7e66086f3772163e04c7980ae58a46a0e2ec79b98dfb0f7cd46ef9dce91", func := "latchkey/latchkeylaw03.CmdsEncodes", spec := "cmdsEncodes", apart := false }
def CmdsEncodesSaid : Prop := cmdsEncodesRow.holds Try.pinned (OpenSpec.ofChange cmdsEncodesSpec)

/-- ITS FALSE NEIGHBOUR: 'it returns false'. Refute it at one input. -/
def cmdsEncodesWrong : ChangeSpec := { name := "cmdsEncodes", fn := fun _ => fun
  | [d] => { results := [.lit (.bool false)], args := [d] }
  | _ => none }
def CmdsEncodesWrongFalsely : Prop := cmdsEncodesRow.holds Try.pinned (OpenSpec.ofChange cmdsEncodesWrong)

/-- 'latchkeylaw03.CmdsOnly': WHATEVER THE INPUT: true; the input reads as it did. -/
def cmdsOnlySpec : ChangeSpec := { name := "cmdsOnly", fn := fun _ => fun
  | [d1, d2] => { results := [.lit (.bool true)], args := [d1, d2] }
  | _ => none }
def cmdsOnlyRow : OpenClaim := { program := "ytjojibgihoebaaa", sum := "84b4b7e66086f3772163e04c7980ae58a46a0e2ec79b98dfb0f7cd46ef9dce91", func := "latchkey/latchkeylaw03.CmdsOnly", spec := "cmdsOnly", apart := false }
def CmdsOnlySaid : Prop := cmdsOnlyRow.holds Try.pinned (OpenSpec.ofChange cmdsOnlySpec)

/-- ITS FALSE NEIGHBOUR: 'it returns false'. Refute it at one input. -/
def cmdsOnlyWrong : ChangeSpec := { name := "cmdsOnly", fn := fun _ => fun
  | [d1, d2] => { results := [.lit (.bool false)], args := [d1, d2] }
  | _ => none }
def CmdsOnlyWrongFalsely : Prop := cmdsOnlyRow.holds Try.pinned (OpenSpec.ofChange cmdsOnlyWrong)

/-- 'latchkeylaw03.CmdsDecodes': WHATEVER THE INPUT: true; the input reads as it did. -/
def cmdsDecodesSpec : ChangeSpec := { name := "cmdsDecodes", fn := fun _ => fun
  | [d] => { results := [.lit (.bool true)], args := [d] }
  | _ => none }
def cmdsDecodesRow : OpenClaim := { program := "ytjojibgihoebaaa", sum := "84b4b7e66086f3772163e04c7980ae58a46a0e2ec79b98dfb0f7cd46ef9dce91", func := "latchkey/latchkeylaw03.CmdsDecodes", spec := "cmdsDecodes", apart := false }
def CmdsDecodesSaid : Prop := cmdsDecodesRow.holds Try.pinned (OpenSpec.ofChange cmdsDecodesSpec)

/-- ITS FALSE NEIGHBOUR: 'it returns false'. Refute it at one input. -/
def cmdsDecodesWrong : ChangeSpec := { name := "cmdsDecodes", fn := fun _ => fun
  | [d] => { results := [.lit (.bool false)], args := [d] }
  | _ => none }
def CmdsDecodesWrongFalsely : Prop := cmdsDecodesRow.holds Try.pinned (OpenSpec.ofChange cmdsDecodesWrong)

/-- 'latchkeylaw03.CmdsBack': WHATEVER THE INPUT: true; the input reads as it did. -/
def cmdsBackSpec : ChangeSpec := { name := "cmdsBack", fn := fun _ => fun
  | [d1, d2] => { results := [.lit (.bool true)], args := [d1, d2] }
  | _ => none }
def cmdsBackRow : OpenClaim := { program := "ytjojibgihoebaaa", sum := "84b4b7e66086f3772163e04c7980ae58a46a0e2ec79b98dfb0f7cd46ef9dce91", func := "latchkey/latchkeylaw03.CmdsBack", spec := "cmdsBack", apart := false }
def CmdsBackSaid : Prop := cmdsBackRow.holds Try.pinned (OpenSpec.ofChange cmdsBackSpec)

/-- ITS FALSE NEIGHBOUR: 'it returns false'. Refute it at one input. -/
def cmdsBackWrong : ChangeSpec := { name := "cmdsBack", fn := fun _ => fun
  | [d1, d2] => { results := [.lit (.bool false)], args := [d1, d2] }
  | _ => none }
def CmdsBackWrongFalsely : Prop := cmdsBackRow.holds Try.pinned (OpenSpec.ofChange cmdsBackWrong)

/-- 'latchkeylaw04.MsgsEncodes': WHATEVER THE INPUT: true; the input reads as it did. -/
def msgsEncodesSpec : ChangeSpec := { name := "msgsEncodes", fn := fun _ => fun
  | [d] => { results := [.lit (.bool true)], args := [d] }
  | _ => none }
def msgsEncodesRow : OpenClaim := { program := "ytjojibgihoebaaa", sum := "84b4b7e66086f3772163e04c7980ae58a46a0e2ec79b98dfb0f7cd46ef9dce91", func := "latchkey/latchkeylaw04.MsgsEncodes", spec := "msgsEncodes", unfollowed := true, recurses := true, apart := false }
def MsgsEncodesSaid : Prop := msgsEncodesRow.holds Try.pinned (OpenSpec.ofChange msgsEncodesSpec)

/-- ITS FALSE NEIGHBOUR: 'it returns false'. Refute it at one input. -/
def msgsEncodesWrong : ChangeSpec := { name := "msgsEncodes", fn := fun _ => fun
  | [d] => { results := [.lit (.bool false)], args := [d] }
  | _ => none }
def MsgsEncodesWrongFalsely : Prop := msgsEncodesRow.holds Try.pinned (OpenSpec.ofChange msgsEncodesWrong)

/-- 'latchkeylaw04.MsgsDecodes': WHATEVER THE INPUT: true; the input reads as it did. -/
def msgsDecodesSpec : ChangeSpec := { name := "msgsDecodes", fn := fun _ => fun
  | [d] => { results := [.lit (.bool true)], args := [d] }
  | _ => none }
def msgsDecodesRow : OpenClaim := { program := "ytjojibgihoebaaa", sum := "84b4b7e66086f3772163e04c7980ae58a46a0e2ec79b98dfb0f7cd46ef9dce91", func := "latchkey/latchkeylaw04.MsgsDecodes", spec := "msgsDecodes", unfollowed := true, recurses := true, apart := false }
def MsgsDecodesSaid : Prop := msgsDecodesRow.holds Try.pinned (OpenSpec.ofChange msgsDecodesSpec)

/-- ITS FALSE NEIGHBOUR: 'it returns false'. Refute it at one input. -/
def msgsDecodesWrong : ChangeSpec := { name := "msgsDecodes", fn := fun _ => fun
  | [d] => { results := [.lit (.bool false)], args := [d] }
  | _ => none }
def MsgsDecodesWrongFalsely : Prop := msgsDecodesRow.holds Try.pinned (OpenSpec.ofChange msgsDecodesWrong)

/-- 'latchkeylaw04.MsgsBack': WHATEVER THE INPUT: true; the input reads as it did. -/
def msgsBackSpec : ChangeSpec := { name := "msgsBack", fn := fun _ => fun
  | [d1, d2] => { results := [.lit (.bool true)], args := [d1, d2] }
  | _ => none }
def msgsBackRow : OpenClaim := { program := "ytjojibgihoebaaa", sum := "84b4b7e66086f3772163e04c7980ae58a46a0e2ec79b98dfb0f7cd46ef9dce91", func := "latchkey/latchkeylaw04.MsgsBack", spec := "msgsBack", unfollowed := true, recurses := true, apart := false }
def MsgsBackSaid : Prop := msgsBackRow.holds Try.pinned (OpenSpec.ofChange msgsBackSpec)

/-- ITS FALSE NEIGHBOUR: 'it returns false'. Refute it at one input. -/
def msgsBackWrong : ChangeSpec := { name := "msgsBack", fn := fun _ => fun
  | [d1, d2] => { results := [.lit (.bool false)], args := [d1, d2] }
  | _ => none }
def MsgsBackWrongFalsely : Prop := msgsBackRow.holds Try.pinned (OpenSpec.ofChange msgsBackWrong)

/-- 'latchkeylaw04.MsgsSame': WHATEVER THE INPUT: true; the input reads as it did. -/
def msgsSameSpec : ChangeSpec := { name := "msgsSame", fn := fun _ => fun
  | [d1, d2] => { results := [.lit (.bool true)], args := [d1, d2] }
  | _ => none }
def msgsSameRow : OpenClaim := { program := "ytjojibgihoebaaa", sum := "84b4b7e66086f3772163e04c7980ae58a46a0e2ec79b98dfb0f7cd46ef9dce91", func := "latchkey/latchkeylaw04.MsgsSame", spec := "msgsSame", unfollowed := true, recurses := true, apart := false }
def MsgsSameSaid : Prop := msgsSameRow.holds Try.pinned (OpenSpec.ofChange msgsSameSpec)

/-- ITS FALSE NEIGHBOUR: 'it returns false'. Refute it at one input. -/
def msgsSameWrong : ChangeSpec := { name := "msgsSame", fn := fun _ => fun
  | [d1, d2] => { results := [.lit (.bool false)], args := [d1, d2] }
  | _ => none }
def MsgsSameWrongFalsely : Prop := msgsSameRow.holds Try.pinned (OpenSpec.ofChange msgsSameWrong)

/- THE SECOND FORM. 'bulk': how many values and letters a reading holds, each counted each time it is reached (what is shared counts as often as it is met; a slice's spare places count too). A statement '..UptoSaid' is the law's where the arguments, and the package variables that the reading takes, are together of bulk at most 1048576: NARROWER than '..Said'. Prove '..Said' where nothing that the law and all that it calls make is longer than what came in: it says more and counts as full. Else prove '..UptoSaid'. A law counts once. -/
mutual
def uptoBulk {H : Type} : DataW H → Nat
  | .lit (.string bytes) => bytes.length + 1
  | .lit _ => 1
  | .nil => 1
  | .ptr d => uptoBulk d + 1
  | .slice elems spare => uptoBulkAll elems + uptoBulkAll spare + 1
  | .agg parts => uptoBulkAll parts + 1
  | .iface _ d => uptoBulk d + 1
  | .map entries => uptoBulkEntries entries + 1
  | .held _ => 1
def uptoBulkAll {H : Type} : List (DataW H) → Nat
  | [] => 0
  | d :: r => uptoBulk d + uptoBulkAll r
def uptoBulkEntries {H : Type} : List (Lit × DataW H) → Nat
  | [] => 0
  | x :: r => uptoBulkEntry x + uptoBulkEntries r
def uptoBulkEntry {H : Type} : Lit × DataW H → Nat
  | (.string bytes, d) => bytes.length + uptoBulk d + 1
  | (_, d) => uptoBulk d + 1
 end
def uptoSmall : (H : Type) → List (DataW H) → Bool := fun _ ds => decide (uptoBulkAll ds ≤ 1048576)
def OpenSpec.upto (s : _root_.Go.ChangeSpec) : _root_.Go.OpenSpec := { _root_.Go.OpenSpec.ofChange s with cond := some uptoSmall }

/-- 'latchkeylaw01.CodecWrites', WHERE WHAT IT READS IS OF BULK AT MOST 1048576: true; the input reads as it did. -/
def codecWritesUptoRow : OpenClaim := { program := "ytjojibgihoebaaa", sum := "84b4b7e66086f3772163e04c7980ae58a46a0e2ec79b98dfb0f7cd46ef9dce91", func := "latchkey/latchkeylaw01.CodecWrites", spec := "codecWrites", apart := false, narrowed := true }
def CodecWritesUptoSaid : Prop := codecWritesUptoRow.holds Try.pinned (OpenSpec.upto codecWritesSpec)

/-- 'latchkeylaw01.CodecOnly', WHERE WHAT IT READS IS OF BULK AT MOST 1048576: true; the input reads as it did. -/
def codecOnlyUptoRow : OpenClaim := { program := "ytjojibgihoebaaa", sum := "84b4b7e66086f3772163e04c7980ae58a46a0e2ec79b98dfb0f7cd46ef9dce91", func := "latchkey/latchkeylaw01.CodecOnly", spec := "codecOnly", apart := false, narrowed := true }
def CodecOnlyUptoSaid : Prop := codecOnlyUptoRow.holds Try.pinned (OpenSpec.upto codecOnlySpec)

/-- 'latchkeylaw01.CodecReads', WHERE WHAT IT READS IS OF BULK AT MOST 1048576: true; the input reads as it did. -/
def codecReadsUptoRow : OpenClaim := { program := "ytjojibgihoebaaa", sum := "84b4b7e66086f3772163e04c7980ae58a46a0e2ec79b98dfb0f7cd46ef9dce91", func := "latchkey/latchkeylaw01.CodecReads", spec := "codecReads", apart := false, narrowed := true }
def CodecReadsUptoSaid : Prop := codecReadsUptoRow.holds Try.pinned (OpenSpec.upto codecReadsSpec)

/-- 'latchkeylaw01.CodecBack', WHERE WHAT IT READS IS OF BULK AT MOST 1048576: true; the input reads as it did. -/
def codecBackUptoRow : OpenClaim := { program := "ytjojibgihoebaaa", sum := "84b4b7e66086f3772163e04c7980ae58a46a0e2ec79b98dfb0f7cd46ef9dce91", func := "latchkey/latchkeylaw01.CodecBack", spec := "codecBack", apart := false, narrowed := true }
def CodecBackUptoSaid : Prop := codecBackUptoRow.holds Try.pinned (OpenSpec.upto codecBackSpec)

/-- 'latchkeylaw01.CodecNone', WHERE WHAT IT READS IS OF BULK AT MOST 1048576: true; the input reads as it did. -/
def codecNoneUptoRow : OpenClaim := { program := "ytjojibgihoebaaa", sum := "84b4b7e66086f3772163e04c7980ae58a46a0e2ec79b98dfb0f7cd46ef9dce91", func := "latchkey/latchkeylaw01.CodecNone", spec := "codecNone", apart := false, narrowed := true }
def CodecNoneUptoSaid : Prop := codecNoneUptoRow.holds Try.pinned (OpenSpec.upto codecNoneSpec)

/-- 'latchkeylaw03.CmdsEncodes', WHERE WHAT IT READS IS OF BULK AT MOST 1048576: true; the input reads as it did. -/
def cmdsEncodesUptoRow : OpenClaim := { program := "ytjojibgihoebaaa", sum := "84b4b7e66086f3772163e04c7980ae58a46a0e2ec79b98dfb0f7cd46ef9dce91", func := "latchkey/latchkeylaw03.CmdsEncodes", spec := "cmdsEncodes", apart := false, narrowed := true }
def CmdsEncodesUptoSaid : Prop := cmdsEncodesUptoRow.holds Try.pinned (OpenSpec.upto cmdsEncodesSpec)

/-- 'latchkeylaw03.CmdsOnly', WHERE WHAT IT READS IS OF BULK AT MOST 1048576: true; the input reads as it did. -/
def cmdsOnlyUptoRow : OpenClaim := { program := "ytjojibgihoebaaa", sum := "84b4b7e66086f3772163e04c7980ae58a46a0e2ec79b98dfb0f7cd46ef9dce91", func := "latchkey/latchkeylaw03.CmdsOnly", spec := "cmdsOnly", apart := false, narrowed := true }
def CmdsOnlyUptoSaid : Prop := cmdsOnlyUptoRow.holds Try.pinned (OpenSpec.upto cmdsOnlySpec)

/-- 'latchkeylaw03.CmdsDecodes', WHERE WHAT IT READS IS OF BULK AT MOST 1048576: true; the input reads as it did. -/
def cmdsDecodesUptoRow : OpenClaim := { program := "ytjojibgihoebaaa", sum := "84b4b7e66086f3772163e04c7980ae58a46a0e2ec79b98dfb0f7cd46ef9dce91", func := "latchkey/latchkeylaw03.CmdsDecodes", spec := "cmdsDecodes", apart := false, narrowed := true }
def CmdsDecodesUptoSaid : Prop := cmdsDecodesUptoRow.holds Try.pinned (OpenSpec.upto cmdsDecodesSpec)

/-- 'latchkeylaw03.CmdsBack', WHERE WHAT IT READS IS OF BULK AT MOST 1048576: true; the input reads as it did. -/
def cmdsBackUptoRow : OpenClaim := { program := "ytjojibgihoebaaa", sum := "84b4b7e66086f3772163e04c7980ae58a46a0e2ec79b98dfb0f7cd46ef9dce91", func := "latchkey/latchkeylaw03.CmdsBack", spec := "cmdsBack", apart := false, narrowed := true }
def CmdsBackUptoSaid : Prop := cmdsBackUptoRow.holds Try.pinned (OpenSpec.upto cmdsBackSpec)

/-- 'latchkeylaw04.MsgsEncodes', WHERE WHAT IT READS IS OF BULK AT MOST 1048576: true; the input reads as it did. -/
def msgsEncodesUptoRow : OpenClaim := { program := "ytjojibgihoebaaa", sum := "84b4b7e66086f3772163e04c7980ae58a46a0e2ec79b98dfb0f7cd46ef9dce91", func := "latchkey/latchkeylaw04.MsgsEncodes", spec := "msgsEncodes", unfollowed := true, recurses := true, apart := false, narrowed := true }
def MsgsEncodesUptoSaid : Prop := msgsEncodesUptoRow.holds Try.pinned (OpenSpec.upto msgsEncodesSpec)

/-- 'latchkeylaw04.MsgsDecodes', WHERE WHAT IT READS IS OF BULK AT MOST 1048576: true; the input reads as it did. -/
def msgsDecodesUptoRow : OpenClaim := { program := "ytjojibgihoebaaa", sum := "84b4b7e66086f3772163e04c7980ae58a46a0e2ec79b98dfb0f7cd46ef9dce91", func := "latchkey/latchkeylaw04.MsgsDecodes", spec := "msgsDecodes", unfollowed := true, recurses := true, apart := false, narrowed := true }
def MsgsDecodesUptoSaid : Prop := msgsDecodesUptoRow.holds Try.pinned (OpenSpec.upto msgsDecodesSpec)

/-- 'latchkeylaw04.MsgsBack', WHERE WHAT IT READS IS OF BULK AT MOST 1048576: true; the input reads as it did. -/
def msgsBackUptoRow : OpenClaim := { program := "ytjojibgihoebaaa", sum := "84b4b7e66086f3772163e04c7980ae58a46a0e2ec79b98dfb0f7cd46ef9dce91", func := "latchkey/latchkeylaw04.MsgsBack", spec := "msgsBack", unfollowed := true, recurses := true, apart := false, narrowed := true }
def MsgsBackUptoSaid : Prop := msgsBackUptoRow.holds Try.pinned (OpenSpec.upto msgsBackSpec)

/-- 'latchkeylaw04.MsgsSame', WHERE WHAT IT READS IS OF BULK AT MOST 1048576: true; the input reads as it did. -/
def msgsSameUptoRow : OpenClaim := { program := "ytjojibgihoebaaa", sum := "84b4b7e66086f3772163e04c7980ae58a46a0e2ec79b98dfb0f7cd46ef9dce91", func := "latchkey/latchkeylaw04.MsgsSame", spec := "msgsSame", unfollowed := true, recurses := true, apart := false, narrowed := true }
def MsgsSameUptoSaid : Prop := msgsSameUptoRow.holds Try.pinned (OpenSpec.upto msgsSameSpec)

end Rows
end Go.Proofs.Ytjojibgihoebaaa
