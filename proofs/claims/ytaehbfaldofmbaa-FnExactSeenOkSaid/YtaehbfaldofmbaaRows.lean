/-
  No cell of these rows narrows 'for every input' (looked for: loops, veiled, ifaces, maps, wideKeys, modest, calm, conditions, laid).
  DERIVED. THE GIVEN ROWS OF THIS SEAT. 21 by the template 'for every input the law returns true; each argument reads behind the call as it read before'; 0 by the template 'total and deterministic' (their statements: YtaehbfaldofmbaaTotals.lean).
  GIVEN WITH THE SEED: the statements are not yours to turn. If you find one false, say at which input.
  Laid BY PROGRAM, IN A SANDBOX (cutbox-rows.mjs): the forced cells as the released guide's own fill.sh prints them over the translation 4f5f712d1c8dc92d… (all of the seat's roots in one cut). By AI agents, Wed Nov 11 2026. No macro, syntax, notation, axiom, sorry.
-/
import Derived.Test.YtaehbfaldofmbaaChecked
import GoSem.Claim
import GoSem.ClaimJoined
import GoSem.ClaimMapViews
import Derived.JoinedTies
import Derived.KernelRfl
namespace Go.Proofs.Ytaehbfaldofmbaa
/- THE CELL 'sum', in the pinned program and in every row, IS THE sha256 OF THE DUMP (.gsa) THAT YtaehbfaldofmbaaProg.lean LOADS. Nothing in Lean hashes anything: it is a label: what it is worth is what the hold of that sum in a sandbox is worth. -/
noncomputable def Try.pinned : Pinned := { name := "ytaehbfaldofmbaa", sum := "4f5f712d1c8dc92dbf95ee067d1a960a1bf5be0bcb8ef16d41dafc5435113a5e", checked := Try.checked }
namespace Rows
def none {H : Type} : Left H := { results := [], args := [] }

/-- 'laws.FnExactSeenLess': WHATEVER THE INPUT: true; the input reads as it did. -/
def fnExactSeenLessSpec : ChangeSpec := { name := "fnExactSeenLess", fn := fun _ => fun
  | [d1, d2] => { results := [.lit (.bool true)], args := [d1, d2] }
  | _ => none }
def fnExactSeenLessRow : OpenClaim := { program := "ytaehbfaldofmbaa", sum := "4f5f712d1c8dc92dbf95ee067d1a960a1bf5be0bcb8ef16d41dafc5435113a5e", func := "loop.example/fathomline/laws.FnExactSeenLess", spec := "fnExactSeenLess", apart := false }
def FnExactSeenLessSaid : Prop := fnExactSeenLessRow.holds Try.pinned (OpenSpec.ofChange fnExactSeenLessSpec)

/-- ITS FALSE NEIGHBOUR: 'it returns false'. Refute it at one input. -/
def fnExactSeenLessWrong : ChangeSpec := { name := "fnExactSeenLess", fn := fun _ => fun
  | [d1, d2] => { results := [.lit (.bool false)], args := [d1, d2] }
  | _ => none }
def FnExactSeenLessWrongFalsely : Prop := fnExactSeenLessRow.holds Try.pinned (OpenSpec.ofChange fnExactSeenLessWrong)

/-- 'laws.FnExactSeenIn': WHATEVER THE INPUT: true; the input reads as it did. -/
def fnExactSeenInSpec : ChangeSpec := { name := "fnExactSeenIn", fn := fun _ => fun
  | [d1, d2] => { results := [.lit (.bool true)], args := [d1, d2] }
  | _ => none }
def fnExactSeenInRow : OpenClaim := { program := "ytaehbfaldofmbaa", sum := "4f5f712d1c8dc92dbf95ee067d1a960a1bf5be0bcb8ef16d41dafc5435113a5e", func := "loop.example/fathomline/laws.FnExactSeenIn", spec := "fnExactSeenIn", unfollowed := true, recurses := true, apart := false }
def FnExactSeenInSaid : Prop := fnExactSeenInRow.holds Try.pinned (OpenSpec.ofChange fnExactSeenInSpec)

/-- ITS FALSE NEIGHBOUR: 'it returns false'. Refute it at one input. -/
def fnExactSeenInWrong : ChangeSpec := { name := "fnExactSeenIn", fn := fun _ => fun
  | [d1, d2] => { results := [.lit (.bool false)], args := [d1, d2] }
  | _ => none }
def FnExactSeenInWrongFalsely : Prop := fnExactSeenInRow.holds Try.pinned (OpenSpec.ofChange fnExactSeenInWrong)

/-- 'laws.FnExactProgOk': WHATEVER THE INPUT: true; the input reads as it did. -/
def fnExactProgOkSpec : ChangeSpec := { name := "fnExactProgOk", fn := fun _ => fun
  | [d] => { results := [.lit (.bool true)], args := [d] }
  | _ => none }
def fnExactProgOkRow : OpenClaim := { program := "ytaehbfaldofmbaa", sum := "4f5f712d1c8dc92dbf95ee067d1a960a1bf5be0bcb8ef16d41dafc5435113a5e", func := "loop.example/fathomline/laws.FnExactProgOk", spec := "fnExactProgOk", apart := false }
def FnExactProgOkSaid : Prop := fnExactProgOkRow.holds Try.pinned (OpenSpec.ofChange fnExactProgOkSpec)

/-- ITS FALSE NEIGHBOUR: 'it returns false'. Refute it at one input. -/
def fnExactProgOkWrong : ChangeSpec := { name := "fnExactProgOk", fn := fun _ => fun
  | [d] => { results := [.lit (.bool false)], args := [d] }
  | _ => none }
def FnExactProgOkWrongFalsely : Prop := fnExactProgOkRow.holds Try.pinned (OpenSpec.ofChange fnExactProgOkWrong)

/-- 'laws.FnProgLess': WHATEVER THE INPUT: true; the input reads as it did. -/
def fnProgLessSpec : ChangeSpec := { name := "fnProgLess", fn := fun _ => fun
  | [d] => { results := [.lit (.bool true)], args := [d] }
  | _ => none }
def fnProgLessRow : OpenClaim := { program := "ytaehbfaldofmbaa", sum := "4f5f712d1c8dc92dbf95ee067d1a960a1bf5be0bcb8ef16d41dafc5435113a5e", func := "loop.example/fathomline/laws.FnProgLess", spec := "fnProgLess", apart := false }
def FnProgLessSaid : Prop := fnProgLessRow.holds Try.pinned (OpenSpec.ofChange fnProgLessSpec)

/-- ITS FALSE NEIGHBOUR: 'it returns false'. Refute it at one input. -/
def fnProgLessWrong : ChangeSpec := { name := "fnProgLess", fn := fun _ => fun
  | [d] => { results := [.lit (.bool false)], args := [d] }
  | _ => none }
def FnProgLessWrongFalsely : Prop := fnProgLessRow.holds Try.pinned (OpenSpec.ofChange fnProgLessWrong)

/-- 'laws.FnExactWallGaps': WHATEVER THE INPUT: true; the input reads as it did. -/
def fnExactWallGapsSpec : ChangeSpec := { name := "fnExactWallGaps", fn := fun _ => fun
  | [d] => { results := [.lit (.bool true)], args := [d] }
  | _ => none }
def fnExactWallGapsRow : OpenClaim := { program := "ytaehbfaldofmbaa", sum := "4f5f712d1c8dc92dbf95ee067d1a960a1bf5be0bcb8ef16d41dafc5435113a5e", func := "loop.example/fathomline/laws.FnExactWallGaps", spec := "fnExactWallGaps", apart := false }
def FnExactWallGapsSaid : Prop := fnExactWallGapsRow.holds Try.pinned (OpenSpec.ofChange fnExactWallGapsSpec)

/-- ITS FALSE NEIGHBOUR: 'it returns false'. Refute it at one input. -/
def fnExactWallGapsWrong : ChangeSpec := { name := "fnExactWallGaps", fn := fun _ => fun
  | [d] => { results := [.lit (.bool false)], args := [d] }
  | _ => none }
def FnExactWallGapsWrongFalsely : Prop := fnExactWallGapsRow.holds Try.pinned (OpenSpec.ofChange fnExactWallGapsWrong)

/-- 'laws.FnExactProgReads': WHATEVER THE INPUT: true; the input reads as it did. -/
def fnExactProgReadsSpec : ChangeSpec := { name := "fnExactProgReads", fn := fun _ => fun
  | [d] => { results := [.lit (.bool true)], args := [d] }
  | _ => none }
def fnExactProgReadsRow : OpenClaim := { program := "ytaehbfaldofmbaa", sum := "4f5f712d1c8dc92dbf95ee067d1a960a1bf5be0bcb8ef16d41dafc5435113a5e", func := "loop.example/fathomline/laws.FnExactProgReads", spec := "fnExactProgReads", apart := false }
def FnExactProgReadsSaid : Prop := fnExactProgReadsRow.holds Try.pinned (OpenSpec.ofChange fnExactProgReadsSpec)

/-- ITS FALSE NEIGHBOUR: 'it returns false'. Refute it at one input. -/
def fnExactProgReadsWrong : ChangeSpec := { name := "fnExactProgReads", fn := fun _ => fun
  | [d] => { results := [.lit (.bool false)], args := [d] }
  | _ => none }
def FnExactProgReadsWrongFalsely : Prop := fnExactProgReadsRow.holds Try.pinned (OpenSpec.ofChange fnExactProgReadsWrong)

/-- 'laws.FnWallGaps': WHATEVER THE INPUT: true; the input reads as it did. -/
def fnWallGapsSpec : ChangeSpec := { name := "fnWallGaps", fn := fun _ => fun
  | [d] => { results := [.lit (.bool true)], args := [d] }
  | _ => none }
def fnWallGapsRow : OpenClaim := { program := "ytaehbfaldofmbaa", sum := "4f5f712d1c8dc92dbf95ee067d1a960a1bf5be0bcb8ef16d41dafc5435113a5e", func := "loop.example/fathomline/laws.FnWallGaps", spec := "fnWallGaps", apart := false }
def FnWallGapsSaid : Prop := fnWallGapsRow.holds Try.pinned (OpenSpec.ofChange fnWallGapsSpec)

/-- ITS FALSE NEIGHBOUR: 'it returns false'. Refute it at one input. -/
def fnWallGapsWrong : ChangeSpec := { name := "fnWallGaps", fn := fun _ => fun
  | [d] => { results := [.lit (.bool false)], args := [d] }
  | _ => none }
def FnWallGapsWrongFalsely : Prop := fnWallGapsRow.holds Try.pinned (OpenSpec.ofChange fnWallGapsWrong)

/-- 'laws.FnProgReads': WHATEVER THE INPUT: true; the input reads as it did. -/
def fnProgReadsSpec : ChangeSpec := { name := "fnProgReads", fn := fun _ => fun
  | [d] => { results := [.lit (.bool true)], args := [d] }
  | _ => none }
def fnProgReadsRow : OpenClaim := { program := "ytaehbfaldofmbaa", sum := "4f5f712d1c8dc92dbf95ee067d1a960a1bf5be0bcb8ef16d41dafc5435113a5e", func := "loop.example/fathomline/laws.FnProgReads", spec := "fnProgReads", apart := false }
def FnProgReadsSaid : Prop := fnProgReadsRow.holds Try.pinned (OpenSpec.ofChange fnProgReadsSpec)

/-- ITS FALSE NEIGHBOUR: 'it returns false'. Refute it at one input. -/
def fnProgReadsWrong : ChangeSpec := { name := "fnProgReads", fn := fun _ => fun
  | [d] => { results := [.lit (.bool false)], args := [d] }
  | _ => none }
def FnProgReadsWrongFalsely : Prop := fnProgReadsRow.holds Try.pinned (OpenSpec.ofChange fnProgReadsWrong)

/-- 'laws.FnSeenThree': WHATEVER THE INPUT: true; the input reads as it did. -/
def fnSeenThreeSpec : ChangeSpec := { name := "fnSeenThree", fn := fun _ => fun
  | [d1, d2] => { results := [.lit (.bool true)], args := [d1, d2] }
  | _ => none }
def fnSeenThreeRow : OpenClaim := { program := "ytaehbfaldofmbaa", sum := "4f5f712d1c8dc92dbf95ee067d1a960a1bf5be0bcb8ef16d41dafc5435113a5e", func := "loop.example/fathomline/laws.FnSeenThree", spec := "fnSeenThree", apart := false }
def FnSeenThreeSaid : Prop := fnSeenThreeRow.holds Try.pinned (OpenSpec.ofChange fnSeenThreeSpec)

/-- ITS FALSE NEIGHBOUR: 'it returns false'. Refute it at one input. -/
def fnSeenThreeWrong : ChangeSpec := { name := "fnSeenThree", fn := fun _ => fun
  | [d1, d2] => { results := [.lit (.bool false)], args := [d1, d2] }
  | _ => none }
def FnSeenThreeWrongFalsely : Prop := fnSeenThreeRow.holds Try.pinned (OpenSpec.ofChange fnSeenThreeWrong)

/-- 'laws.FnExecEvents': WHATEVER THE INPUT: true; the input reads as it did. -/
def fnExecEventsSpec : ChangeSpec := { name := "fnExecEvents", fn := fun _ => fun
  | [d] => { results := [.lit (.bool true)], args := [d] }
  | _ => none }
def fnExecEventsRow : OpenClaim := { program := "ytaehbfaldofmbaa", sum := "4f5f712d1c8dc92dbf95ee067d1a960a1bf5be0bcb8ef16d41dafc5435113a5e", func := "loop.example/fathomline/laws.FnExecEvents", spec := "fnExecEvents", apart := false }
def FnExecEventsSaid : Prop := fnExecEventsRow.holds Try.pinned (OpenSpec.ofChange fnExecEventsSpec)

/-- ITS FALSE NEIGHBOUR: 'it returns false'. Refute it at one input. -/
def fnExecEventsWrong : ChangeSpec := { name := "fnExecEvents", fn := fun _ => fun
  | [d] => { results := [.lit (.bool false)], args := [d] }
  | _ => none }
def FnExecEventsWrongFalsely : Prop := fnExecEventsRow.holds Try.pinned (OpenSpec.ofChange fnExecEventsWrong)

/-- 'laws.FnSeenOrder': WHATEVER THE INPUT: true; the input reads as it did. -/
def fnSeenOrderSpec : ChangeSpec := { name := "fnSeenOrder", fn := fun _ => fun
  | [d] => { results := [.lit (.bool true)], args := [d] }
  | _ => none }
def fnSeenOrderRow : OpenClaim := { program := "ytaehbfaldofmbaa", sum := "4f5f712d1c8dc92dbf95ee067d1a960a1bf5be0bcb8ef16d41dafc5435113a5e", func := "loop.example/fathomline/laws.FnSeenOrder", spec := "fnSeenOrder", apart := false }
def FnSeenOrderSaid : Prop := fnSeenOrderRow.holds Try.pinned (OpenSpec.ofChange fnSeenOrderSpec)

/-- ITS FALSE NEIGHBOUR: 'it returns false'. Refute it at one input. -/
def fnSeenOrderWrong : ChangeSpec := { name := "fnSeenOrder", fn := fun _ => fun
  | [d] => { results := [.lit (.bool false)], args := [d] }
  | _ => none }
def FnSeenOrderWrongFalsely : Prop := fnSeenOrderRow.holds Try.pinned (OpenSpec.ofChange fnSeenOrderWrong)

/-- 'laws.FnExactExecEvents': WHATEVER THE INPUT: true; the input reads as it did. -/
def fnExactExecEventsSpec : ChangeSpec := { name := "fnExactExecEvents", fn := fun _ => fun
  | [d] => { results := [.lit (.bool true)], args := [d] }
  | _ => none }
def fnExactExecEventsRow : OpenClaim := { program := "ytaehbfaldofmbaa", sum := "4f5f712d1c8dc92dbf95ee067d1a960a1bf5be0bcb8ef16d41dafc5435113a5e", func := "loop.example/fathomline/laws.FnExactExecEvents", spec := "fnExactExecEvents", apart := false }
def FnExactExecEventsSaid : Prop := fnExactExecEventsRow.holds Try.pinned (OpenSpec.ofChange fnExactExecEventsSpec)

/-- ITS FALSE NEIGHBOUR: 'it returns false'. Refute it at one input. -/
def fnExactExecEventsWrong : ChangeSpec := { name := "fnExactExecEvents", fn := fun _ => fun
  | [d] => { results := [.lit (.bool false)], args := [d] }
  | _ => none }
def FnExactExecEventsWrongFalsely : Prop := fnExactExecEventsRow.holds Try.pinned (OpenSpec.ofChange fnExactExecEventsWrong)

/-- 'laws.FnExactSeenOk': WHATEVER THE INPUT: true; the input reads as it did. -/
def fnExactSeenOkSpec : ChangeSpec := { name := "fnExactSeenOk", fn := fun _ => fun
  | [d1, d2] => { results := [.lit (.bool true)], args := [d1, d2] }
  | _ => none }
def fnExactSeenOkRow : OpenClaim := { program := "ytaehbfaldofmbaa", sum := "4f5f712d1c8dc92dbf95ee067d1a960a1bf5be0bcb8ef16d41dafc5435113a5e", func := "loop.example/fathomline/laws.FnExactSeenOk", spec := "fnExactSeenOk", unfollowed := true, recurses := true, apart := false }
def FnExactSeenOkSaid : Prop := fnExactSeenOkRow.holds Try.pinned (OpenSpec.ofChange fnExactSeenOkSpec)

/-- ITS FALSE NEIGHBOUR: 'it returns false'. Refute it at one input. -/
def fnExactSeenOkWrong : ChangeSpec := { name := "fnExactSeenOk", fn := fun _ => fun
  | [d1, d2] => { results := [.lit (.bool false)], args := [d1, d2] }
  | _ => none }
def FnExactSeenOkWrongFalsely : Prop := fnExactSeenOkRow.holds Try.pinned (OpenSpec.ofChange fnExactSeenOkWrong)

/-- 'laws.FnWallNone': WHATEVER THE INPUT: true; the input reads as it did. -/
def fnWallNoneSpec : ChangeSpec := { name := "fnWallNone", fn := fun _ => fun
  | [d] => { results := [.lit (.bool true)], args := [d] }
  | _ => none }
def fnWallNoneRow : OpenClaim := { program := "ytaehbfaldofmbaa", sum := "4f5f712d1c8dc92dbf95ee067d1a960a1bf5be0bcb8ef16d41dafc5435113a5e", func := "loop.example/fathomline/laws.FnWallNone", spec := "fnWallNone", apart := false }
def FnWallNoneSaid : Prop := fnWallNoneRow.holds Try.pinned (OpenSpec.ofChange fnWallNoneSpec)

/-- ITS FALSE NEIGHBOUR: 'it returns false'. Refute it at one input. -/
def fnWallNoneWrong : ChangeSpec := { name := "fnWallNone", fn := fun _ => fun
  | [d] => { results := [.lit (.bool false)], args := [d] }
  | _ => none }
def FnWallNoneWrongFalsely : Prop := fnWallNoneRow.holds Try.pinned (OpenSpec.ofChange fnWallNoneWrong)

/-- 'laws.FnExactWallAll': WHATEVER THE INPUT: true; the input reads as it did. -/
def fnExactWallAllSpec : ChangeSpec := { name := "fnExactWallAll", fn := fun _ => fun
  | [d] => { results := [.lit (.bool true)], args := [d] }
  | _ => none }
def fnExactWallAllRow : OpenClaim := { program := "ytaehbfaldofmbaa", sum := "4f5f712d1c8dc92dbf95ee067d1a960a1bf5be0bcb8ef16d41dafc5435113a5e", func := "loop.example/fathomline/laws.FnExactWallAll", spec := "fnExactWallAll", apart := false }
def FnExactWallAllSaid : Prop := fnExactWallAllRow.holds Try.pinned (OpenSpec.ofChange fnExactWallAllSpec)

/-- ITS FALSE NEIGHBOUR: 'it returns false'. Refute it at one input. -/
def fnExactWallAllWrong : ChangeSpec := { name := "fnExactWallAll", fn := fun _ => fun
  | [d] => { results := [.lit (.bool false)], args := [d] }
  | _ => none }
def FnExactWallAllWrongFalsely : Prop := fnExactWallAllRow.holds Try.pinned (OpenSpec.ofChange fnExactWallAllWrong)

/-- 'laws.FnWallPut': WHATEVER THE INPUT: true; the input reads as it did. -/
def fnWallPutSpec : ChangeSpec := { name := "fnWallPut", fn := fun _ => fun
  | [d] => { results := [.lit (.bool true)], args := [d] }
  | _ => none }
def fnWallPutRow : OpenClaim := { program := "ytaehbfaldofmbaa", sum := "4f5f712d1c8dc92dbf95ee067d1a960a1bf5be0bcb8ef16d41dafc5435113a5e", func := "loop.example/fathomline/laws.FnWallPut", spec := "fnWallPut", apart := false }
def FnWallPutSaid : Prop := fnWallPutRow.holds Try.pinned (OpenSpec.ofChange fnWallPutSpec)

/-- ITS FALSE NEIGHBOUR: 'it returns false'. Refute it at one input. -/
def fnWallPutWrong : ChangeSpec := { name := "fnWallPut", fn := fun _ => fun
  | [d] => { results := [.lit (.bool false)], args := [d] }
  | _ => none }
def FnWallPutWrongFalsely : Prop := fnWallPutRow.holds Try.pinned (OpenSpec.ofChange fnWallPutWrong)

/-- 'laws.FnExactWallPut': WHATEVER THE INPUT: true; the input reads as it did. -/
def fnExactWallPutSpec : ChangeSpec := { name := "fnExactWallPut", fn := fun _ => fun
  | [d1, d2] => { results := [.lit (.bool true)], args := [d1, d2] }
  | _ => none }
def fnExactWallPutRow : OpenClaim := { program := "ytaehbfaldofmbaa", sum := "4f5f712d1c8dc92dbf95ee067d1a960a1bf5be0bcb8ef16d41dafc5435113a5e", func := "loop.example/fathomline/laws.FnExactWallPut", spec := "fnExactWallPut", apart := false }
def FnExactWallPutSaid : Prop := fnExactWallPutRow.holds Try.pinned (OpenSpec.ofChange fnExactWallPutSpec)

/-- ITS FALSE NEIGHBOUR: 'it returns false'. Refute it at one input. -/
def fnExactWallPutWrong : ChangeSpec := { name := "fnExactWallPut", fn := fun _ => fun
  | [d1, d2] => { results := [.lit (.bool false)], args := [d1, d2] }
  | _ => none }
def FnExactWallPutWrongFalsely : Prop := fnExactWallPutRow.holds Try.pinned (OpenSpec.ofChange fnExactWallPutWrong)

/-- 'laws.FnExactSeenSort': WHATEVER THE INPUT: true; the input reads as it did. -/
def fnExactSeenSortSpec : ChangeSpec := { name := "fnExactSeenSort", fn := fun _ => fun
  | [d] => { results := [.lit (.bool true)], args := [d] }
  | _ => none }
def fnExactSeenSortRow : OpenClaim := { program := "ytaehbfaldofmbaa", sum := "4f5f712d1c8dc92dbf95ee067d1a960a1bf5be0bcb8ef16d41dafc5435113a5e", func := "loop.example/fathomline/laws.FnExactSeenSort", spec := "fnExactSeenSort", unfollowed := true, recurses := true, apart := false }
def FnExactSeenSortSaid : Prop := fnExactSeenSortRow.holds Try.pinned (OpenSpec.ofChange fnExactSeenSortSpec)

/-- ITS FALSE NEIGHBOUR: 'it returns false'. Refute it at one input. -/
def fnExactSeenSortWrong : ChangeSpec := { name := "fnExactSeenSort", fn := fun _ => fun
  | [d] => { results := [.lit (.bool false)], args := [d] }
  | _ => none }
def FnExactSeenSortWrongFalsely : Prop := fnExactSeenSortRow.holds Try.pinned (OpenSpec.ofChange fnExactSeenSortWrong)

/-- 'laws.FnSeenIn': WHATEVER THE INPUT: true; the input reads as it did. -/
def fnSeenInSpec : ChangeSpec := { name := "fnSeenIn", fn := fun _ => fun
  | [d] => { results := [.lit (.bool true)], args := [d] }
  | _ => none }
def fnSeenInRow : OpenClaim := { program := "ytaehbfaldofmbaa", sum := "4f5f712d1c8dc92dbf95ee067d1a960a1bf5be0bcb8ef16d41dafc5435113a5e", func := "loop.example/fathomline/laws.FnSeenIn", spec := "fnSeenIn", unfollowed := true, recurses := true, apart := false }
def FnSeenInSaid : Prop := fnSeenInRow.holds Try.pinned (OpenSpec.ofChange fnSeenInSpec)

/-- ITS FALSE NEIGHBOUR: 'it returns false'. Refute it at one input. -/
def fnSeenInWrong : ChangeSpec := { name := "fnSeenIn", fn := fun _ => fun
  | [d] => { results := [.lit (.bool false)], args := [d] }
  | _ => none }
def FnSeenInWrongFalsely : Prop := fnSeenInRow.holds Try.pinned (OpenSpec.ofChange fnSeenInWrong)

/-- 'laws.FnSeenSortTwice': WHATEVER THE INPUT: true; the input reads as it did. -/
def fnSeenSortTwiceSpec : ChangeSpec := { name := "fnSeenSortTwice", fn := fun _ => fun
  | [d] => { results := [.lit (.bool true)], args := [d] }
  | _ => none }
def fnSeenSortTwiceRow : OpenClaim := { program := "ytaehbfaldofmbaa", sum := "4f5f712d1c8dc92dbf95ee067d1a960a1bf5be0bcb8ef16d41dafc5435113a5e", func := "loop.example/fathomline/laws.FnSeenSortTwice", spec := "fnSeenSortTwice", unfollowed := true, recurses := true, apart := false }
def FnSeenSortTwiceSaid : Prop := fnSeenSortTwiceRow.holds Try.pinned (OpenSpec.ofChange fnSeenSortTwiceSpec)

/-- ITS FALSE NEIGHBOUR: 'it returns false'. Refute it at one input. -/
def fnSeenSortTwiceWrong : ChangeSpec := { name := "fnSeenSortTwice", fn := fun _ => fun
  | [d] => { results := [.lit (.bool false)], args := [d] }
  | _ => none }
def FnSeenSortTwiceWrongFalsely : Prop := fnSeenSortTwiceRow.holds Try.pinned (OpenSpec.ofChange fnSeenSortTwiceWrong)

/-- 'laws.FnSeenSort': WHATEVER THE INPUT: true; the input reads as it did. -/
def fnSeenSortSpec : ChangeSpec := { name := "fnSeenSort", fn := fun _ => fun
  | [d] => { results := [.lit (.bool true)], args := [d] }
  | _ => none }
def fnSeenSortRow : OpenClaim := { program := "ytaehbfaldofmbaa", sum := "4f5f712d1c8dc92dbf95ee067d1a960a1bf5be0bcb8ef16d41dafc5435113a5e", func := "loop.example/fathomline/laws.FnSeenSort", spec := "fnSeenSort", unfollowed := true, recurses := true, apart := false }
def FnSeenSortSaid : Prop := fnSeenSortRow.holds Try.pinned (OpenSpec.ofChange fnSeenSortSpec)

/-- ITS FALSE NEIGHBOUR: 'it returns false'. Refute it at one input. -/
def fnSeenSortWrong : ChangeSpec := { name := "fnSeenSort", fn := fun _ => fun
  | [d] => { results := [.lit (.bool false)], args := [d] }
  | _ => none }
def FnSeenSortWrongFalsely : Prop := fnSeenSortRow.holds Try.pinned (OpenSpec.ofChange fnSeenSortWrong)

/- THE SECOND FORM. 'bulk': how many values and letters a reading holds, each counted each time it is reached (what is shared counts as often as it is met; a slice's spare places count too). A statement '..UptoSaid' is the law's where the arguments, and the package variables that the reading takes, are together of bulk at most 1048576: NARROWER than '..Said'. Prove '..Said' where nothing that the law and all that it calls make is longer than what came in: it says more and counts as full. Else prove '..UptoSaid'. A law counts once. -/
mutual
def uptoBulk {H : Type} : DataW H → Nat
  | .lit (.string bytes) => bytes.length + 1
  | .lit _ => 1
  | .nil => 1
  | .ptr d => uptoBulk d + 1
  | .slice elems spare => uptoBulkAll elems + uptoBulkAll spare + 1
  | .agg parts => uptoBulkAll parts + 1
  | .iface _ d => uptoBulk d + 1
  | .map entries => uptoBulkEntries entries + 1
  | .held _ => 1
def uptoBulkAll {H : Type} : List (DataW H) → Nat
  | [] => 0
  | d :: r => uptoBulk d + uptoBulkAll r
def uptoBulkEntries {H : Type} : List (Lit × DataW H) → Nat
  | [] => 0
  | x :: r => uptoBulkEntry x + uptoBulkEntries r
def uptoBulkEntry {H : Type} : Lit × DataW H → Nat
  | (.string bytes, d) => bytes.length + uptoBulk d + 1
  | (_, d) => uptoBulk d + 1
 end
def uptoSmall : (H : Type) → List (DataW H) → Bool := fun _ ds => decide (uptoBulkAll ds ≤ 1048576)
def OpenSpec.upto (s : _root_.Go.ChangeSpec) : _root_.Go.OpenSpec := { _root_.Go.OpenSpec.ofChange s with cond := some uptoSmall }

/-- 'laws.FnExactSeenLess', WHERE WHAT IT READS IS OF BULK AT MOST 1048576: true; the input reads as it did. -/
def fnExactSeenLessUptoRow : OpenClaim := { program := "ytaehbfaldofmbaa", sum := "4f5f712d1c8dc92dbf95ee067d1a960a1bf5be0bcb8ef16d41dafc5435113a5e", func := "loop.example/fathomline/laws.FnExactSeenLess", spec := "fnExactSeenLess", apart := false, narrowed := true }
def FnExactSeenLessUptoSaid : Prop := fnExactSeenLessUptoRow.holds Try.pinned (OpenSpec.upto fnExactSeenLessSpec)

/-- 'laws.FnExactSeenIn', WHERE WHAT IT READS IS OF BULK AT MOST 1048576: true; the input reads as it did. -/
def fnExactSeenInUptoRow : OpenClaim := { program := "ytaehbfaldofmbaa", sum := "4f5f712d1c8dc92dbf95ee067d1a960a1bf5be0bcb8ef16d41dafc5435113a5e", func := "loop.example/fathomline/laws.FnExactSeenIn", spec := "fnExactSeenIn", unfollowed := true, recurses := true, apart := false, narrowed := true }
def FnExactSeenInUptoSaid : Prop := fnExactSeenInUptoRow.holds Try.pinned (OpenSpec.upto fnExactSeenInSpec)

/-- 'laws.FnExactProgOk', WHERE WHAT IT READS IS OF BULK AT MOST 1048576: true; the input reads as it did. -/
def fnExactProgOkUptoRow : OpenClaim := { program := "ytaehbfaldofmbaa", sum := "4f5f712d1c8dc92dbf95ee067d1a960a1bf5be0bcb8ef16d41dafc5435113a5e", func := "loop.example/fathomline/laws.FnExactProgOk", spec := "fnExactProgOk", apart := false, narrowed := true }
def FnExactProgOkUptoSaid : Prop := fnExactProgOkUptoRow.holds Try.pinned (OpenSpec.upto fnExactProgOkSpec)

/-- 'laws.FnProgLess', WHERE WHAT IT READS IS OF BULK AT MOST 1048576: true; the input reads as it did. -/
def fnProgLessUptoRow : OpenClaim := { program := "ytaehbfaldofmbaa", sum := "4f5f712d1c8dc92dbf95ee067d1a960a1bf5be0bcb8ef16d41dafc5435113a5e", func := "loop.example/fathomline/laws.FnProgLess", spec := "fnProgLess", apart := false, narrowed := true }
def FnProgLessUptoSaid : Prop := fnProgLessUptoRow.holds Try.pinned (OpenSpec.upto fnProgLessSpec)

/-- 'laws.FnExactWallGaps', WHERE WHAT IT READS IS OF BULK AT MOST 1048576: true; the input reads as it did. -/
def fnExactWallGapsUptoRow : OpenClaim := { program := "ytaehbfaldofmbaa", sum := "4f5f712d1c8dc92dbf95ee067d1a960a1bf5be0bcb8ef16d41dafc5435113a5e", func := "loop.example/fathomline/laws.FnExactWallGaps", spec := "fnExactWallGaps", apart := false, narrowed := true }
def FnExactWallGapsUptoSaid : Prop := fnExactWallGapsUptoRow.holds Try.pinned (OpenSpec.upto fnExactWallGapsSpec)

/-- 'laws.FnExactProgReads', WHERE WHAT IT READS IS OF BULK AT MOST 1048576: true; the input reads as it did. -/
def fnExactProgReadsUptoRow : OpenClaim := { program := "ytaehbfaldofmbaa", sum := "4f5f712d1c8dc92dbf95ee067d1a960a1bf5be0bcb8ef16d41dafc5435113a5e", func := "loop.example/fathomline/laws.FnExactProgReads", spec := "fnExactProgReads", apart := false, narrowed := true }
def FnExactProgReadsUptoSaid : Prop := fnExactProgReadsUptoRow.holds Try.pinned (OpenSpec.upto fnExactProgReadsSpec)

/-- 'laws.FnWallGaps', WHERE WHAT IT READS IS OF BULK AT MOST 1048576: true; the input reads as it did. -/
def fnWallGapsUptoRow : OpenClaim := { program := "ytaehbfaldofmbaa", sum := "4f5f712d1c8dc92dbf95ee067d1a960a1bf5be0bcb8ef16d41dafc5435113a5e", func := "loop.example/fathomline/laws.FnWallGaps", spec := "fnWallGaps", apart := false, narrowed := true }
def FnWallGapsUptoSaid : Prop := fnWallGapsUptoRow.holds Try.pinned (OpenSpec.upto fnWallGapsSpec)

/-- 'laws.FnProgReads', WHERE WHAT IT READS IS OF BULK AT MOST 1048576: true; the input reads as it did. -/
def fnProgReadsUptoRow : OpenClaim := { program := "ytaehbfaldofmbaa", sum := "4f5f712d1c8dc92dbf95ee067d1a960a1bf5be0bcb8ef16d41dafc5435113a5e", func := "loop.example/fathomline/laws.FnProgReads", spec := "fnProgReads", apart := false, narrowed := true }
def FnProgReadsUptoSaid : Prop := fnProgReadsUptoRow.holds Try.pinned (OpenSpec.upto fnProgReadsSpec)

/-- 'laws.FnSeenThree', WHERE WHAT IT READS IS OF BULK AT MOST 1048576: true; the input reads as it did. -/
def fnSeenThreeUptoRow : OpenClaim := { program := "ytaehbfaldofmbaa", sum := "4f5f712d1c8dc92dbf95ee067d1a960a1bf5be0bcb8ef16d41dafc5435113a5e", func := "loop.example/fathomline/laws.FnSeenThree", spec := "fnSeenThree", apart := false, narrowed := true }
def FnSeenThreeUptoSaid : Prop := fnSeenThreeUptoRow.holds Try.pinned (OpenSpec.upto fnSeenThreeSpec)

/-- 'laws.FnExecEvents', WHERE WHAT IT READS IS OF BULK AT MOST 1048576: true; the input reads as it did. -/
def fnExecEventsUptoRow : OpenClaim := { program := "ytaehbfaldofmbaa", sum := "4f5f712d1c8dc92dbf95ee067d1a960a1bf5be0bcb8ef16d41dafc5435113a5e", func := "loop.example/fathomline/laws.FnExecEvents", spec := "fnExecEvents", apart := false, narrowed := true }
def FnExecEventsUptoSaid : Prop := fnExecEventsUptoRow.holds Try.pinned (OpenSpec.upto fnExecEventsSpec)

/-- 'laws.FnSeenOrder', WHERE WHAT IT READS IS OF BULK AT MOST 1048576: true; the input reads as it did. -/
def fnSeenOrderUptoRow : OpenClaim := { program := "ytaehbfaldofmbaa", sum := "4f5f712d1c8dc92dbf95ee067d1a960a1bf5be0bcb8ef16d41dafc5435113a5e", func := "loop.example/fathomline/laws.FnSeenOrder", spec := "fnSeenOrder", apart := false, narrowed := true }
def FnSeenOrderUptoSaid : Prop := fnSeenOrderUptoRow.holds Try.pinned (OpenSpec.upto fnSeenOrderSpec)

/-- 'laws.FnExactExecEvents', WHERE WHAT IT READS IS OF BULK AT MOST 1048576: true; the input reads as it did. -/
def fnExactExecEventsUptoRow : OpenClaim := { program := "ytaehbfaldofmbaa", sum := "4f5f712d1c8dc92dbf95ee067d1a960a1bf5be0bcb8ef16d41dafc5435113a5e", func := "loop.example/fathomline/laws.FnExactExecEvents", spec := "fnExactExecEvents", apart := false, narrowed := true }
def FnExactExecEventsUptoSaid : Prop := fnExactExecEventsUptoRow.holds Try.pinned (OpenSpec.upto fnExactExecEventsSpec)

/-- 'laws.FnExactSeenOk', WHERE WHAT IT READS IS OF BULK AT MOST 1048576: true; the input reads as it did. -/
def fnExactSeenOkUptoRow : OpenClaim := { program := "ytaehbfaldofmbaa", sum := "4f5f712d1c8dc92dbf95ee067d1a960a1bf5be0bcb8ef16d41dafc5435113a5e", func := "loop.example/fathomline/laws.FnExactSeenOk", spec := "fnExactSeenOk", unfollowed := true, recurses := true, apart := false, narrowed := true }
def FnExactSeenOkUptoSaid : Prop := fnExactSeenOkUptoRow.holds Try.pinned (OpenSpec.upto fnExactSeenOkSpec)

/-- 'laws.FnWallNone', WHERE WHAT IT READS IS OF BULK AT MOST 1048576: true; the input reads as it did. -/
def fnWallNoneUptoRow : OpenClaim := { program := "ytaehbfaldofmbaa", sum := "4f5f712d1c8dc92dbf95ee067d1a960a1bf5be0bcb8ef16d41dafc5435113a5e", func := "loop.example/fathomline/laws.FnWallNone", spec := "fnWallNone", apart := false, narrowed := true }
def FnWallNoneUptoSaid : Prop := fnWallNoneUptoRow.holds Try.pinned (OpenSpec.upto fnWallNoneSpec)

/-- 'laws.FnExactWallAll', WHERE WHAT IT READS IS OF BULK AT MOST 1048576: true; the input reads as it did. -/
def fnExactWallAllUptoRow : OpenClaim := { program := "ytaehbfaldofmbaa", sum := "4f5f712d1c8dc92dbf95ee067d1a960a1bf5be0bcb8ef16d41dafc5435113a5e", func := "loop.example/fathomline/laws.FnExactWallAll", spec := "fnExactWallAll", apart := false, narrowed := true }
def FnExactWallAllUptoSaid : Prop := fnExactWallAllUptoRow.holds Try.pinned (OpenSpec.upto fnExactWallAllSpec)

/-- 'laws.FnWallPut', WHERE WHAT IT READS IS OF BULK AT MOST 1048576: true; the input reads as it did. -/
def fnWallPutUptoRow : OpenClaim := { program := "ytaehbfaldofmbaa", sum := "4f5f712d1c8dc92dbf95ee067d1a960a1bf5be0bcb8ef16d41dafc5435113a5e", func := "loop.example/fathomline/laws.FnWallPut", spec := "fnWallPut", apart := false, narrowed := true }
def FnWallPutUptoSaid : Prop := fnWallPutUptoRow.holds Try.pinned (OpenSpec.upto fnWallPutSpec)

/-- 'laws.FnExactWallPut', WHERE WHAT IT READS IS OF BULK AT MOST 1048576: true; the input reads as it did. -/
def fnExactWallPutUptoRow : OpenClaim := { program := "ytaehbfaldofmbaa", sum := "4f5f712d1c8dc92dbf95ee067d1a960a1bf5be0bcb8ef16d41dafc5435113a5e", func := "loop.example/fathomline/laws.FnExactWallPut", spec := "fnExactWallPut", apart := false, narrowed := true }
def FnExactWallPutUptoSaid : Prop := fnExactWallPutUptoRow.holds Try.pinned (OpenSpec.upto fnExactWallPutSpec)

/-- 'laws.FnExactSeenSort', WHERE WHAT IT READS IS OF BULK AT MOST 1048576: true; the input reads as it did. -/
def fnExactSeenSortUptoRow : OpenClaim := { program := "ytaehbfaldofmbaa", sum := "4f5f712d1c8dc92dbf95ee067d1a960a1bf5be0bcb8ef16d41dafc5435113a5e", func := "loop.example/fathomline/laws.FnExactSeenSort", spec := "fnExactSeenSort", unfollowed := true, recurses := true, apart := false, narrowed := true }
def FnExactSeenSortUptoSaid : Prop := fnExactSeenSortUptoRow.holds Try.pinned (OpenSpec.upto fnExactSeenSortSpec)

/-- 'laws.FnSeenIn', WHERE WHAT IT READS IS OF BULK AT MOST 1048576: true; the input reads as it did. -/
def fnSeenInUptoRow : OpenClaim := { program := "ytaehbfaldofmbaa", sum := "4f5f712d1c8dc92dbf95ee067d1a960a1bf5be0bcb8ef16d41dafc5435113a5e", func := "loop.example/fathomline/laws.FnSeenIn", spec := "fnSeenIn", unfollowed := true, recurses := true, apart := false, narrowed := true }
def FnSeenInUptoSaid : Prop := fnSeenInUptoRow.holds Try.pinned (OpenSpec.upto fnSeenInSpec)

/-- 'laws.FnSeenSortTwice', WHERE WHAT IT READS IS OF BULK AT MOST 1048576: true; the input reads as it did. -/
def fnSeenSortTwiceUptoRow : OpenClaim := { program := "ytaehbfaldofmbaa", sum := "4f5f712d1c8dc92dbf95ee067d1a960a1bf5be0bcb8ef16d41dafc5435113a5e", func := "loop.example/fathomline/laws.FnSeenSortTwice", spec := "fnSeenSortTwice", unfollowed := true, recurses := true, apart := false, narrowed := true }
def FnSeenSortTwiceUptoSaid : Prop := fnSeenSortTwiceUptoRow.holds Try.pinned (OpenSpec.upto fnSeenSortTwiceSpec)

/-- 'laws.FnSeenSort', WHERE WHAT IT READS IS OF BULK AT MOST 1048576: true; the input reads as it did. -/
def fnSeenSortUptoRow : OpenClaim := { program := "ytaehbfaldofmbaa", sum := "4f5f712d1c8dc92dbf95ee067d1a960a1bf5be0bcb8ef16d41dafc5435113a5e", func := "loop.example/fathomline/laws.FnSeenSort", spec := "fnSeenSort", unfollowed := true, recurses := true, apart := false, narrowed := true }
def FnSeenSortUptoSaid : Prop := fnSeenSortUptoRow.holds Try.pinned (OpenSpec.upto fnSeenSortSpec)

end Rows
end Go.Proofs.Ytaehbfaldofmbaa
