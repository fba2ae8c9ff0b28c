/-
  No cell of these rows narrows 'for every input' (looked for: loops, veiled, ifaces, maps, wideKeys, modest, calm, conditions, laid).
  DERIVED. THE GIVEN ROWS OF THIS SEAT. 12 by the template 'for every input the law returns true; each argument reads behind the call as it read before'; 0 by the template 'total and deterministic' (their statements: YtnonfdhkmoihaaaTotals.lean).
  GIVEN WITH THE SEED: the statements are not yours to turn. If you find one false, say at which input.
  Laid BY PROGRAM, IN A SANDBOX (cutbox-rows.mjs): the forced cells as the released guide's own fill.sh prints them over the translation 6ccc56144248c090… (all of the seat's roots in one cut). By AI agents, Wed Nov 11 2026. No macro, syntax, notation, axiom, sorry.
-/
import Derived.Test.YtnonfdhkmoihaaaChecked
import GoSem.Claim
import GoSem.ClaimJoined
import GoSem.ClaimMapViews
import Derived.JoinedTies
import Derived.KernelRfl
namespace Go.Proofs.Ytnonfdhkmoihaaa
/- THE CELL 'sum', in the pinned program and in every row, IS THE sha256 OF THE DUMP (.gsa) THAT YtnonfdhkmoihaaaProg.lean LOADS. Nothing in Lean hashes anything: it is a label: what it is worth is what the hold of that sum in a sandbox is worth. -/
noncomputable def Try.pinned : Pinned := { name := "ytnonfdhkmoihaaa", sum := "6ccc56144248c090e234a80c09083e45773b841d2ac68938e00b3f6103f3f342", checked := Try.checked }
namespace Rows
def none {H : Type} : Left H := { results := [], args := [] }

/-- 'laws.FnExactConstants': WHATEVER THE INPUT: true; the input reads as it did. -/
def fnExactConstantsSpec : ChangeSpec := { name := "fnExactConstants", fn := fun _ => fun
  | [] => { results := [.lit (.bool true)], args := [] }
  | _ => none }
def fnExactConstantsRow : OpenClaim := { program := "ytnonfdhkmoihaaa", sum := "6ccc56144248c090e234a80c09083e45773b841d2ac68938e00b3f6103f3f342", func := "loop.example/fathomline/laws.FnExactConstants", spec := "fnExactConstants", apart := false }
def FnExactConstantsSaid : Prop := fnExactConstantsRow.holds Try.pinned (OpenSpec.ofChange fnExactConstantsSpec)

/-- ITS FALSE NEIGHBOUR: 'it returns false'. Refute it at one input. -/
def fnExactConstantsWrong : ChangeSpec := { name := "fnExactConstants", fn := fun _ => fun
  | [] => { results := [.lit (.bool false)], args := [] }
  | _ => none }
def FnExactConstantsWrongFalsely : Prop := fnExactConstantsRow.holds Try.pinned (OpenSpec.ofChange fnExactConstantsWrong)

/-- 'laws.FnExactSeenLess': WHATEVER THE INPUT: true; the input reads as it did. -/
def fnExactSeenLessSpec : ChangeSpec := { name := "fnExactSeenLess", fn := fun _ => fun
  | [d1, d2] => { results := [.lit (.bool true)], args := [d1, d2] }
  | _ => none }
def fnExactSeenLessRow : OpenClaim := { program := "ytnonfdhkmoihaaa", sum := "6ccc56144248c090e234a80c09083e45773b841d2ac68938e00b3f6103f3f342", func := "loop.example/fathomline/laws.FnExactSeenLess", spec := "fnExactSeenLess", apart := false }
def FnExactSeenLessSaid : Prop := fnExactSeenLessRow.holds Try.pinned (OpenSpec.ofChange fnExactSeenLessSpec)

/-- ITS FALSE NEIGHBOUR: 'it returns false'. Refute it at one input. -/
def fnExactSeenLessWrong : ChangeSpec := { name := "fnExactSeenLess", fn := fun _ => fun
  | [d1, d2] => { results := [.lit (.bool false)], args := [d1, d2] }
  | _ => none }
def FnExactSeenLessWrongFalsely : Prop := fnExactSeenLessRow.holds Try.pinned (OpenSpec.ofChange fnExactSeenLessWrong)

/-- 'laws.FnExactSeenIn': WHATEVER THE INPUT: true; the input reads as it did. -/
def fnExactSeenInSpec : ChangeSpec := { name := "fnExactSeenIn", fn := fun _ => fun
  | [d1, d2] => { results := [.lit (.bool true)], args := [d1, d2] }
  | _ => none }
def fnExactSeenInRow : OpenClaim := { program := "ytnonfdhkmoihaaa", sum := "6ccc56144248c090e234a80c09083e45773b841d2ac68938e00b3f6103f3f342", func := "loop.example/fathomline/laws.FnExactSeenIn", spec := "fnExactSeenIn", unfollowed := true, recurses := true, apart := false }
def FnExactSeenInSaid : Prop := fnExactSeenInRow.holds Try.pinned (OpenSpec.ofChange fnExactSeenInSpec)

/-- ITS FALSE NEIGHBOUR: 'it returns false'. Refute it at one input. -/
def fnExactSeenInWrong : ChangeSpec := { name := "fnExactSeenIn", fn := fun _ => fun
  | [d1, d2] => { results := [.lit (.bool false)], args := [d1, d2] }
  | _ => none }
def FnExactSeenInWrongFalsely : Prop := fnExactSeenInRow.holds Try.pinned (OpenSpec.ofChange fnExactSeenInWrong)

/-- 'laws.FnExactProgOk': WHATEVER THE INPUT: true; the input reads as it did. -/
def fnExactProgOkSpec : ChangeSpec := { name := "fnExactProgOk", fn := fun _ => fun
  | [d] => { results := [.lit (.bool true)], args := [d] }
  | _ => none }
def fnExactProgOkRow : OpenClaim := { program := "ytnonfdhkmoihaaa", sum := "6ccc56144248c090e234a80c09083e45773b841d2ac68938e00b3f6103f3f342", func := "loop.example/fathomline/laws.FnExactProgOk", spec := "fnExactProgOk", apart := false }
def FnExactProgOkSaid : Prop := fnExactProgOkRow.holds Try.pinned (OpenSpec.ofChange fnExactProgOkSpec)

/-- ITS FALSE NEIGHBOUR: 'it returns false'. Refute it at one input. -/
def fnExactProgOkWrong : ChangeSpec := { name := "fnExactProgOk", fn := fun _ => fun
  | [d] => { results := [.lit (.bool false)], args := [d] }
  | _ => none }
def FnExactProgOkWrongFalsely : Prop := fnExactProgOkRow.holds Try.pinned (OpenSpec.ofChange fnExactProgOkWrong)

/-- 'laws.FnProgLess': WHATEVER THE INPUT: true; the input reads as it did. -/
def fnProgLessSpec : ChangeSpec := { name := "fnProgLess", fn := fun _ => fun
  | [d] => { results := [.lit (.bool true)], args := [d] }
  | _ => none }
def fnProgLessRow : OpenClaim := { program := "ytnonfdhkmoihaaa", sum := "6ccc56144248c090e234a80c09083e45773b841d2ac68938e00b3f6103f3f342", func := "loop.example/fathomline/laws.FnProgLess", spec := "fnProgLess", apart := false }
def FnProgLessSaid : Prop := fnProgLessRow.holds Try.pinned (OpenSpec.ofChange fnProgLessSpec)

/-- ITS FALSE NEIGHBOUR: 'it returns false'. Refute it at one input. -/
def fnProgLessWrong : ChangeSpec := { name := "fnProgLess", fn := fun _ => fun
  | [d] => { results := [.lit (.bool false)], args := [d] }
  | _ => none }
def FnProgLessWrongFalsely : Prop := fnProgLessRow.holds Try.pinned (OpenSpec.ofChange fnProgLessWrong)

/-- 'laws.FnExactWallGaps': WHATEVER THE INPUT: true; the input reads as it did. -/
def fnExactWallGapsSpec : ChangeSpec := { name := "fnExactWallGaps", fn := fun _ => fun
  | [d] => { results := [.lit (.bool true)], args := [d] }
  | _ => none }
def fnExactWallGapsRow : OpenClaim := { program := "ytnonfdhkmoihaaa", sum := "6ccc56144248c090e234a80c09083e45773b841d2ac68938e00b3f6103f3f342", func := "loop.example/fathomline/laws.FnExactWallGaps", spec := "fnExactWallGaps", apart := false }
def FnExactWallGapsSaid : Prop := fnExactWallGapsRow.holds Try.pinned (OpenSpec.ofChange fnExactWallGapsSpec)

/-- ITS FALSE NEIGHBOUR: 'it returns false'. Refute it at one input. -/
def fnExactWallGapsWrong : ChangeSpec := { name := "fnExactWallGaps", fn := fun _ => fun
  | [d] => { results := [.lit (.bool false)], args := [d] }
  | _ => none }
def FnExactWallGapsWrongFalsely : Prop := fnExactWallGapsRow.holds Try.pinned (OpenSpec.ofChange fnExactWallGapsWrong)

/-- 'laws.FnExactProgReads': WHATEVER THE INPUT: true; the input reads as it did. -/
def fnExactProgReadsSpec : ChangeSpec := { name := "fnExactProgReads", fn := fun _ => fun
  | [d] => { results := [.lit (.bool true)], args := [d] }
  | _ => none }
def fnExactProgReadsRow : OpenClaim := { program := "ytnonfdhkmoihaaa", sum := "6ccc56144248c090e234a80c09083e45773b841d2ac68938e00b3f6103f3f342", func := "loop.example/fathomline/laws.FnExactProgReads", spec := "fnExactProgReads", apart := false }
def FnExactProgReadsSaid : Prop := fnExactProgReadsRow.holds Try.pinned (OpenSpec.ofChange fnExactProgReadsSpec)

/-- ITS FALSE NEIGHBOUR: 'it returns false'. Refute it at one input. -/
def fnExactProgReadsWrong : ChangeSpec := { name := "fnExactProgReads", fn := fun _ => fun
  | [d] => { results := [.lit (.bool false)], args := [d] }
  | _ => none }
def FnExactProgReadsWrongFalsely : Prop := fnExactProgReadsRow.holds Try.pinned (OpenSpec.ofChange fnExactProgReadsWrong)

/-- 'laws.FnWallGaps': WHATEVER THE INPUT: true; the input reads as it did. -/
def fnWallGapsSpec : ChangeSpec := { name := "fnWallGaps", fn := fun _ => fun
  | [d] => { results := [.lit (.bool true)], args := [d] }
  | _ => none }
def fnWallGapsRow : OpenClaim := { program := "ytnonfdhkmoihaaa", sum := "6ccc56144248c090e234a80c09083e45773b841d2ac68938e00b3f6103f3f342", func := "loop.example/fathomline/laws.FnWallGaps", spec := "fnWallGaps", apart := false }
def FnWallGapsSaid : Prop := fnWallGapsRow.holds Try.pinned (OpenSpec.ofChange fnWallGapsSpec)

/-- ITS FALSE NEIGHBOUR: 'it returns false'. Refute it at one input. -/
def fnWallGapsWrong : ChangeSpec := { name := "fnWallGaps", fn := fun _ => fun
  | [d] => { results := [.lit (.bool false)], args := [d] }
  | _ => none }
def FnWallGapsWrongFalsely : Prop := fnWallGapsRow.holds Try.pinned (OpenSpec.ofChange fnWallGapsWrong)

/-- 'laws.FnProgReads': WHATEVER THE INPUT: true; the input reads as it did. -/
def fnProgReadsSpec : ChangeSpec := { name := "fnProgReads", fn := fun _ => fun
  | [d] => { results := [.lit (.bool true)], args := [d] }
  | _ => none }
def fnProgReadsRow : OpenClaim := { program := "ytnonfdhkmoihaaa", sum := "6ccc56144248c090e234a80c09083e45773b841d2ac68938e00b3f6103f3f342", func := "loop.example/fathomline/laws.FnProgReads", spec := "fnProgReads", apart := false }
def FnProgReadsSaid : Prop := fnProgReadsRow.holds Try.pinned (OpenSpec.ofChange fnProgReadsSpec)

/-- ITS FALSE NEIGHBOUR: 'it returns false'. Refute it at one input. -/
def fnProgReadsWrong : ChangeSpec := { name := "fnProgReads", fn := fun _ => fun
  | [d] => { results := [.lit (.bool false)], args := [d] }
  | _ => none }
def FnProgReadsWrongFalsely : Prop := fnProgReadsRow.holds Try.pinned (OpenSpec.ofChange fnProgReadsWrong)

/-- 'laws.FnSeenThree': WHATEVER THE INPUT: true; the input reads as it did. -/
def fnSeenThreeSpec : ChangeSpec := { name := "fnSeenThree", fn := fun _ => fun
  | [d1, d2] => { results := [.lit (.bool true)], args := [d1, d2] }
  | _ => none }
def fnSeenThreeRow : OpenClaim := { program := "ytnonfdhkmoihaaa", sum := "6ccc56144248c090e234a80c09083e45773b841d2ac68938e00b3f6103f3f342", func := "loop.example/fathomline/laws.FnSeenThree", spec := "fnSeenThree", apart := false }
def FnSeenThreeSaid : Prop := fnSeenThreeRow.holds Try.pinned (OpenSpec.ofChange fnSeenThreeSpec)

/-- ITS FALSE NEIGHBOUR: 'it returns false'. Refute it at one input. -/
def fnSeenThreeWrong : ChangeSpec := { name := "fnSeenThree", fn := fun _ => fun
  | [d1, d2] => { results := [.lit (.bool false)], args := [d1, d2] }
  | _ => none }
def FnSeenThreeWrongFalsely : Prop := fnSeenThreeRow.holds Try.pinned (OpenSpec.ofChange fnSeenThreeWrong)

/-- 'laws.FnExecEvents': WHATEVER THE INPUT: true; the input reads as it did. -/
def fnExecEventsSpec : ChangeSpec := { name := "fnExecEvents", fn := fun _ => fun
  | [d] => { results := [.lit (.bool true)], args := [d] }
  | _ => none }
def fnExecEventsRow : OpenClaim := { program := "ytnonfdhkmoihaaa", sum := "6ccc56144248c090e234a80c09083e45773b841d2ac68938e00b3f6103f3f342", func := "loop.example/fathomline/laws.FnExecEvents", spec := "fnExecEvents", apart := false }
def FnExecEventsSaid : Prop := fnExecEventsRow.holds Try.pinned (OpenSpec.ofChange fnExecEventsSpec)

/-- ITS FALSE NEIGHBOUR: 'it returns false'. Refute it at one input. -/
def fnExecEventsWrong : ChangeSpec := { name := "fnExecEvents", fn := fun _ => fun
  | [d] => { results := [.lit (.bool false)], args := [d] }
  | _ => none }
def FnExecEventsWrongFalsely : Prop := fnExecEventsRow.holds Try.pinned (OpenSpec.ofChange fnExecEventsWrong)

/-- 'laws.FnSeenOrder': WHATEVER THE INPUT: true; the input reads as it did. -/
def fnSeenOrderSpec : ChangeSpec := { name := "fnSeenOrder", fn := fun _ => fun
  | [d] => { results := [.lit (.bool true)], args := [d] }
  | _ => none }
def fnSeenOrderRow : OpenClaim := { program := "ytnonfdhkmoihaaa", sum := "6ccc56144248c090e234a80c09083e45773b841d2ac68938e00b3f6103f3f342", func := "loop.example/fathomline/laws.FnSeenOrder", spec := "fnSeenOrder", apart := false }
def FnSeenOrderSaid : Prop := fnSeenOrderRow.holds Try.pinned (OpenSpec.ofChange fnSeenOrderSpec)

/-- ITS FALSE NEIGHBOUR: 'it returns false'. Refute it at one input. -/
def fnSeenOrderWrong : ChangeSpec := { name := "fnSeenOrder", fn := fun _ => fun
  | [d] => { results := [.lit (.bool false)], args := [d] }
  | _ => none }
def FnSeenOrderWrongFalsely : Prop := fnSeenOrderRow.holds Try.pinned (OpenSpec.ofChange fnSeenOrderWrong)

/- THE SECOND FORM. 'bulk': how many values and letters a reading holds, each counted each time it is reached (what is shared counts as often as it is met; a slice's spare places count too). A statement '..UptoSaid' is the law's where the arguments, and the package variables that the reading takes, are together of bulk at most 1048576: NARROWER than '..Said'. Prove '..Said' where nothing that the law and all that it calls make is longer than what came in: it says more and counts as full. Else prove '..UptoSaid'. A law counts once. -/
mutual
def uptoBulk {H : Type} : DataW H → Nat
  | .lit (.string bytes) => bytes.length + 1
  | .lit _ => 1
  | .nil => 1
  | .ptr d => uptoBulk d + 1
  | .slice elems spare => uptoBulkAll elems + uptoBulkAll spare + 1
  | .agg parts => uptoBulkAll parts + 1
  | .iface _ d => uptoBulk d + 1
  | .map entries => uptoBulkEntries entries + 1
  | .held _ => 1
def uptoBulkAll {H : Type} : List (DataW H) → Nat
  | [] => 0
  | d :: r => uptoBulk d + uptoBulkAll r
def uptoBulkEntries {H : Type} : List (Lit × DataW H) → Nat
  | [] => 0
  | x :: r => uptoBulkEntry x + uptoBulkEntries r
def uptoBulkEntry {H : Type} : Lit × DataW H → Nat
  | (.string bytes, d) => bytes.length + uptoBulk d + 1
  | (_, d) => uptoBulk d + 1
 end
def uptoSmall : (H : Type) → List (DataW H) → Bool := fun _ ds => decide (uptoBulkAll ds ≤ 1048576)
def OpenSpec.upto (s : _root_.Go.ChangeSpec) : _root_.Go.OpenSpec := { _root_.Go.OpenSpec.ofChange s with cond := some uptoSmall }

/-- 'laws.FnExactConstants', WHERE WHAT IT READS IS OF BULK AT MOST 1048576: true; the input reads as it did. -/
def fnExactConstantsUptoRow : OpenClaim := { program := "ytnonfdhkmoihaaa", sum := "6ccc56144248c090e234a80c09083e45773b841d2ac68938e00b3f6103f3f342", func := "loop.example/fathomline/laws.FnExactConstants", spec := "fnExactConstants", apart := false, narrowed := true }
def FnExactConstantsUptoSaid : Prop := fnExactConstantsUptoRow.holds Try.pinned (OpenSpec.upto fnExactConstantsSpec)

/-- 'laws.FnExactSeenLess', WHERE WHAT IT READS IS OF BULK AT MOST 1048576: true; the input reads as it did. -/
def fnExactSeenLessUptoRow : OpenClaim := { program := "ytnonfdhkmoihaaa", sum := "6ccc56144248c090e234a80c09083e45773b841d2ac68938e00b3f6103f3f342", func := "loop.example/fathomline/laws.FnExactSeenLess", spec := "fnExactSeenLess", apart := false, narrowed := true }
def FnExactSeenLessUptoSaid : Prop := fnExactSeenLessUptoRow.holds Try.pinned (OpenSpec.upto fnExactSeenLessSpec)

/-- 'laws.FnExactSeenIn', WHERE WHAT IT READS IS OF BULK AT MOST 1048576: true; the input reads as it did. -/
def fnExactSeenInUptoRow : OpenClaim := { program := "ytnonfdhkmoihaaa", sum := "6ccc56144248c090e234a80c09083e45773b841d2ac68938e00b3f6103f3f342", func := "loop.example/fathomline/laws.FnExactSeenIn", spec := "fnExactSeenIn", unfollowed := true, recurses := true, apart := false, narrowed := true }
def FnExactSeenInUptoSaid : Prop := fnExactSeenInUptoRow.holds Try.pinned (OpenSpec.upto fnExactSeenInSpec)

/-- 'laws.FnExactProgOk', WHERE WHAT IT READS IS OF BULK AT MOST 1048576: true; the input reads as it did. -/
def fnExactProgOkUptoRow : OpenClaim := { program := "ytnonfdhkmoihaaa", sum := "6ccc56144248c090e234a80c09083e45773b841d2ac68938e00b3f6103f3f342", func := "loop.example/fathomline/laws.FnExactProgOk", spec := "fnExactProgOk", apart := false, narrowed := true }
def FnExactProgOkUptoSaid : Prop := fnExactProgOkUptoRow.holds Try.pinned (OpenSpec.upto fnExactProgOkSpec)

/-- 'laws.FnProgLess', WHERE WHAT IT READS IS OF BULK AT MOST 1048576: true; the input reads as it did. -/
def fnProgLessUptoRow : OpenClaim := { program := "ytnonfdhkmoihaaa", sum := "6ccc56144248c090e234a80c09083e45773b841d2ac68938e00b3f6103f3f342", func := "loop.example/fathomline/laws.FnProgLess", spec := "fnProgLess", apart := false, narrowed := true }
def FnProgLessUptoSaid : Prop := fnProgLessUptoRow.holds Try.pinned (OpenSpec.upto fnProgLessSpec)

/-- 'laws.FnExactWallGaps', WHERE WHAT IT READS IS OF BULK AT MOST 1048576: true; the input reads as it did. -/
def fnExactWallGapsUptoRow : OpenClaim := { program := "ytnonfdhkmoihaaa", sum := "6ccc56144248c090e234a80c09083e45773b841d2ac68938e00b3f6103f3f342", func := "loop.example/fathomline/laws.FnExactWallGaps", spec := "fnExactWallGaps", apart := false, narrowed := true }
def FnExactWallGapsUptoSaid : Prop := fnExactWallGapsUptoRow.holds Try.pinned (OpenSpec.upto fnExactWallGapsSpec)

/-- 'laws.FnExactProgReads', WHERE WHAT IT READS IS OF BULK AT MOST 1048576: true; the input reads as it did. -/
def fnExactProgReadsUptoRow : OpenClaim := { program := "ytnonfdhkmoihaaa", sum := "6ccc56144248c090e234a80c09083e45773b841d2ac68938e00b3f6103f3f342", func := "loop.example/fathomline/laws.FnExactProgReads", spec := "fnExactProgReads", apart := false, narrowed := true }
def FnExactProgReadsUptoSaid : Prop := fnExactProgReadsUptoRow.holds Try.pinned (OpenSpec.upto fnExactProgReadsSpec)

/-- 'laws.FnWallGaps', WHERE WHAT IT READS IS OF BULK AT MOST 1048576: true; the input reads as it did. -/
def fnWallGapsUptoRow : OpenClaim := { program := "ytnonfdhkmoihaaa", sum := "6ccc56144248c090e234a80c09083e45773b841d2ac68938e00b3f6103f3f342", func := "loop.example/fathomline/laws.FnWallGaps", spec := "fnWallGaps", apart := false, narrowed := true }
def FnWallGapsUptoSaid : Prop := fnWallGapsUptoRow.holds Try.pinned (OpenSpec.upto fnWallGapsSpec)

/-- 'laws.FnProgReads', WHERE WHAT IT READS IS OF BULK AT MOST 1048576: true; the input reads as it did. -/
def fnProgReadsUptoRow : OpenClaim := { program := "ytnonfdhkmoihaaa", sum := "6ccc56144248c090e234a80c09083e45773b841d2ac68938e00b3f6103f3f342", func := "loop.example/fathomline/laws.FnProgReads", spec := "fnProgReads", apart := false, narrowed := true }
def FnProgReadsUptoSaid : Prop := fnProgReadsUptoRow.holds Try.pinned (OpenSpec.upto fnProgReadsSpec)

/-- 'laws.FnSeenThree', WHERE WHAT IT READS IS OF BULK AT MOST 1048576: true; the input reads as it did. -/
def fnSeenThreeUptoRow : OpenClaim := { program := "ytnonfdhkmoihaaa", sum := "6ccc56144248c090e234a80c09083e45773b841d2ac68938e00b3f6103f3f342", func := "loop.example/fathomline/laws.FnSeenThree", spec := "fnSeenThree", apart := false, narrowed := true }
def FnSeenThreeUptoSaid : Prop := fnSeenThreeUptoRow.holds Try.pinned (OpenSpec.upto fnSeenThreeSpec)

/-- 'laws.FnExecEvents', WHERE WHAT IT READS IS OF BULK AT MOST 1048576: true; the input reads as it did. -/
def fnExecEventsUptoRow : OpenClaim := { program := "ytnonfdhkmoihaaa", sum := "6ccc56144248c090e234a80c09083e45773b841d2ac68938e00b3f6103f3f342", func := "loop.example/fathomline/laws.FnExecEvents", spec := "fnExecEvents", apart := false, narrowed := true }
def FnExecEventsUptoSaid : Prop := fnExecEventsUptoRow.holds Try.pinned (OpenSpec.upto fnExecEventsSpec)

/-- 'laws.FnSeenOrder', WHERE WHAT IT READS IS OF BULK AT MOST 1048576: true; the input reads as it did. -/
def fnSeenOrderUptoRow : OpenClaim := { program := "ytnonfdhkmoihaaa", sum := "6ccc56144248c090e234a80c09083e45773b841d2ac68938e00b3f6103f3f342", func := "loop.example/fathomline/laws.FnSeenOrder", spec := "fnSeenOrder", apart := false, narrowed := true }
def FnSeenOrderUptoSaid : Prop := fnSeenOrderUptoRow.holds Try.pinned (OpenSpec.upto fnSeenOrderSpec)

end Rows
end Go.Proofs.Ytnonfdhkmoihaaa
