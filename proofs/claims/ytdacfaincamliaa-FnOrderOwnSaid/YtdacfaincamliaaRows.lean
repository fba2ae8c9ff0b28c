/-
  No cell of these rows narrows 'for every input' (looked for: loops, veiled, ifaces, maps, wideKeys, modest, calm, conditions, laid).
  DERIVED. THE GIVEN ROWS OF THIS SEAT. 11 by the template 'for every input the law returns true; each argument reads behind the call as it read before'; 0 by the template 'total and deterministic' (their statements: YtdacfaincamliaaTotals.lean).
  GIVEN WITH THE SEED: the statements are not yours to turn. If you find one false, say at which input.
  Laid BY PROGRAM, IN A SANDBOX (cutbox-rows.mjs): the forced cells as the released guide's own fill.sh prints them over the translation 8362c8b4f80f40e9… (all of the seat's roots in one cut). By AI agents, Wed Nov 11 2026. No macro, syntax, notation, axiom, sorry.
-/
import Derived.Test.YtdacfaincamliaaChecked
import GoSem.Claim
import GoSem.ClaimJoined
import GoSem.ClaimMapViews
import Derived.JoinedTies
import Derived.KernelRfl
namespace Go.Proofs.Ytdacfaincamliaa
/- THE CELL 'sum', in the pinned program and in every row, IS THE sha256 OF THE DUMP (.gsa) THAT YtdacfaincamliaaProg.lean LOADS. Nothing in Lean hashes anything: it is a label: what it is worth is what the hold of that sum in a sandbox is worth. -/
noncomputable def Try.pinned : Pinned := { name := "ytdacfaincamliaa", sum := "8362c8b4f80f40e95dcaa4b9c04a64c5f5767e82dfd26226d5cb557260bbe224", checked := Try.checked }
namespace Rows
def none {H : Type} : Left H := { results := [], args := [] }

/-- 'laws.FnExactMachSome': WHATEVER THE INPUT: true; the input reads as it did. -/
def fnExactMachSomeSpec : ChangeSpec := { name := "fnExactMachSome", fn := fun _ => fun
  | [d1, d2] => { results := [.lit (.bool true)], args := [d1, d2] }
  | _ => none }
def fnExactMachSomeRow : OpenClaim := { program := "ytdacfaincamliaa", sum := "8362c8b4f80f40e95dcaa4b9c04a64c5f5767e82dfd26226d5cb557260bbe224", func := "loop.example/fathomline/laws.FnExactMachSome", spec := "fnExactMachSome", apart := false }
def FnExactMachSomeSaid : Prop := fnExactMachSomeRow.holds Try.pinned (OpenSpec.ofChange fnExactMachSomeSpec)

/-- ITS FALSE NEIGHBOUR: 'it returns false'. Refute it at one input. -/
def fnExactMachSomeWrong : ChangeSpec := { name := "fnExactMachSome", fn := fun _ => fun
  | [d1, d2] => { results := [.lit (.bool false)], args := [d1, d2] }
  | _ => none }
def FnExactMachSomeWrongFalsely : Prop := fnExactMachSomeRow.holds Try.pinned (OpenSpec.ofChange fnExactMachSomeWrong)

/-- 'laws.FnExactMachTurns': WHATEVER THE INPUT: true; the input reads as it did. -/
def fnExactMachTurnsSpec : ChangeSpec := { name := "fnExactMachTurns", fn := fun _ => fun
  | [d1, d2] => { results := [.lit (.bool true)], args := [d1, d2] }
  | _ => none }
def fnExactMachTurnsRow : OpenClaim := { program := "ytdacfaincamliaa", sum := "8362c8b4f80f40e95dcaa4b9c04a64c5f5767e82dfd26226d5cb557260bbe224", func := "loop.example/fathomline/laws.FnExactMachTurns", spec := "fnExactMachTurns", apart := false }
def FnExactMachTurnsSaid : Prop := fnExactMachTurnsRow.holds Try.pinned (OpenSpec.ofChange fnExactMachTurnsSpec)

/-- ITS FALSE NEIGHBOUR: 'it returns false'. Refute it at one input. -/
def fnExactMachTurnsWrong : ChangeSpec := { name := "fnExactMachTurns", fn := fun _ => fun
  | [d1, d2] => { results := [.lit (.bool false)], args := [d1, d2] }
  | _ => none }
def FnExactMachTurnsWrongFalsely : Prop := fnExactMachTurnsRow.holds Try.pinned (OpenSpec.ofChange fnExactMachTurnsWrong)

/-- 'laws.FnExactExecOk': WHATEVER THE INPUT: true; the input reads as it did. -/
def fnExactExecOkSpec : ChangeSpec := { name := "fnExactExecOk", fn := fun _ => fun
  | [d1, d2] => { results := [.lit (.bool true)], args := [d1, d2] }
  | _ => none }
def fnExactExecOkRow : OpenClaim := { program := "ytdacfaincamliaa", sum := "8362c8b4f80f40e95dcaa4b9c04a64c5f5767e82dfd26226d5cb557260bbe224", func := "loop.example/fathomline/laws.FnExactExecOk", spec := "fnExactExecOk", unfollowed := true, recurses := true, apart := false }
def FnExactExecOkSaid : Prop := fnExactExecOkRow.holds Try.pinned (OpenSpec.ofChange fnExactExecOkSpec)

/-- ITS FALSE NEIGHBOUR: 'it returns false'. Refute it at one input. -/
def fnExactExecOkWrong : ChangeSpec := { name := "fnExactExecOk", fn := fun _ => fun
  | [d1, d2] => { results := [.lit (.bool false)], args := [d1, d2] }
  | _ => none }
def FnExactExecOkWrongFalsely : Prop := fnExactExecOkRow.holds Try.pinned (OpenSpec.ofChange fnExactExecOkWrong)

/-- 'laws.FnExecCount': WHATEVER THE INPUT: true; the input reads as it did. -/
def fnExecCountSpec : ChangeSpec := { name := "fnExecCount", fn := fun _ => fun
  | [d] => { results := [.lit (.bool true)], args := [d] }
  | _ => none }
def fnExecCountRow : OpenClaim := { program := "ytdacfaincamliaa", sum := "8362c8b4f80f40e95dcaa4b9c04a64c5f5767e82dfd26226d5cb557260bbe224", func := "loop.example/fathomline/laws.FnExecCount", spec := "fnExecCount", unfollowed := true, recurses := true, apart := false }
def FnExecCountSaid : Prop := fnExecCountRow.holds Try.pinned (OpenSpec.ofChange fnExecCountSpec)

/-- ITS FALSE NEIGHBOUR: 'it returns false'. Refute it at one input. -/
def fnExecCountWrong : ChangeSpec := { name := "fnExecCount", fn := fun _ => fun
  | [d] => { results := [.lit (.bool false)], args := [d] }
  | _ => none }
def FnExecCountWrongFalsely : Prop := fnExecCountRow.holds Try.pinned (OpenSpec.ofChange fnExecCountWrong)

/-- 'laws.FnExecOk': WHATEVER THE INPUT: true; the input reads as it did. -/
def fnExecOkSpec : ChangeSpec := { name := "fnExecOk", fn := fun _ => fun
  | [d] => { results := [.lit (.bool true)], args := [d] }
  | _ => none }
def fnExecOkRow : OpenClaim := { program := "ytdacfaincamliaa", sum := "8362c8b4f80f40e95dcaa4b9c04a64c5f5767e82dfd26226d5cb557260bbe224", func := "loop.example/fathomline/laws.FnExecOk", spec := "fnExecOk", unfollowed := true, recurses := true, apart := false }
def FnExecOkSaid : Prop := fnExecOkRow.holds Try.pinned (OpenSpec.ofChange fnExecOkSpec)

/-- ITS FALSE NEIGHBOUR: 'it returns false'. Refute it at one input. -/
def fnExecOkWrong : ChangeSpec := { name := "fnExecOk", fn := fun _ => fun
  | [d] => { results := [.lit (.bool false)], args := [d] }
  | _ => none }
def FnExecOkWrongFalsely : Prop := fnExecOkRow.holds Try.pinned (OpenSpec.ofChange fnExecOkWrong)

/-- 'laws.FnExecLast': WHATEVER THE INPUT: true; the input reads as it did. -/
def fnExecLastSpec : ChangeSpec := { name := "fnExecLast", fn := fun _ => fun
  | [d] => { results := [.lit (.bool true)], args := [d] }
  | _ => none }
def fnExecLastRow : OpenClaim := { program := "ytdacfaincamliaa", sum := "8362c8b4f80f40e95dcaa4b9c04a64c5f5767e82dfd26226d5cb557260bbe224", func := "loop.example/fathomline/laws.FnExecLast", spec := "fnExecLast", unfollowed := true, recurses := true, apart := false }
def FnExecLastSaid : Prop := fnExecLastRow.holds Try.pinned (OpenSpec.ofChange fnExecLastSpec)

/-- ITS FALSE NEIGHBOUR: 'it returns false'. Refute it at one input. -/
def fnExecLastWrong : ChangeSpec := { name := "fnExecLast", fn := fun _ => fun
  | [d] => { results := [.lit (.bool false)], args := [d] }
  | _ => none }
def FnExecLastWrongFalsely : Prop := fnExecLastRow.holds Try.pinned (OpenSpec.ofChange fnExecLastWrong)

/-- 'laws.FnExecFrom': WHATEVER THE INPUT: true; the input reads as it did. -/
def fnExecFromSpec : ChangeSpec := { name := "fnExecFrom", fn := fun _ => fun
  | [d] => { results := [.lit (.bool true)], args := [d] }
  | _ => none }
def fnExecFromRow : OpenClaim := { program := "ytdacfaincamliaa", sum := "8362c8b4f80f40e95dcaa4b9c04a64c5f5767e82dfd26226d5cb557260bbe224", func := "loop.example/fathomline/laws.FnExecFrom", spec := "fnExecFrom", unfollowed := true, recurses := true, apart := false }
def FnExecFromSaid : Prop := fnExecFromRow.holds Try.pinned (OpenSpec.ofChange fnExecFromSpec)

/-- ITS FALSE NEIGHBOUR: 'it returns false'. Refute it at one input. -/
def fnExecFromWrong : ChangeSpec := { name := "fnExecFrom", fn := fun _ => fun
  | [d] => { results := [.lit (.bool false)], args := [d] }
  | _ => none }
def FnExecFromWrongFalsely : Prop := fnExecFromRow.holds Try.pinned (OpenSpec.ofChange fnExecFromWrong)

/-- 'laws.FnOrderOwn': WHATEVER THE INPUT: true; the input reads as it did. -/
def fnOrderOwnSpec : ChangeSpec := { name := "fnOrderOwn", fn := fun _ => fun
  | [d] => { results := [.lit (.bool true)], args := [d] }
  | _ => none }
def fnOrderOwnRow : OpenClaim := { program := "ytdacfaincamliaa", sum := "8362c8b4f80f40e95dcaa4b9c04a64c5f5767e82dfd26226d5cb557260bbe224", func := "loop.example/fathomline/laws.FnOrderOwn", spec := "fnOrderOwn", unfollowed := true, recurses := true, apart := false }
def FnOrderOwnSaid : Prop := fnOrderOwnRow.holds Try.pinned (OpenSpec.ofChange fnOrderOwnSpec)

/-- ITS FALSE NEIGHBOUR: 'it returns false'. Refute it at one input. -/
def fnOrderOwnWrong : ChangeSpec := { name := "fnOrderOwn", fn := fun _ => fun
  | [d] => { results := [.lit (.bool false)], args := [d] }
  | _ => none }
def FnOrderOwnWrongFalsely : Prop := fnOrderOwnRow.holds Try.pinned (OpenSpec.ofChange fnOrderOwnWrong)

/-- 'laws.FnExecSeen': WHATEVER THE INPUT: true; the input reads as it did. -/
def fnExecSeenSpec : ChangeSpec := { name := "fnExecSeen", fn := fun _ => fun
  | [d] => { results := [.lit (.bool true)], args := [d] }
  | _ => none }
def fnExecSeenRow : OpenClaim := { program := "ytdacfaincamliaa", sum := "8362c8b4f80f40e95dcaa4b9c04a64c5f5767e82dfd26226d5cb557260bbe224", func := "loop.example/fathomline/laws.FnExecSeen", spec := "fnExecSeen", unfollowed := true, recurses := true, apart := false }
def FnExecSeenSaid : Prop := fnExecSeenRow.holds Try.pinned (OpenSpec.ofChange fnExecSeenSpec)

/-- ITS FALSE NEIGHBOUR: 'it returns false'. Refute it at one input. -/
def fnExecSeenWrong : ChangeSpec := { name := "fnExecSeen", fn := fun _ => fun
  | [d] => { results := [.lit (.bool false)], args := [d] }
  | _ => none }
def FnExecSeenWrongFalsely : Prop := fnExecSeenRow.holds Try.pinned (OpenSpec.ofChange fnExecSeenWrong)

/-- 'laws.FnExactExecSeen': WHATEVER THE INPUT: true; the input reads as it did. -/
def fnExactExecSeenSpec : ChangeSpec := { name := "fnExactExecSeen", fn := fun _ => fun
  | [d1, d2] => { results := [.lit (.bool true)], args := [d1, d2] }
  | _ => none }
def fnExactExecSeenRow : OpenClaim := { program := "ytdacfaincamliaa", sum := "8362c8b4f80f40e95dcaa4b9c04a64c5f5767e82dfd26226d5cb557260bbe224", func := "loop.example/fathomline/laws.FnExactExecSeen", spec := "fnExactExecSeen", unfollowed := true, recurses := true, apart := false }
def FnExactExecSeenSaid : Prop := fnExactExecSeenRow.holds Try.pinned (OpenSpec.ofChange fnExactExecSeenSpec)

/-- ITS FALSE NEIGHBOUR: 'it returns false'. Refute it at one input. -/
def fnExactExecSeenWrong : ChangeSpec := { name := "fnExactExecSeen", fn := fun _ => fun
  | [d1, d2] => { results := [.lit (.bool false)], args := [d1, d2] }
  | _ => none }
def FnExactExecSeenWrongFalsely : Prop := fnExactExecSeenRow.holds Try.pinned (OpenSpec.ofChange fnExactExecSeenWrong)

/-- 'laws.FnExactExecAll': WHATEVER THE INPUT: true; the input reads as it did. -/
def fnExactExecAllSpec : ChangeSpec := { name := "fnExactExecAll", fn := fun _ => fun
  | [d] => { results := [.lit (.bool true)], args := [d] }
  | _ => none }
def fnExactExecAllRow : OpenClaim := { program := "ytdacfaincamliaa", sum := "8362c8b4f80f40e95dcaa4b9c04a64c5f5767e82dfd26226d5cb557260bbe224", func := "loop.example/fathomline/laws.FnExactExecAll", spec := "fnExactExecAll", unfollowed := true, recurses := true, apart := false }
def FnExactExecAllSaid : Prop := fnExactExecAllRow.holds Try.pinned (OpenSpec.ofChange fnExactExecAllSpec)

/-- ITS FALSE NEIGHBOUR: 'it returns false'. Refute it at one input. -/
def fnExactExecAllWrong : ChangeSpec := { name := "fnExactExecAll", fn := fun _ => fun
  | [d] => { results := [.lit (.bool false)], args := [d] }
  | _ => none }
def FnExactExecAllWrongFalsely : Prop := fnExactExecAllRow.holds Try.pinned (OpenSpec.ofChange fnExactExecAllWrong)

/- THE SECOND FORM. 'bulk': how many values and letters a reading holds, each counted each time it is reached (what is shared counts as often as it is met; a slice's spare places count too). A statement '..UptoSaid' is the law's where the arguments, and the package variables that the reading takes, are together of bulk at most 1048576: NARROWER than '..Said'. Prove '..Said' where nothing that the law and all that it calls make is longer than what came in: it says more and counts as full. Else prove '..UptoSaid'. A law counts once. -/
mutual
def uptoBulk {H : Type} : DataW H → Nat
  | .lit (.string bytes) => bytes.length + 1
  | .lit _ => 1
  | .nil => 1
  | .ptr d => uptoBulk d + 1
  | .slice elems spare => uptoBulkAll elems + uptoBulkAll spare + 1
  | .agg parts => uptoBulkAll parts + 1
  | .iface _ d => uptoBulk d + 1
  | .map entries => uptoBulkEntries entries + 1
  | .held _ => 1
def uptoBulkAll {H : Type} : List (DataW H) → Nat
  | [] => 0
  | d :: r => uptoBulk d + uptoBulkAll r
def uptoBulkEntries {H : Type} : List (Lit × DataW H) → Nat
  | [] => 0
  | x :: r => uptoBulkEntry x + uptoBulkEntries r
def uptoBulkEntry {H : Type} : Lit × DataW H → Nat
  | (.string bytes, d) => bytes.length + uptoBulk d + 1
  | (_, d) => uptoBulk d + 1
 end
def uptoSmall : (H : Type) → List (DataW H) → Bool := fun _ ds => decide (uptoBulkAll ds ≤ 1048576)
def OpenSpec.upto (s : _root_.Go.ChangeSpec) : _root_.Go.OpenSpec := { _root_.Go.OpenSpec.ofChange s with cond := some uptoSmall }

/-- 'laws.FnExactMachSome', WHERE WHAT IT READS IS OF BULK AT MOST 1048576: true; the input reads as it did. -/
def fnExactMachSomeUptoRow : OpenClaim := { program := "ytdacfaincamliaa", sum := "8362c8b4f80f40e95dcaa4b9c04a64c5f5767e82dfd26226d5cb557260bbe224", func := "loop.example/fathomline/laws.FnExactMachSome", spec := "fnExactMachSome", apart := false, narrowed := true }
def FnExactMachSomeUptoSaid : Prop := fnExactMachSomeUptoRow.holds Try.pinned (OpenSpec.upto fnExactMachSomeSpec)

/-- 'laws.FnExactMachTurns', WHERE WHAT IT READS IS OF BULK AT MOST 1048576: true; the input reads as it did. -/
def fnExactMachTurnsUptoRow : OpenClaim := { program := "ytdacfaincamliaa", sum := "8362c8b4f80f40e95dcaa4b9c04a64c5f5767e82dfd26226d5cb557260bbe224", func := "loop.example/fathomline/laws.FnExactMachTurns", spec := "fnExactMachTurns", apart := false, narrowed := true }
def FnExactMachTurnsUptoSaid : Prop := fnExactMachTurnsUptoRow.holds Try.pinned (OpenSpec.upto fnExactMachTurnsSpec)

/-- 'laws.FnExactExecOk', WHERE WHAT IT READS IS OF BULK AT MOST 1048576: true; the input reads as it did. -/
def fnExactExecOkUptoRow : OpenClaim := { program := "ytdacfaincamliaa", sum := "8362c8b4f80f40e95dcaa4b9c04a64c5f5767e82dfd26226d5cb557260bbe224", func := "loop.example/fathomline/laws.FnExactExecOk", spec := "fnExactExecOk", unfollowed := true, recurses := true, apart := false, narrowed := true }
def FnExactExecOkUptoSaid : Prop := fnExactExecOkUptoRow.holds Try.pinned (OpenSpec.upto fnExactExecOkSpec)

/-- 'laws.FnExecCount', WHERE WHAT IT READS IS OF BULK AT MOST 1048576: true; the input reads as it did. -/
def fnExecCountUptoRow : OpenClaim := { program := "ytdacfaincamliaa", sum := "8362c8b4f80f40e95dcaa4b9c04a64c5f5767e82dfd26226d5cb557260bbe224", func := "loop.example/fathomline/laws.FnExecCount", spec := "fnExecCount", unfollowed := true, recurses := true, apart := false, narrowed := true }
def FnExecCountUptoSaid : Prop := fnExecCountUptoRow.holds Try.pinned (OpenSpec.upto fnExecCountSpec)

/-- 'laws.FnExecOk', WHERE WHAT IT READS IS OF BULK AT MOST 1048576: true; the input reads as it did. -/
def fnExecOkUptoRow : OpenClaim := { program := "ytdacfaincamliaa", sum := "8362c8b4f80f40e95dcaa4b9c04a64c5f5767e82dfd26226d5cb557260bbe224", func := "loop.example/fathomline/laws.FnExecOk", spec := "fnExecOk", unfollowed := true, recurses := true, apart := false, narrowed := true }
def FnExecOkUptoSaid : Prop := fnExecOkUptoRow.holds Try.pinned (OpenSpec.upto fnExecOkSpec)

/-- 'laws.FnExecLast', WHERE WHAT IT READS IS OF BULK AT MOST 1048576: true; the input reads as it did. -/
def fnExecLastUptoRow : OpenClaim := { program := "ytdacfaincamliaa", sum := "8362c8b4f80f40e95dcaa4b9c04a64c5f5767e82dfd26226d5cb557260bbe224", func := "loop.example/fathomline/laws.FnExecLast", spec := "fnExecLast", unfollowed := true, recurses := true, apart := false, narrowed := true }
def FnExecLastUptoSaid : Prop := fnExecLastUptoRow.holds Try.pinned (OpenSpec.upto fnExecLastSpec)

/-- 'laws.FnExecFrom', WHERE WHAT IT READS IS OF BULK AT MOST 1048576: true; the input reads as it did. -/
def fnExecFromUptoRow : OpenClaim := { program := "ytdacfaincamliaa", sum := "8362c8b4f80f40e95dcaa4b9c04a64c5f5767e82dfd26226d5cb557260bbe224", func := "loop.example/fathomline/laws.FnExecFrom", spec := "fnExecFrom", unfollowed := true, recurses := true, apart := false, narrowed := true }
def FnExecFromUptoSaid : Prop := fnExecFromUptoRow.holds Try.pinned (OpenSpec.upto fnExecFromSpec)

/-- 'laws.FnOrderOwn', WHERE WHAT IT READS IS OF BULK AT MOST 1048576: true; the input reads as it did. -/
def fnOrderOwnUptoRow : OpenClaim := { program := "ytdacfaincamliaa", sum := "8362c8b4f80f40e95dcaa4b9c04a64c5f5767e82dfd26226d5cb557260bbe224", func := "loop.example/fathomline/laws.FnOrderOwn", spec := "fnOrderOwn", unfollowed := true, recurses := true, apart := false, narrowed := true }
def FnOrderOwnUptoSaid : Prop := fnOrderOwnUptoRow.holds Try.pinned (OpenSpec.upto fnOrderOwnSpec)

/-- 'laws.FnExecSeen', WHERE WHAT IT READS IS OF BULK AT MOST 1048576: true; the input reads as it did. -/
def fnExecSeenUptoRow : OpenClaim := { program := "ytdacfaincamliaa", sum := "8362c8b4f80f40e95dcaa4b9c04a64c5f5767e82dfd26226d5cb557260bbe224", func := "loop.example/fathomline/laws.FnExecSeen", spec := "fnExecSeen", unfollowed := true, recurses := true, apart := false, narrowed := true }
def FnExecSeenUptoSaid : Prop := fnExecSeenUptoRow.holds Try.pinned (OpenSpec.upto fnExecSeenSpec)

/-- 'laws.FnExactExecSeen', WHERE WHAT IT READS IS OF BULK AT MOST 1048576: true; the input reads as it did. -/
def fnExactExecSeenUptoRow : OpenClaim := { program := "ytdacfaincamliaa", sum := "8362c8b4f80f40e95dcaa4b9c04a64c5f5767e82dfd26226d5cb557260bbe224", func := "loop.example/fathomline/laws.FnExactExecSeen", spec := "fnExactExecSeen", unfollowed := true, recurses := true, apart := false, narrowed := true }
def FnExactExecSeenUptoSaid : Prop := fnExactExecSeenUptoRow.holds Try.pinned (OpenSpec.upto fnExactExecSeenSpec)

/-- 'laws.FnExactExecAll', WHERE WHAT IT READS IS OF BULK AT MOST 1048576: true; the input reads as it did. -/
def fnExactExecAllUptoRow : OpenClaim := { program := "ytdacfaincamliaa", sum := "8362c8b4f80f40e95dcaa4b9c04a64c5f5767e82dfd26226d5cb557260bbe224", func := "loop.example/fathomline/laws.FnExactExecAll", spec := "fnExactExecAll", unfollowed := true, recurses := true, apart := false, narrowed := true }
def FnExactExecAllUptoSaid : Prop := fnExactExecAllUptoRow.holds Try.pinned (OpenSpec.upto fnExactExecAllSpec)

end Rows
end Go.Proofs.Ytdacfaincamliaa
