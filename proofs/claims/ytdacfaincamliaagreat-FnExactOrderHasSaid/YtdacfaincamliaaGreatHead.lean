/- The head of the translated program, sign by sign, and what the rows ask of it. Conditions: none. -/
import Derived.Test.YtdacfaincamliaaGreatRows
import Derived.JoinedOf
import Derived.KernelRfl
namespace Go.Proofs.YtdacfaincamliaaGreat
open Go
def headSigns : List Char := ([104, 97, 114, 110, 101, 115, 115, 32, 53, 99, 102, 102, 99, 99, 57, 52, 51, 56, 52, 51, 57, 55, 52, 56, 50, 97, 102, 48, 51, 50, 57, 54, 50, 99, 54, 53, 54, 53, 56, 101, 53, 97, 54, 100, 102, 57, 101, 50, 101, 51, 49, 53, 50, 50, 100, 48, 52, 99, 48, 52, 49, 97, 101, 54, 54, 56, 99, 48, 50, 55, 53, 97, 32, 99, 117, 116, 32, 97, 116, 32, 108, 111, 111, 112, 46, 101, 120, 97, 109, 112, 108, 101, 47, 102, 97, 116, 104, 111, 109, 108, 105, 110, 101, 47, 108, 97, 119, 115, 46, 70, 110, 69, 120, 97, 99, 116, 79, 114, 100, 101, 114, 72, 97, 115] : List Nat).map Char.ofNat
def headWords : List (List Char) := ([[99, 117, 116], [97, 116], [108, 111, 111, 112, 46, 101, 120, 97, 109, 112, 108, 101, 47, 102, 97, 116, 104, 111, 109, 108, 105, 110, 101, 47, 108, 97, 119, 115, 46, 70, 110, 69, 120, 97, 99, 116, 79, 114, 100, 101, 114, 72, 97, 115]] : List (List Nat)).map fun l => l.map Char.ofNat
theorem head_eq : Tryz.prog.initOrder = String.ofList headSigns := by kernel_rfl
theorem head_list : Tryz.prog.initOrder.toList = headSigns := by rw [head_eq, String.toList_ofList]
theorem head_words : behindMainWord (wordsSigns headSigns) = headWords := by kernel_rfl
theorem head_behind : behindMainWord (wordsSigns Tryz.prog.initOrder.toList) = headWords := by rw [head_list]; exact head_words
theorem head_lifts : Tryz.prog.headLifts = [] := by unfold Program.headLifts; rw [head_list, head_words]; kernel_rfl
theorem head_liftsFinal : Tryz.prog.liftsFinal = false := by unfold Program.liftsFinal; rw [head_list, head_lifts, head_words]; kernel_rfl
theorem make_cut (P : Program) {c : List Char} {r : List (List Char)} (h : behindMainWord (wordsSigns P.initOrder.toList) = c :: r) (hc : c = "cut".toList) : P.make = some .cut := by
  unfold Program.make
  rw [h]
  subst hc
  rfl
theorem mayEnter_cut (P : Program) {c : List Char} {r : List (List Char)} (h : behindMainWord (wordsSigns P.initOrder.toList) = c :: r) (hc : c = "cut".toList) (hl : P.laysLater = false) (hb : P.bearsReflect = false) (hd : P.doorFits [] = true) : P.mayEnter = true := by
  unfold Program.mayEnter
  rw [h]
  subst hc
  have hs : stripLifts liftWords ("cut".toList :: r) = ([], "cut".toList :: r) := rfl
  simp only [hs, hl, hb, hd]
  rfl
theorem head_make : Tryz.prog.make = some .cut := make_cut Tryz.prog (show _ = _ :: _ from head_behind) (by kernel_rfl)
theorem head_lays : Tryz.prog.laysLater = false := by kernel_rfl
theorem head_bears : Tryz.prog.bearsReflect = false := by kernel_rfl
theorem head_door : Tryz.prog.doorFits [] = true := by kernel_rfl
theorem head_mayEnter : Tryz.prog.mayEnter = true := mayEnter_cut Tryz.prog (show _ = _ :: _ from head_behind) (by kernel_rfl) head_lays head_bears head_door
theorem head_laid : laidOutB Tryz.prog = true := by kernel_rfl
theorem head_rowed : mapsRowed Tryz.prog = true := by kernel_rfl
theorem head_heard : Tryz.prog.stopsHeard = true := by kernel_rfl
/-- What a row asks of the program, its heavy parts given. -/
theorem facts (P : Program) (f : FuncId) (fn : Func) (s : ChangeSpec) (c : OpenClaim) (h1 : laidOutB P = true) (h2 : mapsRowed P = true) (h3 : P.stopsHeard = true) (h4 : P.mayEnter = true) (h5 : P.liftsFinal = false) (h6 : P.make = some .cut)
    (i1 : P.inPlace f = c.inPlace) (i2 : P.unfollowed f = c.unfollowed) (i3 : P.recurses f = c.recurses) (i4 : P.varsNamed f = c.named)
    (k : (c.wf (OpenSpec.ofChange s) && fn.params.all (P.readableRec ·) && namedTie P c.named s.vars && (c.stops == []) && (P.stops == []) && (c.knobs == []) && (P.stopKnobs == []) &&
      (c.maps == (fn.params.toList ++ s.plain.varTypes P).any (P.mapsRec ·)) && (c.ifaces == (fn.params.toList ++ s.plain.varTypes P).any (P.ifacesRec ·)) && (c.mapsOut == P.mapsAmong fn.resultTypes.toList) &&
      (c.loops == (fn.params.toList ++ s.plain.varTypes P).any (P.loopsFrom ·)) && (c.wideKeys == (fn.params.toList ++ s.plain.varTypes P ++ fn.resultTypes.toList).any (P.wideKeysFrom ·)) &&
      s.vars.all (P.varReadable ·) && fn.resultTypes.all (fun t => P.readableRec t && decide (t < P.types.size)) && (c.ifacesOut == fn.resultTypes.toList.any (P.ifacesRec ·)) && (c.loopsOut == fn.resultTypes.toList.any (P.loopsFrom ·)) && (c.plainKeys == P.plainKeys) && c.shortTexts.isNone &&
      (c.lifted == false) && (some Make.cut == some c.make) && (c.kinds == (if c.domain.isEmpty then [] else fn.params.toList.map fun t => match P.underlying t with | some (.int k) => some k | _ => none)) && (c.pinned == c.pinnedBy) &&
      (c.veiled == (fn.params.toList ++ s.plain.varTypes P ++ fn.resultTypes.toList).any (P.veiledRec ·)) && c.veiledFits P fn.params.toList (fn.params.toList ++ s.plain.varTypes P ++ fn.resultTypes.toList)) = true) : joinedFacts P f fn s c = true := by
  simp only [Bool.and_eq_true] at k
  simp only [joinedFacts, h1, h2, h3, h4, h5, h6, i1, i2, i3, i4, k, Bool.and_eq_true, beq_self_eq_true, and_self]
  exact ⟨⟨⟨⟨trivial, k.1.1.1.2⟩, trivial⟩, trivial⟩, trivial⟩
end Go.Proofs.YtdacfaincamliaaGreat
