/- The head of the translated program, sign by sign, and what the rows ask of it. Conditions: none. -/
import Derived.Test.YtdacfaincamliaaRows
import Derived.JoinedOf
import Derived.KernelRfl
namespace Go.Proofs.Ytdacfaincamliaa
open Go
def headSigns : List Char := ([104, 97, 114, 110, 101, 115, 115, 32, 100, 97, 53, 57, 56, 57, 99, 50, 102, 99, 52, 100, 100, 97, 98, 97, 51, 99, 55, 57, 56, 100, 57, 50, 51, 54, 49, 52, 101, 52, 100, 102, 98, 102, 101, 98, 101, 101, 101, 102, 97, 56, 54, 49, 49, 101, 100, 55, 48, 55, 48, 49, 50, 48, 100, 102, 52, 101, 100, 53, 53, 52, 100, 56, 32, 99, 117, 116, 32, 97, 116, 32, 108, 111, 111, 112, 46, 101, 120, 97, 109, 112, 108, 101, 47, 102, 97, 116, 104, 111, 109, 108, 105, 110, 101, 47, 108, 97, 119, 115, 46, 70, 110, 69, 120, 97, 99, 116, 77, 97, 99, 104, 83, 111, 109, 101, 32, 108, 111, 111, 112, 46, 101, 120, 97, 109, 112, 108, 101, 47, 102, 97, 116, 104, 111, 109, 108, 105, 110, 101, 47, 108, 97, 119, 115, 46, 70, 110, 69, 120, 97, 99, 116, 77, 97, 99, 104, 84, 117, 114, 110, 115, 32, 108, 111, 111, 112, 46, 101, 120, 97, 109, 112, 108, 101, 47, 102, 97, 116, 104, 111, 109, 108, 105, 110, 101, 47, 108, 97, 119, 115, 46, 70, 110, 69, 120, 97, 99, 116, 69, 120, 101, 99, 79, 107, 32, 108, 111, 111, 112, 46, 101, 120, 97, 109, 112, 108, 101, 47, 102, 97, 116, 104, 111, 109, 108, 105, 110, 101, 47, 108, 97, 119, 115, 46, 70, 110, 69, 120, 101, 99, 67, 111, 117, 110, 116, 32, 108, 111, 111, 112, 46, 101, 120, 97, 109, 112, 108, 101, 47, 102, 97, 116, 104, 111, 109, 108, 105, 110, 101, 47, 108, 97, 119, 115, 46, 70, 110, 69, 120, 101, 99, 79, 107, 32, 108, 111, 111, 112, 46, 101, 120, 97, 109, 112, 108, 101, 47, 102, 97, 116, 104, 111, 109, 108, 105, 110, 101, 47, 108, 97, 119, 115, 46, 70, 110, 69, 120, 101, 99, 76, 97, 115, 116, 32, 108, 111, 111, 112, 46, 101, 120, 97, 109, 112, 108, 101, 47, 102, 97, 116, 104, 111, 109, 108, 105, 110, 101, 47, 108, 97, 119, 115, 46, 70, 110, 69, 120, 101, 99, 70, 114, 111, 109, 32, 108, 111, 111, 112, 46, 101, 120, 97, 109, 112, 108, 101, 47, 102, 97, 116, 104, 111, 109, 108, 105, 110, 101, 47, 108, 97, 119, 115, 46, 70, 110, 79, 114, 100, 101, 114, 79, 119, 110, 32, 108, 111, 111, 112, 46, 101, 120, 97, 109, 112, 108, 101, 47, 102, 97, 116, 104, 111, 109, 108, 105, 110, 101, 47, 108, 97, 119, 115, 46, 70, 110, 69, 120, 101, 99, 83, 101, 101, 110, 32, 108, 111, 111, 112, 46, 101, 120, 97, 109, 112, 108, 101, 47, 102, 97, 116, 104, 111, 109, 108, 105, 110, 101, 47, 108, 97, 119, 115, 46, 70, 110, 69, 120, 97, 99, 116, 69, 120, 101, 99, 83, 101, 101, 110, 32, 108, 111, 111, 112, 46, 101, 120, 97, 109, 112, 108, 101, 47, 102, 97, 116, 104, 111, 109, 108, 105, 110, 101, 47, 108, 97, 119, 115, 46, 70, 110, 69, 120, 97, 99, 116, 69, 120, 101, 99, 65, 108, 108] : List Nat).map Char.ofNat
def headWords : List (List Char) := ([[99, 117, 116], [97, 116], [108, 111, 111, 112, 46, 101, 120, 97, 109, 112, 108, 101, 47, 102, 97, 116, 104, 111, 109, 108, 105, 110, 101, 47, 108, 97, 119, 115, 46, 70, 110, 69, 120, 97, 99, 116, 77, 97, 99, 104, 83, 111, 109, 101], [108, 111, 111, 112, 46, 101, 120, 97, 109, 112, 108, 101, 47, 102, 97, 116, 104, 111, 109, 108, 105, 110, 101, 47, 108, 97, 119, 115, 46, 70, 110, 69, 120, 97, 99, 116, 77, 97, 99, 104, 84, 117, 114, 110, 115], [108, 111, 111, 112, 46, 101, 120, 97, 109, 112, 108, 101, 47, 102, 97, 116, 104, 111, 109, 108, 105, 110, 101, 47, 108, 97, 119, 115, 46, 70, 110, 69, 120, 97, 99, 116, 69, 120, 101, 99, 79, 107], [108, 111, 111, 112, 46, 101, 120, 97, 109, 112, 108, 101, 47, 102, 97, 116, 104, 111, 109, 108, 105, 110, 101, 47, 108, 97, 119, 115, 46, 70, 110, 69, 120, 101, 99, 67, 111, 117, 110, 116], [108, 111, 111, 112, 46, 101, 120, 97, 109, 112, 108, 101, 47, 102, 97, 116, 104, 111, 109, 108, 105, 110, 101, 47, 108, 97, 119, 115, 46, 70, 110, 69, 120, 101, 99, 79, 107], [108, 111, 111, 112, 46, 101, 120, 97, 109, 112, 108, 101, 47, 102, 97, 116, 104, 111, 109, 108, 105, 110, 101, 47, 108, 97, 119, 115, 46, 70, 110, 69, 120, 101, 99, 76, 97, 115, 116], [108, 111, 111, 112, 46, 101, 120, 97, 109, 112, 108, 101, 47, 102, 97, 116, 104, 111, 109, 108, 105, 110, 101, 47, 108, 97, 119, 115, 46, 70, 110, 69, 120, 101, 99, 70, 114, 111, 109], [108, 111, 111, 112, 46, 101, 120, 97, 109, 112, 108, 101, 47, 102, 97, 116, 104, 111, 109, 108, 105, 110, 101, 47, 108, 97, 119, 115, 46, 70, 110, 79, 114, 100, 101, 114, 79, 119, 110], [108, 111, 111, 112, 46, 101, 120, 97, 109, 112, 108, 101, 47, 102, 97, 116, 104, 111, 109, 108, 105, 110, 101, 47, 108, 97, 119, 115, 46, 70, 110, 69, 120, 101, 99, 83, 101, 101, 110], [108, 111, 111, 112, 46, 101, 120, 97, 109, 112, 108, 101, 47, 102, 97, 116, 104, 111, 109, 108, 105, 110, 101, 47, 108, 97, 119, 115, 46, 70, 110, 69, 120, 97, 99, 116, 69, 120, 101, 99, 83, 101, 101, 110], [108, 111, 111, 112, 46, 101, 120, 97, 109, 112, 108, 101, 47, 102, 97, 116, 104, 111, 109, 108, 105, 110, 101, 47, 108, 97, 119, 115, 46, 70, 110, 69, 120, 97, 99, 116, 69, 120, 101, 99, 65, 108, 108]] : List (List Nat)).map fun l => l.map Char.ofNat
theorem head_eq : Try.prog.initOrder = String.ofList headSigns := by kernel_rfl
theorem head_list : Try.prog.initOrder.toList = headSigns := by rw [head_eq, String.toList_ofList]
theorem head_words : behindMainWord (wordsSigns headSigns) = headWords := by kernel_rfl
theorem head_behind : behindMainWord (wordsSigns Try.prog.initOrder.toList) = headWords := by rw [head_list]; exact head_words
theorem head_lifts : Try.prog.headLifts = [] := by unfold Program.headLifts; rw [head_list, head_words]; kernel_rfl
theorem head_liftsFinal : Try.prog.liftsFinal = false := by unfold Program.liftsFinal; rw [head_list, head_lifts, head_words]; kernel_rfl
theorem make_cut (P : Program) {c : List Char} {r : List (List Char)} (h : behindMainWord (wordsSigns P.initOrder.toList) = c :: r) (hc : c = "cut".toList) : P.make = some .cut := by
  unfold Program.make
  rw [h]
  subst hc
  rfl
theorem mayEnter_cut (P : Program) {c : List Char} {r : List (List Char)} (h : behindMainWord (wordsSigns P.initOrder.toList) = c :: r) (hc : c = "cut".toList) (hl : P.laysLater = false) (hb : P.bearsReflect = false) (hd : P.doorFits [] = true) : P.mayEnter = true := by
  unfold Program.mayEnter
  rw [h]
  subst hc
  have hs : stripLifts liftWords ("cut".toList :: r) = ([], "cut".toList :: r) := rfl
  simp only [hs, hl, hb, hd]
  rfl
theorem head_make : Try.prog.make = some .cut := make_cut Try.prog (show _ = _ :: _ from head_behind) (by kernel_rfl)
theorem head_lays : Try.prog.laysLater = false := by kernel_rfl
theorem head_bears : Try.prog.bearsReflect = false := by kernel_rfl
theorem head_door : Try.prog.doorFits [] = true := by kernel_rfl
theorem head_mayEnter : Try.prog.mayEnter = true := mayEnter_cut Try.prog (show _ = _ :: _ from head_behind) (by kernel_rfl) head_lays head_bears head_door
theorem head_laid : laidOutB Try.prog = true := by kernel_rfl
theorem head_rowed : mapsRowed Try.prog = true := by kernel_rfl
theorem head_heard : Try.prog.stopsHeard = true := by kernel_rfl
/-- What a row asks of the program, its heavy parts given. -/
theorem facts (P : Program) (f : FuncId) (fn : Func) (s : ChangeSpec) (c : OpenClaim) (h1 : laidOutB P = true) (h2 : mapsRowed P = true) (h3 : P.stopsHeard = true) (h4 : P.mayEnter = true) (h5 : P.liftsFinal = false) (h6 : P.make = some .cut)
    (i1 : P.inPlace f = c.inPlace) (i2 : P.unfollowed f = c.unfollowed) (i3 : P.recurses f = c.recurses) (i4 : P.varsNamed f = c.named)
    (k : (c.wf (OpenSpec.ofChange s) && fn.params.all (P.readableRec ·) && namedTie P c.named s.vars && (c.stops == []) && (P.stops == []) && (c.knobs == []) && (P.stopKnobs == []) &&
      (c.maps == (fn.params.toList ++ s.plain.varTypes P).any (P.mapsRec ·)) && (c.ifaces == (fn.params.toList ++ s.plain.varTypes P).any (P.ifacesRec ·)) && (c.mapsOut == P.mapsAmong fn.resultTypes.toList) &&
      (c.loops == (fn.params.toList ++ s.plain.varTypes P).any (P.loopsFrom ·)) && (c.wideKeys == (fn.params.toList ++ s.plain.varTypes P ++ fn.resultTypes.toList).any (P.wideKeysFrom ·)) &&
      s.vars.all (P.varReadable ·) && fn.resultTypes.all (fun t => P.readableRec t && decide (t < P.types.size)) && (c.ifacesOut == fn.resultTypes.toList.any (P.ifacesRec ·)) && (c.loopsOut == fn.resultTypes.toList.any (P.loopsFrom ·)) && (c.plainKeys == P.plainKeys) && c.shortTexts.isNone &&
      (c.lifted == false) && (some Make.cut == some c.make) && (c.kinds == (if c.domain.isEmpty then [] else fn.params.toList.map fun t => match P.underlying t with | some (.int k) => some k | _ => none)) && (c.pinned == c.pinnedBy) &&
      (c.veiled == (fn.params.toList ++ s.plain.varTypes P ++ fn.resultTypes.toList).any (P.veiledRec ·)) && c.veiledFits P fn.params.toList (fn.params.toList ++ s.plain.varTypes P ++ fn.resultTypes.toList)) = true) : joinedFacts P f fn s c = true := by
  simp only [Bool.and_eq_true] at k
  simp only [joinedFacts, h1, h2, h3, h4, h5, h6, i1, i2, i3, i4, k, Bool.and_eq_true, beq_self_eq_true, and_self]
  exact ⟨⟨⟨⟨trivial, k.1.1.1.2⟩, trivial⟩, trivial⟩, trivial⟩
end Go.Proofs.Ytdacfaincamliaa
