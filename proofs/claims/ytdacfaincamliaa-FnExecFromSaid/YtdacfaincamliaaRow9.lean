/- The row of the law FnExecFrom: for every input it answers true. Conditions: none. -/
import Derived.Test.YtdacfaincamliaaHead
import Derived.Test.YtdacfaincamliaaG9
import Derived.Test.YtdacfaincamliaaQ9
import Derived.Test.YtdacfaincamliaaEvRow
import Derived.WalkKit
import Derived.ProofKit
import Derived.OpenShut
import Derived.ShutString
import Derived.ChangeOld
import Derived.Below
import Derived.SizedLaws
namespace Go.Proofs.Ytdacfaincamliaa.fnExecFrom
open Go Go.ChangeShapes Go.WideShapes Go.ChangeAt Go.RowKit Go.Proofs.Ytdacfaincamliaa.Ev
set_option linter.unusedVariables false
theorem own : ownKnob Try.prog.godebug = none := by kernel_rfl
theorem laidOut : laidOutB Try.prog = true := head_laid
theorem inPl : Try.prog.inPlace 9 = Rows.fnExecFromRow.inPlace := by kernel_rfl
theorem unfo : Try.prog.unfollowed 9 = Rows.fnExecFromRow.unfollowed := by kernel_rfl
theorem recu : Try.prog.recurses 9 = Rows.fnExecFromRow.recurses := by kernel_rfl
theorem nams : Try.prog.varsNamed 9 = Rows.fnExecFromRow.named := by kernel_rfl
theorem parOk : paramsOk Try.prog Try.f9.params.toList [.c false (.v true (.rs 5 (.int .u8)))] = true := by kernel_rfl
set_option maxRecDepth 100000 in
theorem lifted (os : Os) (started : os.Started) (H : Type) (enc : TypeId × Value → H) :
    ReturnsInHanded {} Try.checked os 9 .any (Rows.fnExecFromSpec.pre6 enc Try.prog Try.f9 Rows.fnExecFromRow.domain false) (Rows.fnExecFromSpec.post enc Try.prog Try.f9 false true false false) := by
  refine returnsInHanded_of_change_sized (C := Try.checked) own started (by kernel_rfl) Try.func9
    (ChangeSpec.witness6 (enc := enc) (C := Try.checked) false ⟨#[], #[.slice none 0 0], []⟩ 8 (by kernel_rfl) (by kernel_rfl) (by kernel_rfl) (by kernel_rfl)) ?_
  intro W base args ds gs before hval0 hW hcnd hsz0 _
  have hval : ∀ (j : Nat) t v, Try.f9.params[j]? = some t → args[j]? = some v → Value.okWide Try.prog W .any base t v := hval0
  have hW' := hW
  obtain ⟨p, q, hA0, hV, rfl, hfz, hnd⟩ := hW
  have hA : DataW.TrodAll enc Try.prog W 0 (fun _ => true) true Try.f9.params.toList args.toList ds p := hA0
  obtain ⟨xs, hx, hg⟩ := args_open (ps := [.c false (.v true (.rs 5 (.int .u8)))]) (k := 0) (r := .any) (b := base) parOk hA (fun j t v h1 h2 => hval j t v (by rwa [Array.getElem?_toList] at h1) (by rwa [Array.getElem?_toList] at h2))
  have hB := fun (W' : World) (bel : Below W.heap.size W W') => args_back (ps := [.c false (.v true (.rs 5 (.int .u8)))]) laidOut bel parOk hA
  rw [Try.params9] at hA
  obtain ⟨v0, vs0, d0, ds0, p0, q0, hh0, rfl, rfl, h0, r0⟩ := trodAll_cons hA
  obtain ⟨_, rfl, rfl⟩ := trodAll_nil r0
  obtain ⟨rfl, rfl⟩ := trodVars_none hV
  clear hA0 hval0 hsz0
  obtain ⟨k, hk⟩ := pure_FnExecFrom xs hg
  refine (law_calls (tb9_ok k) (body_la (by kernel_rfl : Try.f9.body = some code9) (la9 k)) Try.func9 (ps := [.c false (.v true (.rs 5 (.int .u8)))]) (paramsOk_mut parOk) (xs := xs) (out := (true, ())) rfl ((ev9 k xs).trans hk) hx).mono fun e W' ⟨he, bel⟩ => ?_
  subst he
  exact ⟨_, rfl, _, _, _, [], _, [], hW', trodAll_mk1 (shut_bool Try.underlying4 _), hB W' bel, rfl, bel.frame _, fun h => by cases h⟩
theorem over : Rows.fnExecFromRow.holds Try.pinned (OpenSpec.ofChange Rows.fnExecFromSpec) :=
  OpenClaim.holds_of_wide 9 Try.f9 rfl rfl rfl rfl rfl rfl rfl ⟨rfl, rfl, rfl, rfl, rfl⟩ rfl rfl rfl rfl rfl (by kernel_rfl) Try.func9
    (facts Try.prog 9 Try.f9 Rows.fnExecFromSpec Rows.fnExecFromRow head_laid head_rowed head_heard head_mayEnter head_liftsFinal head_make inPl unfo recu nams (by kernel_rfl))
    (of_decide_eq_true (by kernel_rfl)) (by unfold Func.isWrapper; first | (rw [if_pos (by decide +kernel)]; kernel_rfl) | (rw [if_neg (by decide +kernel)]; exact ⟨rfl, rfl⟩))
    (fun os started H enc _ => lifted os started H enc)
theorem proved : Rows.FnExecFromSaid := over
#print axioms proved
end Go.Proofs.Ytdacfaincamliaa.fnExecFrom
namespace Go.Proofs.Ytdacfaincamliaa
/-- The row, under a short name, for the claim. -/
theorem fnExecFrom_holds : Rows.FnExecFromSaid := fnExecFrom.proved
end Go.Proofs.Ytdacfaincamliaa
