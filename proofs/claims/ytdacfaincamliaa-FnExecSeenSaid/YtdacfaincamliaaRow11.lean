/- The row of the law FnExecSeen: for every input it answers true. Conditions: none. -/
import Derived.Test.YtdacfaincamliaaHead
import Derived.Test.YtdacfaincamliaaG11
import Derived.Test.YtdacfaincamliaaQ11
import Derived.Test.YtdacfaincamliaaEvRow
import Derived.WalkKit
import Derived.ProofKit
import Derived.OpenShut
import Derived.ShutString
import Derived.ChangeOld
import Derived.Below
import Derived.SizedLaws
namespace Go.Proofs.Ytdacfaincamliaa.fnExecSeen
open Go Go.ChangeShapes Go.WideShapes Go.ChangeAt Go.RowKit Go.Proofs.Ytdacfaincamliaa.Ev
set_option linter.unusedVariables false
theorem own : ownKnob Try.prog.godebug = none := by kernel_rfl
theorem laidOut : laidOutB Try.prog = true := head_laid
theorem inPl : Try.prog.inPlace 11 = Rows.fnExecSeenRow.inPlace := by kernel_rfl
theorem unfo : Try.prog.unfollowed 11 = Rows.fnExecSeenRow.unfollowed := by kernel_rfl
theorem recu : Try.prog.recurses 11 = Rows.fnExecSeenRow.recurses := by kernel_rfl
theorem nams : Try.prog.varsNamed 11 = Rows.fnExecSeenRow.named := by kernel_rfl
theorem parOk : paramsOk Try.prog Try.f11.params.toList [.c false (.v true (.rs 5 (.int .u8)))] = true := by kernel_rfl
set_option maxRecDepth 100000 in
theorem lifted (os : Os) (started : os.Started) (H : Type) (enc : TypeId × Value → H) :
    ReturnsInHanded {} Try.checked os 11 .any (Rows.fnExecSeenSpec.pre6 enc Try.prog Try.f11 Rows.fnExecSeenRow.domain false) (Rows.fnExecSeenSpec.post enc Try.prog Try.f11 false true false false) := by
  refine returnsInHanded_of_change_sized (C := Try.checked) own started (by kernel_rfl) Try.func11
    (ChangeSpec.witness6 (enc := enc) (C := Try.checked) false ⟨#[], #[.slice none 0 0], []⟩ 8 (by kernel_rfl) (by kernel_rfl) (by kernel_rfl) (by kernel_rfl)) ?_
  intro W base args ds gs before hval0 hW hcnd hsz0 _
  have hval : ∀ (j : Nat) t v, Try.f11.params[j]? = some t → args[j]? = some v → Value.okWide Try.prog W .any base t v := hval0
  have hW' := hW
  obtain ⟨p, q, hA0, hV, rfl, hfz, hnd⟩ := hW
  have hA : DataW.TrodAll enc Try.prog W 0 (fun _ => true) true Try.f11.params.toList args.toList ds p := hA0
  obtain ⟨xs, hx, hg⟩ := args_open (ps := [.c false (.v true (.rs 5 (.int .u8)))]) (k := 0) (r := .any) (b := base) parOk hA (fun j t v h1 h2 => hval j t v (by rwa [Array.getElem?_toList] at h1) (by rwa [Array.getElem?_toList] at h2))
  have hB := fun (W' : World) (bel : Below W.heap.size W W') => args_back (ps := [.c false (.v true (.rs 5 (.int .u8)))]) laidOut bel parOk hA
  rw [Try.params11] at hA
  obtain ⟨v0, vs0, d0, ds0, p0, q0, hh0, rfl, rfl, h0, r0⟩ := trodAll_cons hA
  obtain ⟨_, rfl, rfl⟩ := trodAll_nil r0
  obtain ⟨rfl, rfl⟩ := trodVars_none hV
  clear hA0 hval0 hsz0
  obtain ⟨k, hk⟩ := pure_FnExecSeen xs hg
  refine (law_calls (tb11_ok k) (body_la (by kernel_rfl : Try.f11.body = some code11) (la11 k)) Try.func11 (ps := [.c false (.v true (.rs 5 (.int .u8)))]) (paramsOk_mut parOk) (xs := xs) (out := (true, ())) rfl ((ev11 k xs).trans hk) hx).mono fun e W' ⟨he, bel⟩ => ?_
  subst he
  exact ⟨_, rfl, _, _, _, [], _, [], hW', trodAll_mk1 (shut_bool Try.underlying4 _), hB W' bel, rfl, bel.frame _, fun h => by cases h⟩
theorem over : Rows.fnExecSeenRow.holds Try.pinned (OpenSpec.ofChange Rows.fnExecSeenSpec) :=
  OpenClaim.holds_of_wide 11 Try.f11 rfl rfl rfl rfl rfl rfl rfl ⟨rfl, rfl, rfl, rfl, rfl⟩ rfl rfl rfl rfl rfl (by kernel_rfl) Try.func11
    (facts Try.prog 11 Try.f11 Rows.fnExecSeenSpec Rows.fnExecSeenRow head_laid head_rowed head_heard head_mayEnter head_liftsFinal head_make inPl unfo recu nams (by kernel_rfl))
    (of_decide_eq_true (by kernel_rfl)) (by unfold Func.isWrapper; first | (rw [if_pos (by decide +kernel)]; kernel_rfl) | (rw [if_neg (by decide +kernel)]; exact ⟨rfl, rfl⟩))
    (fun os started H enc _ => lifted os started H enc)
theorem proved : Rows.FnExecSeenSaid := over
#print axioms proved
end Go.Proofs.Ytdacfaincamliaa.fnExecSeen
namespace Go.Proofs.Ytdacfaincamliaa
/-- The row, under a short name, for the claim. -/
theorem fnExecSeen_holds : Rows.FnExecSeenSaid := fnExecSeen.proved
end Go.Proofs.Ytdacfaincamliaa
