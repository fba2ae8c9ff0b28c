/- The row of the law FnOrderOwn: for every input it answers true. Conditions: none. -/
import Derived.Test.YtdacfaincamliaaHead
import Derived.Test.YtdacfaincamliaaG10
import Derived.Test.YtdacfaincamliaaQ10
import Derived.Test.YtdacfaincamliaaEvRow
import Derived.WalkKit
import Derived.ProofKit
import Derived.OpenShut
import Derived.ShutString
import Derived.ChangeOld
import Derived.Below
import Derived.SizedLaws
namespace Go.Proofs.Ytdacfaincamliaa.fnOrderOwn
open Go Go.ChangeShapes Go.WideShapes Go.ChangeAt Go.RowKit Go.Proofs.Ytdacfaincamliaa.Ev
set_option linter.unusedVariables false
theorem own : ownKnob Try.prog.godebug = none := by kernel_rfl
theorem laidOut : laidOutB Try.prog = true := head_laid
theorem inPl : Try.prog.inPlace 10 = Rows.fnOrderOwnRow.inPlace := by kernel_rfl
theorem unfo : Try.prog.unfollowed 10 = Rows.fnOrderOwnRow.unfollowed := by kernel_rfl
theorem recu : Try.prog.recurses 10 = Rows.fnOrderOwnRow.recurses := by kernel_rfl
theorem nams : Try.prog.varsNamed 10 = Rows.fnOrderOwnRow.named := by kernel_rfl
theorem parOk : paramsOk Try.prog Try.f10.params.toList [.c false (.v true (.rs 5 (.int .u8)))] = true := by kernel_rfl
set_option maxRecDepth 100000 in
theorem lifted (os : Os) (started : os.Started) (H : Type) (enc : TypeId × Value → H) :
    ReturnsInHanded {} Try.checked os 10 .any (Rows.fnOrderOwnSpec.pre6 enc Try.prog Try.f10 Rows.fnOrderOwnRow.domain false) (Rows.fnOrderOwnSpec.post enc Try.prog Try.f10 false true false false) := by
  refine returnsInHanded_of_change_sized (C := Try.checked) own started (by kernel_rfl) Try.func10
    (ChangeSpec.witness6 (enc := enc) (C := Try.checked) false ⟨#[], #[.slice none 0 0], []⟩ 8 (by kernel_rfl) (by kernel_rfl) (by kernel_rfl) (by kernel_rfl)) ?_
  intro W base args ds gs before hval0 hW hcnd hsz0 _
  have hval : ∀ (j : Nat) t v, Try.f10.params[j]? = some t → args[j]? = some v → Value.okWide Try.prog W .any base t v := hval0
  have hW' := hW
  obtain ⟨p, q, hA0, hV, rfl, hfz, hnd⟩ := hW
  have hA : DataW.TrodAll enc Try.prog W 0 (fun _ => true) true Try.f10.params.toList args.toList ds p := hA0
  obtain ⟨xs, hx, hg⟩ := args_open (ps := [.c false (.v true (.rs 5 (.int .u8)))]) (k := 0) (r := .any) (b := base) parOk hA (fun j t v h1 h2 => hval j t v (by rwa [Array.getElem?_toList] at h1) (by rwa [Array.getElem?_toList] at h2))
  have hB := fun (W' : World) (bel : Below W.heap.size W W') => args_back (ps := [.c false (.v true (.rs 5 (.int .u8)))]) laidOut bel parOk hA
  rw [Try.params10] at hA
  obtain ⟨v0, vs0, d0, ds0, p0, q0, hh0, rfl, rfl, h0, r0⟩ := trodAll_cons hA
  obtain ⟨_, rfl, rfl⟩ := trodAll_nil r0
  obtain ⟨rfl, rfl⟩ := trodVars_none hV
  clear hA0 hval0 hsz0
  obtain ⟨k, hk⟩ := pure_FnOrderOwn xs hg
  refine (law_calls (tb10_ok k) (body_la (by kernel_rfl : Try.f10.body = some code10) (la10 k)) Try.func10 (ps := [.c false (.v true (.rs 5 (.int .u8)))]) (paramsOk_mut parOk) (xs := xs) (out := (true, ())) rfl ((ev10 k xs).trans hk) hx).mono fun e W' ⟨he, bel⟩ => ?_
  subst he
  exact ⟨_, rfl, _, _, _, [], _, [], hW', trodAll_mk1 (shut_bool Try.underlying4 _), hB W' bel, rfl, bel.frame _, fun h => by cases h⟩
theorem over : Rows.fnOrderOwnRow.holds Try.pinned (OpenSpec.ofChange Rows.fnOrderOwnSpec) :=
  OpenClaim.holds_of_wide 10 Try.f10 rfl rfl rfl rfl rfl rfl rfl ⟨rfl, rfl, rfl, rfl, rfl⟩ rfl rfl rfl rfl rfl (by kernel_rfl) Try.func10
    (facts Try.prog 10 Try.f10 Rows.fnOrderOwnSpec Rows.fnOrderOwnRow head_laid head_rowed head_heard head_mayEnter head_liftsFinal head_make inPl unfo recu nams (by kernel_rfl))
    (of_decide_eq_true (by kernel_rfl)) (by unfold Func.isWrapper; first | (rw [if_pos (by decide +kernel)]; kernel_rfl) | (rw [if_neg (by decide +kernel)]; exact ⟨rfl, rfl⟩))
    (fun os started H enc _ => lifted os started H enc)
theorem proved : Rows.FnOrderOwnSaid := over
#print axioms proved
end Go.Proofs.Ytdacfaincamliaa.fnOrderOwn
namespace Go.Proofs.Ytdacfaincamliaa
/-- The row, under a short name, for the claim. -/
theorem fnOrderOwn_holds : Rows.FnOrderOwnSaid := fnOrderOwn.proved
end Go.Proofs.Ytdacfaincamliaa
