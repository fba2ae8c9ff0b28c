/- The row of the law FnExactWallAll: for every input it answers true. Conditions: none. -/
import Derived.Test.YtaehbfaldofmbaaHead
import Derived.Test.YtaehbfaldofmbaaG17
import Derived.Test.YtaehbfaldofmbaaQ17
import Derived.Test.YtaehbfaldofmbaaEvRow
import Derived.WalkKit
import Derived.ProofKit
import Derived.OpenShut
import Derived.ShutString
import Derived.ChangeOld
import Derived.Below
import Derived.SizedLaws
namespace Go.Proofs.Ytaehbfaldofmbaa.fnExactWallAll
open Go Go.ChangeShapes Go.WideShapes Go.ChangeAt Go.RowKit Go.Proofs.Ytaehbfaldofmbaa.Ev
set_option linter.unusedVariables false
theorem own : ownKnob Try.prog.godebug = none := by kernel_rfl
theorem laidOut : laidOutB Try.prog = true := head_laid
theorem inPl : Try.prog.inPlace 17 = Rows.fnExactWallAllRow.inPlace := by kernel_rfl
theorem unfo : Try.prog.unfollowed 17 = Rows.fnExactWallAllRow.unfollowed := by kernel_rfl
theorem recu : Try.prog.recurses 17 = Rows.fnExactWallAllRow.recurses := by kernel_rfl
theorem nams : Try.prog.varsNamed 17 = Rows.fnExactWallAllRow.named := by kernel_rfl
theorem parOk : paramsOk Try.prog Try.f17.params.toList [.c true (.v true (.rs 115 (.rs 130 (.pair (.int .i64) (.pair (.int .i64) (.int .i64))))))] = true := by kernel_rfl
set_option maxRecDepth 100000 in
theorem lifted (os : Os) (started : os.Started) (H : Type) (enc : TypeId × Value → H) :
    ReturnsInHanded {} Try.checked os 17 .any (Rows.fnExactWallAllSpec.pre6 enc Try.prog Try.f17 Rows.fnExactWallAllRow.domain false) (Rows.fnExactWallAllSpec.post enc Try.prog Try.f17 false true false false) := by
  refine returnsInHanded_of_change_sized (C := Try.checked) own started (by kernel_rfl) Try.func17
    (ChangeSpec.witness6 (enc := enc) (C := Try.checked) false ⟨#[], #[.agg #[.slice none 0 0]], []⟩ 8 (by kernel_rfl) (by kernel_rfl) (by kernel_rfl) (by kernel_rfl)) ?_
  intro W base args ds gs before hval0 hW hcnd hsz0 _
  have hval : ∀ (j : Nat) t v, Try.f17.params[j]? = some t → args[j]? = some v → Value.okWide Try.prog W .any base t v := hval0
  have hW' := hW
  obtain ⟨p, q, hA0, hV, rfl, hfz, hnd⟩ := hW
  have hA : DataW.TrodAll enc Try.prog W 0 (fun _ => true) true Try.f17.params.toList args.toList ds p := hA0
  obtain ⟨xs, hx, hg⟩ := args_open (ps := [.c true (.v true (.rs 115 (.rs 130 (.pair (.int .i64) (.pair (.int .i64) (.int .i64))))))]) (k := 0) (r := .any) (b := base) parOk hA (fun j t v h1 h2 => hval j t v (by rwa [Array.getElem?_toList] at h1) (by rwa [Array.getElem?_toList] at h2))
  have hB := fun (W' : World) (bel : Below W.heap.size W W') => args_back (ps := [.c true (.v true (.rs 115 (.rs 130 (.pair (.int .i64) (.pair (.int .i64) (.int .i64))))))]) laidOut bel parOk hA
  rw [Try.params17] at hA
  obtain ⟨v0, vs0, d0, ds0, p0, q0, hh0, rfl, rfl, h0, r0⟩ := trodAll_cons hA
  obtain ⟨_, rfl, rfl⟩ := trodAll_nil r0
  obtain ⟨rfl, rfl⟩ := trodVars_none hV
  clear hA0 hval0 hsz0
  obtain ⟨k, hk⟩ := pure_FnExactWallAll xs hg
  refine (law_calls (tb17_ok k) (body_la (by kernel_rfl : Try.f17.body = some code17) (la17 k)) Try.func17 (ps := [.c true (.v true (.rs 115 (.rs 130 (.pair (.int .i64) (.pair (.int .i64) (.int .i64))))))]) (paramsOk_mut parOk) (xs := xs) (out := (true, ())) rfl ((ev17 k xs).trans hk) hx).mono fun e W' ⟨he, bel⟩ => ?_
  subst he
  exact ⟨_, rfl, _, _, _, [], _, [], hW', trodAll_mk1 (shut_bool Try.underlying4 _), hB W' bel, rfl, bel.frame _, fun h => by cases h⟩
theorem over : Rows.fnExactWallAllRow.holds Try.pinned (OpenSpec.ofChange Rows.fnExactWallAllSpec) :=
  OpenClaim.holds_of_wide 17 Try.f17 rfl rfl rfl rfl rfl rfl rfl ⟨rfl, rfl, rfl, rfl, rfl⟩ rfl rfl rfl rfl rfl (by kernel_rfl) Try.func17
    (facts Try.prog 17 Try.f17 Rows.fnExactWallAllSpec Rows.fnExactWallAllRow head_laid head_rowed head_heard head_mayEnter head_liftsFinal head_make inPl unfo recu nams (by kernel_rfl))
    (of_decide_eq_true (by kernel_rfl)) (by unfold Func.isWrapper; first | (rw [if_pos (by decide +kernel)]; kernel_rfl) | (rw [if_neg (by decide +kernel)]; exact ⟨rfl, rfl⟩))
    (fun os started H enc _ => lifted os started H enc)
theorem proved : Rows.FnExactWallAllSaid := over
#print axioms proved
end Go.Proofs.Ytaehbfaldofmbaa.fnExactWallAll
namespace Go.Proofs.Ytaehbfaldofmbaa
/-- The row, under a short name, for the claim. -/
theorem fnExactWallAll_holds : Rows.FnExactWallAllSaid := fnExactWallAll.proved
end Go.Proofs.Ytaehbfaldofmbaa
