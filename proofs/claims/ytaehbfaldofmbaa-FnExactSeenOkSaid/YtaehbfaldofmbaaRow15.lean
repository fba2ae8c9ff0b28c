/- The row of the law FnExactSeenOk: for every input it answers true. Conditions: none. -/
import Derived.Test.YtaehbfaldofmbaaHead
import Derived.Test.YtaehbfaldofmbaaG15
import Derived.Test.YtaehbfaldofmbaaQ15
import Derived.Test.YtaehbfaldofmbaaEvRow
import Derived.WalkKit
import Derived.ProofKit
import Derived.OpenShut
import Derived.ShutString
import Derived.ChangeOld
import Derived.Below
import Derived.SizedLaws
namespace Go.Proofs.Ytaehbfaldofmbaa.fnExactSeenOk
open Go Go.ChangeShapes Go.WideShapes Go.ChangeAt Go.RowKit Go.Proofs.Ytaehbfaldofmbaa.Ev
set_option linter.unusedVariables false
theorem own : ownKnob Try.prog.godebug = none := by kernel_rfl
theorem laidOut : laidOutB Try.prog = true := head_laid
theorem inPl : Try.prog.inPlace 15 = Rows.fnExactSeenOkRow.inPlace := by kernel_rfl
theorem unfo : Try.prog.unfollowed 15 = Rows.fnExactSeenOkRow.unfollowed := by kernel_rfl
theorem recu : Try.prog.recurses 15 = Rows.fnExactSeenOkRow.recurses := by kernel_rfl
theorem nams : Try.prog.varsNamed 15 = Rows.fnExactSeenOkRow.named := by kernel_rfl
theorem parOk : paramsOk Try.prog Try.f15.params.toList [.c true (.v true (.rs 115 (.rs 130 (.pair (.int .i64) (.pair (.int .i64) (.int .i64)))))), .c true (.v true (.pair (.rs 3 (.int .i64)) (.rs 3 (.int .i64))))] = true := by kernel_rfl
set_option maxRecDepth 100000 in
theorem lifted (os : Os) (started : os.Started) (H : Type) (enc : TypeId × Value → H) :
    ReturnsInHanded {} Try.checked os 15 .any (Rows.fnExactSeenOkSpec.pre6 enc Try.prog Try.f15 Rows.fnExactSeenOkRow.domain false) (Rows.fnExactSeenOkSpec.post enc Try.prog Try.f15 false true false false) := by
  refine returnsInHanded_of_change_sized (C := Try.checked) own started (by kernel_rfl) Try.func15
    (ChangeSpec.witness6 (enc := enc) (C := Try.checked) false ⟨#[], #[.agg #[.slice none 0 0], .agg #[.slice none 0 0, .slice none 0 0]], []⟩ 8 (by kernel_rfl) (by kernel_rfl) (by kernel_rfl) (by kernel_rfl)) ?_
  intro W base args ds gs before hval0 hW hcnd hsz0 _
  have hval : ∀ (j : Nat) t v, Try.f15.params[j]? = some t → args[j]? = some v → Value.okWide Try.prog W .any base t v := hval0
  have hW' := hW
  obtain ⟨p, q, hA0, hV, rfl, hfz, hnd⟩ := hW
  have hA : DataW.TrodAll enc Try.prog W 0 (fun _ => true) true Try.f15.params.toList args.toList ds p := hA0
  obtain ⟨xs, hx, hg⟩ := args_open (ps := [.c true (.v true (.rs 115 (.rs 130 (.pair (.int .i64) (.pair (.int .i64) (.int .i64)))))), .c true (.v true (.pair (.rs 3 (.int .i64)) (.rs 3 (.int .i64))))]) (k := 0) (r := .any) (b := base) parOk hA (fun j t v h1 h2 => hval j t v (by rwa [Array.getElem?_toList] at h1) (by rwa [Array.getElem?_toList] at h2))
  have hB := fun (W' : World) (bel : Below W.heap.size W W') => args_back (ps := [.c true (.v true (.rs 115 (.rs 130 (.pair (.int .i64) (.pair (.int .i64) (.int .i64)))))), .c true (.v true (.pair (.rs 3 (.int .i64)) (.rs 3 (.int .i64))))]) laidOut bel parOk hA
  rw [Try.params15] at hA
  obtain ⟨v0, vs0, d0, ds0, p0, q0, hh0, rfl, rfl, h0, r0⟩ := trodAll_cons hA
  obtain ⟨v1, vs1, d1, ds1, p1, q1, hh1, rfl, rfl, h1, r1⟩ := trodAll_cons r0
  obtain ⟨_, rfl, rfl⟩ := trodAll_nil r1
  obtain ⟨rfl, rfl⟩ := trodVars_none hV
  clear hA0 hval0 hsz0
  obtain ⟨k, hk⟩ := pure_FnExactSeenOk xs hg
  refine (law_calls (tb15_ok k) (body_la (by kernel_rfl : Try.f15.body = some code15) (la15 k)) Try.func15 (ps := [.c true (.v true (.rs 115 (.rs 130 (.pair (.int .i64) (.pair (.int .i64) (.int .i64)))))), .c true (.v true (.pair (.rs 3 (.int .i64)) (.rs 3 (.int .i64))))]) (paramsOk_mut parOk) (xs := xs) (out := (true, ())) rfl ((ev15 k xs).trans hk) hx).mono fun e W' ⟨he, bel⟩ => ?_
  subst he
  exact ⟨_, rfl, _, _, _, [], _, [], hW', trodAll_mk1 (shut_bool Try.underlying4 _), hB W' bel, rfl, bel.frame _, fun h => by cases h⟩
theorem over : Rows.fnExactSeenOkRow.holds Try.pinned (OpenSpec.ofChange Rows.fnExactSeenOkSpec) :=
  OpenClaim.holds_of_wide 15 Try.f15 rfl rfl rfl rfl rfl rfl rfl ⟨rfl, rfl, rfl, rfl, rfl⟩ rfl rfl rfl rfl rfl (by kernel_rfl) Try.func15
    (facts Try.prog 15 Try.f15 Rows.fnExactSeenOkSpec Rows.fnExactSeenOkRow head_laid head_rowed head_heard head_mayEnter head_liftsFinal head_make inPl unfo recu nams (by kernel_rfl))
    (of_decide_eq_true (by kernel_rfl)) (by unfold Func.isWrapper; first | (rw [if_pos (by decide +kernel)]; kernel_rfl) | (rw [if_neg (by decide +kernel)]; exact ⟨rfl, rfl⟩))
    (fun os started H enc _ => lifted os started H enc)
theorem proved : Rows.FnExactSeenOkSaid := over
#print axioms proved
end Go.Proofs.Ytaehbfaldofmbaa.fnExactSeenOk
namespace Go.Proofs.Ytaehbfaldofmbaa
/-- The row, under a short name, for the claim. -/
theorem fnExactSeenOk_holds : Rows.FnExactSeenOkSaid := fnExactSeenOk.proved
end Go.Proofs.Ytaehbfaldofmbaa
