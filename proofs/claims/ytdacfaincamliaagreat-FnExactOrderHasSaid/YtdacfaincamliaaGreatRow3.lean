/- The row of the law FnExactOrderHas: for every input it answers true. Conditions: none. -/
import Derived.Test.YtdacfaincamliaaGreatHead
import Derived.Test.YtdacfaincamliaaGreatG3
import Derived.Test.YtdacfaincamliaaGreatQ3
import Derived.Test.YtdacfaincamliaaGreatEvRow
import Derived.WalkKit
import Derived.ProofKit
import Derived.OpenShut
import Derived.ShutString
import Derived.ChangeOld
import Derived.Below
import Derived.SizedLaws
namespace Go.Proofs.YtdacfaincamliaaGreat.fnExactOrderHas
open Go Go.ChangeShapes Go.WideShapes Go.ChangeAt Go.RowKit Go.Proofs.YtdacfaincamliaaGreat.Ev
set_option linter.unusedVariables false
theorem own : ownKnob Tryz.prog.godebug = none := by kernel_rfl
theorem laidOut : laidOutB Tryz.prog = true := head_laid
theorem inPl : Tryz.prog.inPlace 3 = Rows.fnExactOrderHasRow.inPlace := by kernel_rfl
theorem unfo : Tryz.prog.unfollowed 3 = Rows.fnExactOrderHasRow.unfollowed := by kernel_rfl
theorem recu : Tryz.prog.recurses 3 = Rows.fnExactOrderHasRow.recurses := by kernel_rfl
theorem nams : Tryz.prog.varsNamed 3 = Rows.fnExactOrderHasRow.named := by kernel_rfl
theorem parOk : paramsOk Tryz.prog Tryz.f3.params.toList [.c true (.v true (.rs 66 (.rs 89 (.pair (.int .i64) (.pair (.int .i64) (.int .i64)))))), .c true (.v true (.pair (.rs 3 (.int .i64)) (.rs 25 (.rs 3 (.int .i64))))), .c false (.v true (.int .i64)), .c false (.v true (.int .i64)), .c false (.v true (.int .i64))] = true := by kernel_rfl
set_option maxRecDepth 100000 in
theorem lifted (os : Os) (started : os.Started) (H : Type) (enc : TypeId × Value → H) :
    ReturnsInHanded {} Tryz.checked os 3 .any (Rows.fnExactOrderHasSpec.pre6 enc Tryz.prog Tryz.f3 Rows.fnExactOrderHasRow.domain false) (Rows.fnExactOrderHasSpec.post enc Tryz.prog Tryz.f3 false true false false) := by
  refine returnsInHanded_of_change_sized (C := Tryz.checked) own started (by kernel_rfl) Tryz.func3
    (ChangeSpec.witness6 (enc := enc) (C := Tryz.checked) false ⟨#[], #[.agg #[.slice none 0 0], .agg #[.slice none 0 0, .slice none 0 0], .int .i64 0, .int .i64 0, .int .i64 0], []⟩ 8 (by kernel_rfl) (by kernel_rfl) (by kernel_rfl) (by kernel_rfl)) ?_
  intro W base args ds gs before hval0 hW hcnd hsz0 _
  have hval : ∀ (j : Nat) t v, Tryz.f3.params[j]? = some t → args[j]? = some v → Value.okWide Tryz.prog W .any base t v := hval0
  have hW' := hW
  obtain ⟨p, q, hA0, hV, rfl, hfz, hnd⟩ := hW
  have hA : DataW.TrodAll enc Tryz.prog W 0 (fun _ => true) true Tryz.f3.params.toList args.toList ds p := hA0
  obtain ⟨xs, hx, hg⟩ := args_open (ps := [.c true (.v true (.rs 66 (.rs 89 (.pair (.int .i64) (.pair (.int .i64) (.int .i64)))))), .c true (.v true (.pair (.rs 3 (.int .i64)) (.rs 25 (.rs 3 (.int .i64))))), .c false (.v true (.int .i64)), .c false (.v true (.int .i64)), .c false (.v true (.int .i64))]) (k := 0) (r := .any) (b := base) parOk hA (fun j t v h1 h2 => hval j t v (by rwa [Array.getElem?_toList] at h1) (by rwa [Array.getElem?_toList] at h2))
  have hB := fun (W' : World) (bel : Below W.heap.size W W') => args_back (ps := [.c true (.v true (.rs 66 (.rs 89 (.pair (.int .i64) (.pair (.int .i64) (.int .i64)))))), .c true (.v true (.pair (.rs 3 (.int .i64)) (.rs 25 (.rs 3 (.int .i64))))), .c false (.v true (.int .i64)), .c false (.v true (.int .i64)), .c false (.v true (.int .i64))]) laidOut bel parOk hA
  rw [Tryz.params3] at hA
  obtain ⟨v0, vs0, d0, ds0, p0, q0, hh0, rfl, rfl, h0, r0⟩ := trodAll_cons hA
  obtain ⟨v1, vs1, d1, ds1, p1, q1, hh1, rfl, rfl, h1, r1⟩ := trodAll_cons r0
  obtain ⟨v2, vs2, d2, ds2, p2, q2, hh2, rfl, rfl, h2, r2⟩ := trodAll_cons r1
  obtain ⟨v3, vs3, d3, ds3, p3, q3, hh3, rfl, rfl, h3, r3⟩ := trodAll_cons r2
  obtain ⟨v4, vs4, d4, ds4, p4, q4, hh4, rfl, rfl, h4, r4⟩ := trodAll_cons r3
  obtain ⟨_, rfl, rfl⟩ := trodAll_nil r4
  obtain ⟨rfl, rfl⟩ := trodVars_none hV
  clear hA0 hval0 hsz0
  obtain ⟨k, hk⟩ := pure_FnExactOrderHas xs hg
  refine (law_calls (tb3_ok k) (body_la (by kernel_rfl : Tryz.f3.body = some code3) (la3 k)) Tryz.func3 (ps := [.c true (.v true (.rs 66 (.rs 89 (.pair (.int .i64) (.pair (.int .i64) (.int .i64)))))), .c true (.v true (.pair (.rs 3 (.int .i64)) (.rs 25 (.rs 3 (.int .i64))))), .c false (.v true (.int .i64)), .c false (.v true (.int .i64)), .c false (.v true (.int .i64))]) (paramsOk_mut parOk) (xs := xs) (out := (true, ())) rfl ((ev3 k xs).trans hk) hx).mono fun e W' ⟨he, bel⟩ => ?_
  subst he
  exact ⟨_, rfl, _, _, _, [], _, [], hW', trodAll_mk1 (shut_bool Tryz.underlying4 _), hB W' bel, rfl, bel.frame _, fun h => by cases h⟩
theorem over : Rows.fnExactOrderHasRow.holds Tryz.pinned (OpenSpec.ofChange Rows.fnExactOrderHasSpec) :=
  OpenClaim.holds_of_wide 3 Tryz.f3 rfl rfl rfl rfl rfl rfl rfl ⟨rfl, rfl, rfl, rfl, rfl⟩ rfl rfl rfl rfl rfl (by kernel_rfl) Tryz.func3
    (facts Tryz.prog 3 Tryz.f3 Rows.fnExactOrderHasSpec Rows.fnExactOrderHasRow head_laid head_rowed head_heard head_mayEnter head_liftsFinal head_make inPl unfo recu nams (by kernel_rfl))
    (of_decide_eq_true (by kernel_rfl)) (by unfold Func.isWrapper; first | (rw [if_pos (by decide +kernel)]; kernel_rfl) | (rw [if_neg (by decide +kernel)]; exact ⟨rfl, rfl⟩))
    (fun os started H enc _ => lifted os started H enc)
theorem proved : Rows.FnExactOrderHasSaid := over
#print axioms proved
end Go.Proofs.YtdacfaincamliaaGreat.fnExactOrderHas
namespace Go.Proofs.YtdacfaincamliaaGreat
/-- The row, under a short name, for the claim. -/
theorem fnExactOrderHas_holds : Rows.FnExactOrderHasSaid := fnExactOrderHas.proved
end Go.Proofs.YtdacfaincamliaaGreat
