/- The row of the law FnExactExecSeen: for every input it answers true. Conditions: none. -/
import Derived.Test.YtdacfaincamliaaHead
import Derived.Test.YtdacfaincamliaaG12
import Derived.Test.YtdacfaincamliaaQ12
import Derived.Test.YtdacfaincamliaaEvRow
import Derived.WalkKit
import Derived.ProofKit
import Derived.OpenShut
import Derived.ShutString
import Derived.ChangeOld
import Derived.Below
import Derived.SizedLaws
namespace Go.Proofs.Ytdacfaincamliaa.fnExactExecSeen
open Go Go.ChangeShapes Go.WideShapes Go.ChangeAt Go.RowKit Go.Proofs.Ytdacfaincamliaa.Ev
set_option linter.unusedVariables false
theorem own : ownKnob Try.prog.godebug = none := by kernel_rfl
theorem laidOut : laidOutB Try.prog = true := head_laid
theorem inPl : Try.prog.inPlace 12 = Rows.fnExactExecSeenRow.inPlace := by kernel_rfl
theorem unfo : Try.prog.unfollowed 12 = Rows.fnExactExecSeenRow.unfollowed := by kernel_rfl
theorem recu : Try.prog.recurses 12 = Rows.fnExactExecSeenRow.recurses := by kernel_rfl
theorem nams : Try.prog.varsNamed 12 = Rows.fnExactExecSeenRow.named := by kernel_rfl
theorem parOk : paramsOk Try.prog Try.f12.params.toList [.c true (.v true (.rs 115 (.rs 154 (.pair (.int .i64) (.pair (.int .i64) (.int .i64)))))), .c true (.v true (.pair (.rs 3 (.int .i64)) (.rs 25 (.rs 3 (.int .i64)))))] = true := by kernel_rfl
set_option maxRecDepth 100000 in
theorem lifted (os : Os) (started : os.Started) (H : Type) (enc : TypeId × Value → H) :
    ReturnsInHanded {} Try.checked os 12 .any (Rows.fnExactExecSeenSpec.pre6 enc Try.prog Try.f12 Rows.fnExactExecSeenRow.domain false) (Rows.fnExactExecSeenSpec.post enc Try.prog Try.f12 false true false false) := by
  refine returnsInHanded_of_change_sized (C := Try.checked) own started (by kernel_rfl) Try.func12
    (ChangeSpec.witness6 (enc := enc) (C := Try.checked) false ⟨#[], #[.agg #[.slice none 0 0], .agg #[.slice none 0 0, .slice none 0 0]], []⟩ 8 (by kernel_rfl) (by kernel_rfl) (by kernel_rfl) (by kernel_rfl)) ?_
  intro W base args ds gs before hval0 hW hcnd hsz0 _
  have hval : ∀ (j : Nat) t v, Try.f12.params[j]? = some t → args[j]? = some v → Value.okWide Try.prog W .any base t v := hval0
  have hW' := hW
  obtain ⟨p, q, hA0, hV, rfl, hfz, hnd⟩ := hW
  have hA : DataW.TrodAll enc Try.prog W 0 (fun _ => true) true Try.f12.params.toList args.toList ds p := hA0
  obtain ⟨xs, hx, hg⟩ := args_open (ps := [.c true (.v true (.rs 115 (.rs 154 (.pair (.int .i64) (.pair (.int .i64) (.int .i64)))))), .c true (.v true (.pair (.rs 3 (.int .i64)) (.rs 25 (.rs 3 (.int .i64)))))]) (k := 0) (r := .any) (b := base) parOk hA (fun j t v h1 h2 => hval j t v (by rwa [Array.getElem?_toList] at h1) (by rwa [Array.getElem?_toList] at h2))
  have hB := fun (W' : World) (bel : Below W.heap.size W W') => args_back (ps := [.c true (.v true (.rs 115 (.rs 154 (.pair (.int .i64) (.pair (.int .i64) (.int .i64)))))), .c true (.v true (.pair (.rs 3 (.int .i64)) (.rs 25 (.rs 3 (.int .i64)))))]) laidOut bel parOk hA
  rw [Try.params12] at hA
  obtain ⟨v0, vs0, d0, ds0, p0, q0, hh0, rfl, rfl, h0, r0⟩ := trodAll_cons hA
  obtain ⟨v1, vs1, d1, ds1, p1, q1, hh1, rfl, rfl, h1, r1⟩ := trodAll_cons r0
  obtain ⟨_, rfl, rfl⟩ := trodAll_nil r1
  obtain ⟨rfl, rfl⟩ := trodVars_none hV
  clear hA0 hval0 hsz0
  obtain ⟨k, hk⟩ := pure_FnExactExecSeen xs hg
  refine (law_calls (tb12_ok k) (body_la (by kernel_rfl : Try.f12.body = some code12) (la12 k)) Try.func12 (ps := [.c true (.v true (.rs 115 (.rs 154 (.pair (.int .i64) (.pair (.int .i64) (.int .i64)))))), .c true (.v true (.pair (.rs 3 (.int .i64)) (.rs 25 (.rs 3 (.int .i64)))))]) (paramsOk_mut parOk) (xs := xs) (out := (true, ())) rfl ((ev12 k xs).trans hk) hx).mono fun e W' ⟨he, bel⟩ => ?_
  subst he
  exact ⟨_, rfl, _, _, _, [], _, [], hW', trodAll_mk1 (shut_bool Try.underlying4 _), hB W' bel, rfl, bel.frame _, fun h => by cases h⟩
theorem over : Rows.fnExactExecSeenRow.holds Try.pinned (OpenSpec.ofChange Rows.fnExactExecSeenSpec) :=
  OpenClaim.holds_of_wide 12 Try.f12 rfl rfl rfl rfl rfl rfl rfl ⟨rfl, rfl, rfl, rfl, rfl⟩ rfl rfl rfl rfl rfl (by kernel_rfl) Try.func12
    (facts Try.prog 12 Try.f12 Rows.fnExactExecSeenSpec Rows.fnExactExecSeenRow head_laid head_rowed head_heard head_mayEnter head_liftsFinal head_make inPl unfo recu nams (by kernel_rfl))
    (of_decide_eq_true (by kernel_rfl)) (by unfold Func.isWrapper; first | (rw [if_pos (by decide +kernel)]; kernel_rfl) | (rw [if_neg (by decide +kernel)]; exact ⟨rfl, rfl⟩))
    (fun os started H enc _ => lifted os started H enc)
theorem proved : Rows.FnExactExecSeenSaid := over
#print axioms proved
end Go.Proofs.Ytdacfaincamliaa.fnExactExecSeen
namespace Go.Proofs.Ytdacfaincamliaa
/-- The row, under a short name, for the claim. -/
theorem fnExactExecSeen_holds : Rows.FnExactExecSeenSaid := fnExactExecSeen.proved
end Go.Proofs.Ytdacfaincamliaa
