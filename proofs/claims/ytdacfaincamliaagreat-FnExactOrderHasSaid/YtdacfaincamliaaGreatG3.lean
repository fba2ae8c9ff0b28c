/- Plain functions that the loaded code comes to, and that it does. Conditions: none. -/
import Derived.Test.YtdacfaincamliaaGreatGO
import Derived.Test.YtdacfaincamliaaGreatGR
import Derived.Test.YtdacfaincamliaaGreatGX
namespace Go.Proofs.YtdacfaincamliaaGreat.Ev
open Go Go.Proofs
/-! ### loop.example/fathomline/laws.FnExactOrderHas -/
def F3 (n : Nat) (a0 : List (List (Int × Int × Int))) (a1 : List Int × List (List Int)) (a2 : Int) (a3 : Int) (a4 : Int) : Option (rdens [.c true (.v true (.rs 66 (.rs 89 (.pair (.int .i64) (.pair (.int .i64) (.int .i64)))))), .c true (.v true (.pair (.rs 3 (.int .i64)) (.rs 25 (.rs 3 (.int .i64))))), .c false (.v true (.int .i64)), .c false (.v true (.int .i64)), .c false (.v true (.int .i64))] [.c false (.v true .bool)]) :=
  (F4 n (a0) ((1048576 : Int))).bind fun y1 =>
  cond (Decidable.decide (y1.fst < (0 : Int)))
  (some (Bool.true, ()))
  ((F5 n ((a1.fst, a1.snd)) (y1.fst)).bind fun y2 =>
   cond (Decidable.decide (y2.fst < (0 : Int)))
   (some (Bool.true, ()))
   ((F7 n (a0)).bind fun y3 =>
    (F8 n ((a1.fst, a1.snd))).bind fun y4 =>
    (F6 n (y3.fst) ((y4.fst.fst, y4.fst.snd)) (a2) (a3) (a4)).bind fun y5 =>
    (F7 n (a0)).bind fun y6 =>
    (F8 n ((a1.fst, a1.snd))).bind fun y7 =>
    (F9 n (y6.fst) ((y7.fst.fst, y7.fst.snd)) (a2) (a3) (a4)).bind fun y8 =>
    cond (!y8.fst == y5.fst)
    (some (Bool.false, ()))
    ((F7 n (a0)).bind fun y9 =>
     (F10 n (y6.fst) (y9.fst)).bind fun y10 =>
     cond (!y10.fst)
     (some (Bool.false, ()))
     ((F8 n ((a1.fst, a1.snd))).bind fun y11 =>
      (F11 n ((y7.fst.fst, y7.fst.snd)) ((y11.fst.fst, y11.fst.snd))).bind fun y12 =>
      cond (!y12.fst)
      (some (Bool.false, ()))
      (some (Bool.true, ()))))))
noncomputable def con3 (n : Nat) : Con := conOf [.c true (.v true (.rs 66 (.rs 89 (.pair (.int .i64) (.pair (.int .i64) (.int .i64)))))), .c true (.v true (.pair (.rs 3 (.int .i64)) (.rs 25 (.rs 3 (.int .i64))))), .c false (.v true (.int .i64)), .c false (.v true (.int .i64)), .c false (.v true (.int .i64))] [.c false (.v true .bool)] fun x => F3 n x.1 x.2.1 x.2.2.1 x.2.2.2.1 x.2.2.2.2.1
noncomputable def tb3 (n : Nat) : Tb := ⟨tiOf Tryz.prog, conL [(4, con4 n), (5, con5 n), (7, con7 n), (8, con8 n), (6, con6 n), (9, con9 n), (10, con10 n), (11, con11 n)], n, [], 57, lpL [], ctL [], [], true⟩
noncomputable def code3 : Code := Tryz.f3.body.getD .skip
theorem tb3_ok (n : Nat) : (tb3 n).ok Tryz.prog := tbOk mixed (⟨con4_ok n, ⟨con5_ok n, ⟨con7_ok n, ⟨con8_ok n, ⟨con6_ok n, ⟨con9_ok n, ⟨con10_ok n, ⟨con11_ok n, trivial⟩⟩⟩⟩⟩⟩⟩⟩)
theorem blocks3 : blocks code3 = [] := by kernel_rfl
theorem la3 (n : Nat) : LpAll (tb3 n) code3 := lpAll blocks3 (bl_nil) rfl (cs_no fun _ => rfl) (by kernel_rfl)
theorem ev3 (n : Nat) (x : pdens [.c true (.v true (.rs 66 (.rs 89 (.pair (.int .i64) (.pair (.int .i64) (.int .i64)))))), .c true (.v true (.pair (.rs 3 (.int .i64)) (.rs 25 (.rs 3 (.int .i64))))), .c false (.v true (.int .i64)), .c false (.v true (.int .i64)), .c false (.v true (.int .i64))]) : evSig (tb3 n) Tryz.f3 [.c true (.v true (.rs 66 (.rs 89 (.pair (.int .i64) (.pair (.int .i64) (.int .i64)))))), .c true (.v true (.pair (.rs 3 (.int .i64)) (.rs 25 (.rs 3 (.int .i64))))), .c false (.v true (.int .i64)), .c false (.v true (.int .i64)), .c false (.v true (.int .i64))] [.c false (.v true .bool)] x = F3 n x.1 x.2.1 x.2.2.1 x.2.2.2.1 x.2.2.2.2.1 := by kernel_rfl
theorem con3_ok (n : Nat) : Con.ok Tryz.prog 3 (con3 n) := conOf_ok (tb3_ok n) (body_la (by kernel_rfl : Tryz.f3.body = some code3) (la3 n)) Tryz.func3 (enters Tryz.func3 (by kernel_rfl) (by kernel_rfl)) rfl rfl (ev3 n)
end Go.Proofs.YtdacfaincamliaaGreat.Ev
