/- Plain functions that the loaded code comes to, and that it does. Conditions: none. -/
import Derived.Test.YtdacfaincamliaaGF
import Derived.Test.YtdacfaincamliaaGI
import Derived.Test.YtdacfaincamliaaGX
namespace Go.Proofs.Ytdacfaincamliaa.Ev
open Go Go.Proofs
/-! ### loop.example/fathomline/laws.FnExactExecOk -/
def F5 (n : Nat) (a0 : List (List (Int × Int × Int))) (a1 : List Int × List (List Int)) : Option (rdens [.c true (.v true (.rs 115 (.rs 154 (.pair (.int .i64) (.pair (.int .i64) (.int .i64)))))), .c true (.v true (.pair (.rs 3 (.int .i64)) (.rs 25 (.rs 3 (.int .i64)))))] [.c false (.v true .bool)]) :=
  (F14 n (a0) ((1048576 : Int))).bind fun y1 =>
  cond (Decidable.decide (y1.fst < (0 : Int)))
  (some (Bool.true, ()))
  ((F28 n ((a1.fst, a1.snd)) (y1.fst)).bind fun y2 =>
   cond (Decidable.decide (y2.fst < (0 : Int)))
   (some (Bool.true, ()))
   ((F16 n (a0)).bind fun y3 =>
    (F30 n ((a1.fst, a1.snd))).bind fun y4 =>
    (F29 n (y3.fst) ((y4.fst.fst, y4.fst.snd))).bind fun y5 =>
    (F16 n (a0)).bind fun y6 =>
    (F30 n ((a1.fst, a1.snd))).bind fun y7 =>
    (F31 n (y6.fst) ((y7.fst.fst, y7.fst.snd))).bind fun y8 =>
    cond (!y8.fst == y5.fst)
    (some (Bool.false, ()))
    ((F16 n (a0)).bind fun y9 =>
     (F20 n (y6.fst) (y9.fst)).bind fun y10 =>
     cond (!y10.fst)
     (some (Bool.false, ()))
     ((F30 n ((a1.fst, a1.snd))).bind fun y11 =>
      (F32 n ((y7.fst.fst, y7.fst.snd)) ((y11.fst.fst, y11.fst.snd))).bind fun y12 =>
      cond (!y12.fst)
      (some (Bool.false, ()))
      (some (Bool.true, ()))))))
noncomputable def con5 (n : Nat) : Con := conOf [.c true (.v true (.rs 115 (.rs 154 (.pair (.int .i64) (.pair (.int .i64) (.int .i64)))))), .c true (.v true (.pair (.rs 3 (.int .i64)) (.rs 25 (.rs 3 (.int .i64)))))] [.c false (.v true .bool)] fun x => F5 n x.1 x.2.1
noncomputable def tb5 (n : Nat) : Tb := ⟨tiOf Try.prog, conL [(14, con14 n), (28, con28 n), (16, con16 n), (30, con30 n), (29, con29 n), (31, con31 n), (20, con20 n), (32, con32 n)], n, [], 45, lpL [], ctL [], [], true⟩
noncomputable def code5 : Code := Try.f5.body.getD .skip
theorem tb5_ok (n : Nat) : (tb5 n).ok Try.prog := tbOk mixed (⟨con14_ok n, ⟨con28_ok n, ⟨con16_ok n, ⟨con30_ok n, ⟨con29_ok n, ⟨con31_ok n, ⟨con20_ok n, ⟨con32_ok n, trivial⟩⟩⟩⟩⟩⟩⟩⟩)
theorem blocks5 : blocks code5 = [] := by kernel_rfl
theorem la5 (n : Nat) : LpAll (tb5 n) code5 := lpAll blocks5 (bl_nil) rfl (cs_no fun _ => rfl) (by kernel_rfl)
theorem ev5 (n : Nat) (x : pdens [.c true (.v true (.rs 115 (.rs 154 (.pair (.int .i64) (.pair (.int .i64) (.int .i64)))))), .c true (.v true (.pair (.rs 3 (.int .i64)) (.rs 25 (.rs 3 (.int .i64)))))]) : evSig (tb5 n) Try.f5 [.c true (.v true (.rs 115 (.rs 154 (.pair (.int .i64) (.pair (.int .i64) (.int .i64)))))), .c true (.v true (.pair (.rs 3 (.int .i64)) (.rs 25 (.rs 3 (.int .i64)))))] [.c false (.v true .bool)] x = F5 n x.1 x.2.1 := by kernel_rfl
theorem con5_ok (n : Nat) : Con.ok Try.prog 5 (con5 n) := conOf_ok (tb5_ok n) (body_la (by kernel_rfl : Try.f5.body = some code5) (la5 n)) Try.func5 (enters Try.func5 (by kernel_rfl) (by kernel_rfl)) rfl rfl (ev5 n)
end Go.Proofs.Ytdacfaincamliaa.Ev
