/- Plain functions that the loaded code comes to, and that it does. Conditions: none. -/
import Derived.Test.YtaehbfaldofmbaaGW
namespace Go.Proofs.Ytaehbfaldofmbaa.Ev
open Go Go.Proofs
/-! ### loop.example/fathomline/laws.FnExactWallGaps -/
def F7 (n : Nat) (a0 : List (List (Int × Int × Int))) : Option (rdens [.c true (.v true (.rs 115 (.rs 130 (.pair (.int .i64) (.pair (.int .i64) (.int .i64))))))] [.c false (.v true .bool)]) :=
  (F34 n (a0) ((1048576 : Int))).bind fun y1 =>
  cond (Decidable.decide (y1.fst < (0 : Int)))
  (some (Bool.true, ()))
  ((F36 n (a0)).bind fun y2 =>
   (F40 n (y2.fst)).bind fun y3 =>
   (F36 n (a0)).bind fun y4 =>
   (F41 n (y4.fst)).bind fun y5 =>
   cond (y5.fst != y3.fst)
   (some (Bool.false, ()))
   ((F36 n (a0)).bind fun y6 =>
    (F38 n (y4.fst) (y6.fst)).bind fun y7 =>
    cond (!y7.fst)
    (some (Bool.false, ()))
    (some (Bool.true, ()))))
noncomputable def con7 (n : Nat) : Con := conOf [.c true (.v true (.rs 115 (.rs 130 (.pair (.int .i64) (.pair (.int .i64) (.int .i64))))))] [.c false (.v true .bool)] fun x => F7 n x.1
noncomputable def tb7 (n : Nat) : Tb := ⟨tiOf Try.prog, conL [(34, con34 n), (36, con36 n), (40, con40 n), (41, con41 n), (38, con38 n)], n, [], 27, lpL [], ctL [], []⟩
noncomputable def code7 : Code := Try.f7.body.getD .skip
theorem tb7_ok (n : Nat) : (tb7 n).ok Try.prog := tbOk mixed (⟨con34_ok n, ⟨con36_ok n, ⟨con40_ok n, ⟨con41_ok n, ⟨con38_ok n, trivial⟩⟩⟩⟩⟩)
theorem blocks7 : blocks code7 = [] := by kernel_rfl
theorem la7 (n : Nat) : LpAll (tb7 n) code7 := lpAll blocks7 (bl_nil) rfl (cs_no fun _ => rfl) (by kernel_rfl)
theorem ev7 (n : Nat) (x : pdens [.c true (.v true (.rs 115 (.rs 130 (.pair (.int .i64) (.pair (.int .i64) (.int .i64))))))]) : evSig (tb7 n) Try.f7 [.c true (.v true (.rs 115 (.rs 130 (.pair (.int .i64) (.pair (.int .i64) (.int .i64))))))] [.c false (.v true .bool)] x = F7 n x.1 := by kernel_rfl
theorem con7_ok (n : Nat) : Con.ok Try.prog 7 (con7 n) := conOf_ok (tb7_ok n) (body_la (by kernel_rfl : Try.f7.body = some code7) (la7 n)) Try.func7 (enters Try.func7 (by kernel_rfl) (by kernel_rfl)) rfl rfl (ev7 n)
end Go.Proofs.Ytaehbfaldofmbaa.Ev
