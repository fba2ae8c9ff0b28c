/- Plain functions that the loaded code comes to, and that it does. Conditions: none. -/
import Derived.Test.YtaehbfaldofmbaaGC
namespace Go.Proofs.Ytaehbfaldofmbaa.Ev
open Go Go.Proofs
/-! ### loop.example/fathomline/laws.FnExactProgReads -/
def F8 (n : Nat) (a0 : List (List (Int × Int × Int))) : Option (rdens [.val false .bool]) :=
  (F34 n (a0) ((1048576 : Int))).bind fun y1 =>
  cond (Decidable.decide (y1.fst < (0 : Int)))
  (some (Bool.true, ()))
  ((F36 n (a0)).bind fun y2 =>
   (F42 n (y2.fst)).bind fun y3 =>
   (F36 n (a0)).bind fun y4 =>
   (F43 n (y4.fst)).bind fun y5 =>
   cond (y5.fst != y3.fst)
   (some (Bool.false, ()))
   ((F36 n (a0)).bind fun y6 =>
    (F38 n (y4.fst) (y6.fst)).bind fun y7 =>
    cond (!y7.fst)
    (some (Bool.false, ()))
    (some (Bool.true, ()))))
noncomputable def con8 (n : Nat) : Con := conOf [.val true true (.rs 115 (.rs 130 (.pair (.int .i64) (.pair (.int .i64) (.int .i64)))))] [.val false .bool] fun x => F8 n x.1
noncomputable def tb8 (n : Nat) : Tb := ⟨tiOf Try.prog, conL [(34, con34 n), (36, con36 n), (42, con42 n), (43, con43 n), (38, con38 n)], n, [], 27, lpL [], ctL []⟩
noncomputable def code8 : Code := Try.f8.body.getD .skip
theorem tb8_ok (n : Nat) : (tb8 n).ok Try.prog := tbOk mixed (⟨con34_ok n, ⟨con36_ok n, ⟨con42_ok n, ⟨con43_ok n, ⟨con38_ok n, trivial⟩⟩⟩⟩⟩)
theorem blocks8 : blocks code8 = [] := by kernel_rfl
theorem la8 (n : Nat) : LpAll (tb8 n) code8 := lpAll blocks8 (bl_nil) rfl (cs_no fun _ => rfl)
theorem ev8 (n : Nat) (x : pdens [.val true true (.rs 115 (.rs 130 (.pair (.int .i64) (.pair (.int .i64) (.int .i64)))))]) : evSig (tb8 n) Try.f8 [.val true true (.rs 115 (.rs 130 (.pair (.int .i64) (.pair (.int .i64) (.int .i64)))))] [.val false .bool] x = F8 n x.1 := by kernel_rfl
theorem con8_ok (n : Nat) : Con.ok Try.prog 8 (con8 n) := conOf_ok (tb8_ok n) (body_la (by kernel_rfl : Try.f8.body = some code8) (la8 n)) Try.func8 (enters Try.func8 (by kernel_rfl) (by kernel_rfl)) (ev8 n)
end Go.Proofs.Ytaehbfaldofmbaa.Ev
