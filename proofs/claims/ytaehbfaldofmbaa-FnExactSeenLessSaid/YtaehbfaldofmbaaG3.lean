/- Plain functions that the loaded code comes to, and that it does. Conditions: none. -/
import Derived.Test.YtaehbfaldofmbaaGB
namespace Go.Proofs.Ytaehbfaldofmbaa.Ev
open Go Go.Proofs
/-! ### loop.example/fathomline/laws.FnExactSeenLess -/
def F3 (n : Nat) (a0 : List Int × List Int) (a1 : List Int × List Int) : Option (rdens [.val false .bool]) :=
  (F24 n ((a0.fst, a0.snd)) ((1048576 : Int))).bind fun y1 =>
  cond (Decidable.decide (y1.fst < (0 : Int)))
  (some (Bool.true, ()))
  ((F24 n ((a1.fst, a1.snd)) (y1.fst)).bind fun y2 =>
   cond (Decidable.decide (y2.fst < (0 : Int)))
   (some (Bool.true, ()))
   ((F26 n ((a0.fst, a0.snd))).bind fun y3 =>
    (F26 n ((a1.fst, a1.snd))).bind fun y4 =>
    (F25 n ((y3.fst.fst, y3.fst.snd)) ((y4.fst.fst, y4.fst.snd))).bind fun y5 =>
    (F26 n ((a0.fst, a0.snd))).bind fun y6 =>
    (F26 n ((a1.fst, a1.snd))).bind fun y7 =>
    (F27 n ((y6.fst.fst, y6.fst.snd)) ((y7.fst.fst, y7.fst.snd))).bind fun y8 =>
    cond (!y8.fst == y5.fst)
    (some (Bool.false, ()))
    ((F26 n ((a0.fst, a0.snd))).bind fun y9 =>
     (F28 n ((y6.fst.fst, y6.fst.snd)) ((y9.fst.fst, y9.fst.snd))).bind fun y10 =>
     cond (!y10.fst)
     (some (Bool.false, ()))
     ((F26 n ((a1.fst, a1.snd))).bind fun y11 =>
      (F28 n ((y7.fst.fst, y7.fst.snd)) ((y11.fst.fst, y11.fst.snd))).bind fun y12 =>
      cond (!y12.fst)
      (some (Bool.false, ()))
      (some (Bool.true, ()))))))
noncomputable def con3 (n : Nat) : Con := conOf [.val true true (.pair (.rs 3 (.int .i64)) (.rs 3 (.int .i64))), .val true true (.pair (.rs 3 (.int .i64)) (.rs 3 (.int .i64)))] [.val false .bool] fun x => F3 n x.1 x.2.1
noncomputable def tb3 (n : Nat) : Tb := ⟨tiOf Try.prog, conL [(24, con24 n), (26, con26 n), (25, con25 n), (27, con27 n), (28, con28 n)], n, [], 45, lpL [], ctL []⟩
noncomputable def code3 : Code := Try.f3.body.getD .skip
theorem tb3_ok (n : Nat) : (tb3 n).ok Try.prog := tbOk mixed (⟨con24_ok n, ⟨con26_ok n, ⟨con25_ok n, ⟨con27_ok n, ⟨con28_ok n, trivial⟩⟩⟩⟩⟩)
theorem blocks3 : blocks code3 = [] := by kernel_rfl
theorem la3 (n : Nat) : LpAll (tb3 n) code3 := lpAll blocks3 (bl_nil) rfl (cs_no fun _ => rfl)
theorem ev3 (n : Nat) (x : pdens [.val true true (.pair (.rs 3 (.int .i64)) (.rs 3 (.int .i64))), .val true true (.pair (.rs 3 (.int .i64)) (.rs 3 (.int .i64)))]) : evSig (tb3 n) Try.f3 [.val true true (.pair (.rs 3 (.int .i64)) (.rs 3 (.int .i64))), .val true true (.pair (.rs 3 (.int .i64)) (.rs 3 (.int .i64)))] [.val false .bool] x = F3 n x.1 x.2.1 := by kernel_rfl
theorem con3_ok (n : Nat) : Con.ok Try.prog 3 (con3 n) := conOf_ok (tb3_ok n) (body_la (by kernel_rfl : Try.f3.body = some code3) (la3 n)) Try.func3 (enters Try.func3 (by kernel_rfl) (by kernel_rfl)) (ev3 n)
end Go.Proofs.Ytaehbfaldofmbaa.Ev
