/- Plain functions that the loaded code comes to, and that it does. Conditions: none. -/
import Derived.Test.YtaehbfaldofmbaaGP
namespace Go.Proofs.Ytaehbfaldofmbaa.Ev
open Go Go.Proofs
/-! ### loop.example/fathomline/laws.FnWallNone -/
def F16 (n : Nat) (a0 : List Int) : Option (rdens [.c false (.v true (.rs 5 (.int .u8)))] [.c false (.v true .bool)]) :=
  cond (Decidable.decide ((↑a0.length : Int) > (1048576 : Int)))
  (some (Bool.true, ()))
  ((F58 n (a0)).bind fun y1 =>
   (F59 n (y1.fst) (y1.snd.fst)).bind fun y2 =>
   (F60 n (y1.fst) (y1.snd.fst)).bind fun y3 =>
   (F60 n (y1.fst) ([])).bind fun y4 =>
   cond (y3.snd.fst == y2.snd.fst)
   ((F61 n (y3.fst) (y2.fst)).bind fun y5 =>
    cond (y5.fst)
    ((F35 n (y1.fst)).bind fun y6 =>
     cond (y4.snd.fst == y6.fst)
     (cond (!y4.snd.fst)
      (some (Bool.true, ()))
      ((F61 n (y4.fst) (y1.fst)).bind fun y7 =>
       some (y7.fst, ())))
     (some (Bool.false, ())))
    (some (Bool.false, ())))
   (some (Bool.false, ())))
noncomputable def con16 (n : Nat) : Con := conOf [.c false (.v true (.rs 5 (.int .u8)))] [.c false (.v true .bool)] fun x => F16 n x.1
noncomputable def tb16 (n : Nat) : Tb := ⟨tiOf Try.prog, conL [(58, con58 n), (59, con59 n), (60, con60 n), (61, con61 n), (35, con35 n)], n, [], 59, lpL [], ctL [], []⟩
noncomputable def code16 : Code := Try.f16.body.getD .skip
theorem tb16_ok (n : Nat) : (tb16 n).ok Try.prog := tbOk mixed (⟨con58_ok n, ⟨con59_ok n, ⟨con60_ok n, ⟨con61_ok n, ⟨con35_ok n, trivial⟩⟩⟩⟩⟩)
theorem blocks16 : blocks code16 = [] := by kernel_rfl
theorem la16 (n : Nat) : LpAll (tb16 n) code16 := lpAll blocks16 (bl_nil) rfl (cs_no fun _ => rfl) (by kernel_rfl)
theorem ev16 (n : Nat) (x : pdens [.c false (.v true (.rs 5 (.int .u8)))]) : evSig (tb16 n) Try.f16 [.c false (.v true (.rs 5 (.int .u8)))] [.c false (.v true .bool)] x = F16 n x.1 := by kernel_rfl
theorem con16_ok (n : Nat) : Con.ok Try.prog 16 (con16 n) := conOf_ok (tb16_ok n) (body_la (by kernel_rfl : Try.f16.body = some code16) (la16 n)) Try.func16 (enters Try.func16 (by kernel_rfl) (by kernel_rfl)) rfl rfl (ev16 n)
end Go.Proofs.Ytaehbfaldofmbaa.Ev
