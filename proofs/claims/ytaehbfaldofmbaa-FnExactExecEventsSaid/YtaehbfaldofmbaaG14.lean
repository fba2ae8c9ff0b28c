/- Plain functions that the loaded code comes to, and that it does. Conditions: none. -/
import Derived.Test.YtaehbfaldofmbaaGE
import Derived.Test.YtaehbfaldofmbaaGK
namespace Go.Proofs.Ytaehbfaldofmbaa.Ev
open Go Go.Proofs
/-! ### loop.example/fathomline/laws.FnExactExecEvents -/
def J14_16 (n : Nat) (x11 : List (List (Int × Int × Int)) × Unit) (x12 : List (Int × Int × Bool)) (x13 : List (Int × Int × Bool)) : Option (odens [(.ret, [(2, (.c false (.v true .bool)))])]) :=
    (F54 n (x13) ((1 : Int))).bind fun y14 =>
    (F55 n (y14.snd.fst) ((1 : Int))).bind fun y15 =>
    cond (Decidable.decide (y15.fst < (0 : Int)))
    (some (Sum.inl (Bool.false, ())))
    (cond (y15.fst != y14.fst)
     (some (Sum.inl (Bool.false, ())))
     ((F36 n (x11.fst)).bind fun y16 =>
      (F48 n (y16.fst)).bind fun y17 =>
      (F52 n (y17.fst) (x12)).bind fun y18 =>
      cond (!y18.fst)
      (some (Sum.inl (Bool.false, ())))
      ((F55 n (y14.snd.fst) ((1 : Int))).bind fun y19 =>
       cond (Decidable.decide (y19.fst < (0 : Int)))
       (some (Sum.inl (Bool.false, ())))
       (cond (y19.fst != y14.fst)
        (some (Sum.inl (Bool.false, ())))
        (some (Sum.inl (Bool.true, ())))))))
def F14 (n : Nat) (a0 : List (List (Int × Int × Int))) : Option (rdens [.c true (.v true (.rs 115 (.rs 130 (.pair (.int .i64) (.pair (.int .i64) (.int .i64))))))] [.c false (.v true .bool)]) :=
  (F34 n (a0) ((1048576 : Int))).bind fun y1 =>
  cond (Decidable.decide (y1.fst < (0 : Int)))
  (some (Bool.true, ()))
  ((F36 n (a0)).bind fun y2 =>
   (F50 n (y2.fst)).bind fun y3 =>
   (F36 n (a0)).bind fun y4 =>
   (F48 n (y4.fst)).bind fun y5 =>
   (F52 n (y5.fst) (y3.fst)).bind fun y6 =>
   cond (!y6.fst)
   (some (Bool.false, ()))
   ((F36 n (a0)).bind fun y7 =>
    (F38 n (y4.fst) (y7.fst)).bind fun y8 =>
    cond (!y8.fst)
    (some (Bool.false, ()))
    ((F53 n (y4.fst) ((1 : Int))).bind fun y9 =>
     cond (Decidable.decide (y9.fst < (0 : Int)))
     (some (Bool.false, ()))
     ((F52 n (y5.fst) (y3.fst)).bind fun y10 =>
      cond (!y10.fst)
      (some (Bool.false, ()))
      (match J14_16 n ((a0, ())) (y3.fst) (y5.fst) with
       | none => none
       | some (Sum.inl v20) =>
        some (v20.fst, ()))))))
noncomputable def con14 (n : Nat) : Con := conOf [.c true (.v true (.rs 115 (.rs 130 (.pair (.int .i64) (.pair (.int .i64) (.int .i64))))))] [.c false (.v true .bool)] fun x => F14 n x.1
noncomputable def tb14 (n : Nat) : Tb := ⟨tiOf Try.prog, conL [(34, con34 n), (36, con36 n), (50, con50 n), (48, con48 n), (52, con52 n), (38, con38 n), (53, con53 n), (54, con54 n), (55, con55 n)], n, [], 69, lpL [], ctL [(16, ⟨[(1, (.b 39 [(.v true (.rs 115 (.rs 130 (.pair (.int .i64) (.pair (.int .i64) (.int .i64))))))])), (4, (.c false (.r 62 (.pair (.int .i64) (.pair (.int .i64) .bool))))), (6, (.c false (.r 62 (.pair (.int .i64) (.pair (.int .i64) .bool)))))], [(.ret, [(2, (.c false (.v true .bool)))])], fun v => J14_16 n v.1 v.2.1 v.2.2.1⟩)], [], true⟩
noncomputable def code14 : Code := Try.f14.body.getD .skip
theorem tb14_ok (n : Nat) : (tb14 n).ok Try.prog := tbOk mixed (⟨con34_ok n, ⟨con36_ok n, ⟨con50_ok n, ⟨con48_ok n, ⟨con52_ok n, ⟨con38_ok n, ⟨con53_ok n, ⟨con54_ok n, ⟨con55_ok n, trivial⟩⟩⟩⟩⟩⟩⟩⟩⟩)
theorem blocks14 : blocks code14 = [] := by kernel_rfl
theorem ct14_16 (n : Nat) : CtOk (tb14 n) (sec code14 17).2 ⟨[(1, (.b 39 [(.v true (.rs 115 (.rs 130 (.pair (.int .i64) (.pair (.int .i64) (.int .i64))))))])), (4, (.c false (.r 62 (.pair (.int .i64) (.pair (.int .i64) .bool))))), (6, (.c false (.r 62 (.pair (.int .i64) (.pair (.int .i64) .bool)))))], [(.ret, [(2, (.c false (.v true .bool)))])], fun v => J14_16 n v.1 v.2.1 v.2.2.1⟩ := fun _ => by kernel_rfl
theorem secs14 : seconds code14 = [(some 1, (sec code14 0).2), (some 2, (sec code14 1).2), (some 3, (sec code14 2).2), (some 5, (sec code14 3).2), (none, (sec code14 4).2), (none, (sec code14 5).2), (some 6, (sec code14 6).2), (some 7, (sec code14 7).2), (some 8, (sec code14 8).2), (some 10, (sec code14 9).2), (none, (sec code14 10).2), (none, (sec code14 11).2), (some 12, (sec code14 12).2), (none, (sec code14 13).2), (none, (sec code14 14).2), (some 13, (sec code14 15).2), (some 14, (sec code14 16).2), (some 16, (sec code14 17).2), (none, (sec code14 18).2), (none, (sec code14 19).2), (some 17, (sec code14 20).2), (some 18, (sec code14 21).2), (some 19, (sec code14 22).2), (some 20, (sec code14 23).2), (some 22, (sec code14 24).2), (none, (sec code14 25).2), (none, (sec code14 26).2), (some 24, (sec code14 27).2), (none, (sec code14 28).2), (none, (sec code14 29).2), (some 25, (sec code14 30).2), (some 27, (sec code14 31).2), (none, (sec code14 32).2), (none, (sec code14 33).2), (some 28, (sec code14 34).2), (some 29, (sec code14 35).2), (some 31, (sec code14 36).2), (none, (sec code14 37).2), (none, (sec code14 38).2), (some 33, (sec code14 39).2), (none, (sec code14 40).2), (none, (sec code14 41).2), (none, (sec code14 42).2)] := by kernel_rfl
theorem la14 (n : Nat) : LpAll (tb14 n) code14 := lpAll blocks14 (bl_nil) secs14 (cs_none rfl (cs_none rfl (cs_none rfl (cs_none rfl (cs_none rfl (cs_none rfl (cs_none rfl (cs_none rfl (cs_none rfl (cs_none rfl (cs_none rfl (cs_none rfl (cs_none rfl (cs_none rfl (cs_none rfl (cs_none rfl (cs_none rfl (cs_one rfl (ct14_16 n) (cs_none rfl (cs_none rfl (cs_none rfl (cs_none rfl (cs_none rfl (cs_none rfl (cs_none rfl (cs_none rfl (cs_none rfl (cs_none rfl (cs_none rfl (cs_none rfl (cs_none rfl (cs_none rfl (cs_none rfl (cs_none rfl (cs_none rfl (cs_none rfl (cs_none rfl (cs_none rfl (cs_none rfl (cs_none rfl (cs_none rfl (cs_none rfl (cs_none rfl (cs_nil)))))))))))))))))))))))))))))))))))))))))))) (by kernel_rfl)
theorem ev14 (n : Nat) (x : pdens [.c true (.v true (.rs 115 (.rs 130 (.pair (.int .i64) (.pair (.int .i64) (.int .i64))))))]) : evSig (tb14 n) Try.f14 [.c true (.v true (.rs 115 (.rs 130 (.pair (.int .i64) (.pair (.int .i64) (.int .i64))))))] [.c false (.v true .bool)] x = F14 n x.1 := by kernel_rfl
theorem con14_ok (n : Nat) : Con.ok Try.prog 14 (con14 n) := conOf_ok (tb14_ok n) (body_la (by kernel_rfl : Try.f14.body = some code14) (la14 n)) Try.func14 (enters Try.func14 (by kernel_rfl) (by kernel_rfl)) rfl rfl (ev14 n)
end Go.Proofs.Ytaehbfaldofmbaa.Ev
