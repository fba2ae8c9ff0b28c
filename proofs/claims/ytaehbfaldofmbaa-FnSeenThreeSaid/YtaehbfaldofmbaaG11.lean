/- Plain functions that the loaded code comes to, and that it does. Conditions: none. -/
import Derived.Test.YtaehbfaldofmbaaGS
namespace Go.Proofs.Ytaehbfaldofmbaa.Ev
open Go Go.Proofs
/-! ### loop.example/fathomline/laws.FnSeenThree -/
def J11_3 (n : Nat) (x1 : List Int) (x2 : List Int) : Option (odens [(.ret, [(4, (.c false (.v true .bool)))])]) :=
    (F46 n (x1)).bind fun y3 =>
    (F46 n (x2)).bind fun y4 =>
    (F27 n ((y3.fst.fst, y3.fst.snd)) ((y3.snd.fst.fst, y3.snd.fst.snd))).bind fun y5 =>
    (F25 n ((y3.fst.fst, y3.fst.snd)) ((y3.snd.fst.fst, y3.snd.fst.snd))).bind fun y6 =>
    cond (!y5.fst == y6.fst)
    (some (Sum.inl (Bool.false, ())))
    (cond (!y5.fst)
     (cond (!y5.fst)
      (some (Sum.inl (Bool.true, ())))
      ((F27 n ((y4.snd.fst.fst, y4.snd.fst.snd)) ((y3.fst.fst, y3.fst.snd))).bind fun y7 =>
       cond (!y7.fst)
       (some (Sum.inl (Bool.true, ())))
       ((F27 n ((y4.snd.fst.fst, y4.snd.fst.snd)) ((y3.snd.fst.fst, y3.snd.fst.snd))).bind fun y8 =>
        some (Sum.inl (y8.fst, ())))))
     ((F27 n ((y3.snd.fst.fst, y3.snd.fst.snd)) ((y4.fst.fst, y4.fst.snd))).bind fun y9 =>
      cond (!y9.fst)
      (cond (!y5.fst)
       (some (Sum.inl (Bool.true, ())))
       ((F27 n ((y4.snd.fst.fst, y4.snd.fst.snd)) ((y3.fst.fst, y3.fst.snd))).bind fun y10 =>
        cond (!y10.fst)
        (some (Sum.inl (Bool.true, ())))
        ((F27 n ((y4.snd.fst.fst, y4.snd.fst.snd)) ((y3.snd.fst.fst, y3.snd.fst.snd))).bind fun y11 =>
         some (Sum.inl (y11.fst, ())))))
      ((F27 n ((y3.fst.fst, y3.fst.snd)) ((y4.fst.fst, y4.fst.snd))).bind fun y12 =>
       cond (y12.fst)
       (cond (!y5.fst)
        (some (Sum.inl (Bool.true, ())))
        ((F27 n ((y4.snd.fst.fst, y4.snd.fst.snd)) ((y3.fst.fst, y3.fst.snd))).bind fun y13 =>
         cond (!y13.fst)
         (some (Sum.inl (Bool.true, ())))
         ((F27 n ((y4.snd.fst.fst, y4.snd.fst.snd)) ((y3.snd.fst.fst, y3.snd.fst.snd))).bind fun y14 =>
          some (Sum.inl (y14.fst, ())))))
       (some (Sum.inl (Bool.false, ()))))))
def F11 (n : Nat) (a0 : List Int) (a1 : List Int) : Option (rdens [.c false (.v true (.rs 5 (.int .u8))), .c false (.v true (.rs 5 (.int .u8)))] [.c false (.v true .bool)]) :=
  cond (Decidable.decide ((↑a0.length : Int) > (1048576 : Int)))
  (some (Bool.true, ()))
  (cond (Decidable.decide ((↑a1.length : Int) > (1048576 : Int)))
   (some (Bool.true, ()))
   (match J11_3 n (a0) (a1) with
    | none => none
    | some (Sum.inl v15) =>
     some (v15.fst, ())))
noncomputable def con11 (n : Nat) : Con := conOf [.c false (.v true (.rs 5 (.int .u8))), .c false (.v true (.rs 5 (.int .u8)))] [.c false (.v true .bool)] fun x => F11 n x.1 x.2.1
noncomputable def tb11 (n : Nat) : Tb := ⟨tiOf Try.prog, conL [(46, con46 n), (27, con27 n), (25, con25 n)], n, [], 64, lpL [], ctL [(3, ⟨[(0, (.c false (.v true (.rs 5 (.int .u8))))), (1, (.c false (.v true (.rs 5 (.int .u8)))))], [(.ret, [(4, (.c false (.v true .bool)))])], fun v => J11_3 n v.1 v.2.1⟩)], []⟩
noncomputable def code11 : Code := Try.f11.body.getD .skip
theorem tb11_ok (n : Nat) : (tb11 n).ok Try.prog := tbOk mixed (⟨con46_ok n, ⟨con27_ok n, ⟨con25_ok n, trivial⟩⟩⟩)
theorem blocks11 : blocks code11 = [] := by kernel_rfl
theorem ct11_3 (n : Nat) : CtOk (tb11 n) (sec code11 1).2 ⟨[(0, (.c false (.v true (.rs 5 (.int .u8))))), (1, (.c false (.v true (.rs 5 (.int .u8)))))], [(.ret, [(4, (.c false (.v true .bool)))])], fun v => J11_3 n v.1 v.2.1⟩ := fun _ => by kernel_rfl
theorem secs11 : seconds code11 = [(some 1, (sec code11 0).2), (some 3, (sec code11 1).2), (none, (sec code11 2).2), (none, (sec code11 3).2), (some 4, (sec code11 4).2), (some 5, (sec code11 5).2), (some 6, (sec code11 6).2), (some 8, (sec code11 7).2), (none, (sec code11 8).2), (none, (sec code11 9).2), (none, (sec code11 10).2)] := by kernel_rfl
theorem la11 (n : Nat) : LpAll (tb11 n) code11 := lpAll blocks11 (bl_nil) secs11 (cs_none rfl (cs_one rfl (ct11_3 n) (cs_none rfl (cs_none rfl (cs_none rfl (cs_none rfl (cs_none rfl (cs_none rfl (cs_none rfl (cs_none rfl (cs_none rfl (cs_nil)))))))))))) (by kernel_rfl)
theorem ev11 (n : Nat) (x : pdens [.c false (.v true (.rs 5 (.int .u8))), .c false (.v true (.rs 5 (.int .u8)))]) : evSig (tb11 n) Try.f11 [.c false (.v true (.rs 5 (.int .u8))), .c false (.v true (.rs 5 (.int .u8)))] [.c false (.v true .bool)] x = F11 n x.1 x.2.1 := by kernel_rfl
theorem con11_ok (n : Nat) : Con.ok Try.prog 11 (con11 n) := conOf_ok (tb11_ok n) (body_la (by kernel_rfl : Try.f11.body = some code11) (la11 n)) Try.func11 (enters Try.func11 (by kernel_rfl) (by kernel_rfl)) rfl rfl (ev11 n)
end Go.Proofs.Ytaehbfaldofmbaa.Ev
