/- Plain functions that the loaded code comes to, and that it does. Conditions: none. -/
import Derived.Test.YtaehbfaldofmbaaGX
import Derived.Test.YtaehbfaldofmbaaGH
import Derived.Test.YtaehbfaldofmbaaGK
namespace Go.Proofs.Ytaehbfaldofmbaa.Ev
open Go Go.Proofs
/-! ### loop.example/fathomline/laws.FnExactWallAll -/
def J17_27 (n : Nat) (x26 : List (List (Int × Int × Int)) × Unit) (x27 : Int) : Option (odens [(.ret, [(2, (.c false (.v true .bool)))])]) :=
    (F64 n (x26.fst) ((1 : Int))).bind fun y28 =>
    cond (Decidable.decide (y28.fst < (0 : Int)))
    (some (Sum.inl (Bool.false, ())))
    (cond (y28.fst != x27)
     (some (Sum.inl (Bool.false, ())))
     (some (Sum.inl (Bool.true, ()))))
def J17_16 (n : Nat) (x17 : List (List (Int × Int × Int)) × Unit) (x18 : List (List (Int × Int × Int)) × Unit) (x19 : Bool) (x20 : List (List (Int × Int × Int)) × Unit) : Option (odens [(.ret, [(2, (.c false (.v true .bool)))])]) :=
    (F53 n (x20.fst) ((1 : Int))).bind fun y21 =>
    (F64 n (y21.snd.fst) ((1 : Int))).bind fun y22 =>
    cond (Decidable.decide (y22.fst < (0 : Int)))
    (some (Sum.inl (Bool.false, ())))
    (cond (y22.fst != y21.fst)
     (some (Sum.inl (Bool.false, ())))
     ((F36 n (x17.fst)).bind fun y23 =>
      (F63 n (y23.fst)).bind fun y24 =>
      (F38 n (y24.fst) (x18.fst)).bind fun y25 =>
      cond (!y25.fst)
      (some (Sum.inl (Bool.false, ())))
      (cond (!y24.snd.fst == x19)
       (some (Sum.inl (Bool.false, ())))
       (match J17_27 n ((y21.snd.fst, ())) (y21.fst) with
        | none => none
        | some (Sum.inl v29) =>
         some (Sum.inl (v29.fst, ()))))))
def J17_10 (n : Nat) (x7 : List (List (Int × Int × Int)) × Unit) (x8 : List (List (Int × Int × Int)) × Unit) (x9 : Bool) (x10 : List (List (Int × Int × Int)) × Unit) (x11 : List (List (Int × Int × Int)) × Unit) (x12 : Bool) : Option (odens [(.ret, [(2, (.c false (.v true .bool)))])]) :=
    (F36 n (x7.fst)).bind fun y13 =>
    (F38 n (x10.fst) (y13.fst)).bind fun y14 =>
    cond (!y14.fst)
    (some (Sum.inl (Bool.false, ())))
    ((F53 n (x10.fst) ((1 : Int))).bind fun y15 =>
     cond (Decidable.decide (y15.fst < (0 : Int)))
     (some (Sum.inl (Bool.false, ())))
     ((F38 n (x11.fst) (x8.fst)).bind fun y16 =>
      cond (!y16.fst)
      (some (Sum.inl (Bool.false, ())))
      (cond (!x12 == x9)
       (some (Sum.inl (Bool.false, ())))
       (match J17_16 n ((x7.fst, ())) ((x8.fst, ())) (x9) ((x11.fst, ())) with
        | none => none
        | some (Sum.inl v30) =>
         some (Sum.inl (v30.fst, ()))))))
def F17 (n : Nat) (a0 : List (List (Int × Int × Int))) : Option (rdens [.c true (.v true (.rs 115 (.rs 130 (.pair (.int .i64) (.pair (.int .i64) (.int .i64))))))] [.c false (.v true .bool)]) :=
  (F34 n (a0) ((1048576 : Int))).bind fun y1 =>
  cond (Decidable.decide (y1.fst < (0 : Int)))
  (some (Bool.true, ()))
  ((F36 n (a0)).bind fun y2 =>
   (F62 n (y2.fst)).bind fun y3 =>
   (F36 n (a0)).bind fun y4 =>
   (F63 n (y4.fst)).bind fun y5 =>
   (F38 n (y5.fst) (y3.fst)).bind fun y6 =>
   cond (!y6.fst)
   (some (Bool.false, ()))
   (cond (!y5.snd.fst == y3.snd.fst)
    (some (Bool.false, ()))
    (match J17_10 n ((a0, ())) ((y3.fst, ())) (y3.snd.fst) ((y4.fst, ())) ((y5.fst, ())) (y5.snd.fst) with
     | none => none
     | some (Sum.inl v31) =>
      some (v31.fst, ()))))
noncomputable def con17 (n : Nat) : Con := conOf [.c true (.v true (.rs 115 (.rs 130 (.pair (.int .i64) (.pair (.int .i64) (.int .i64))))))] [.c false (.v true .bool)] fun x => F17 n x.1
noncomputable def tb17 (n : Nat) : Tb := ⟨tiOf Try.prog, conL [(34, con34 n), (36, con36 n), (62, con62 n), (63, con63 n), (38, con38 n), (53, con53 n), (64, con64 n)], n, [], 96, lpL [], ctL [(27, ⟨[(7, (.b 44 [(.o (.rs 50 (.rs 52 (.pair (.int .i64) (.pair (.int .i64) (.int .i64))))))])), (10, (.c false (.v true (.int .i64))))], [(.ret, [(2, (.c false (.v true .bool)))])], fun v => J17_27 n v.1 v.2.1⟩), (16, ⟨[(1, (.b 39 [(.v true (.rs 115 (.rs 130 (.pair (.int .i64) (.pair (.int .i64) (.int .i64))))))])), (4, (.b 44 [(.o (.rs 50 (.rs 52 (.pair (.int .i64) (.pair (.int .i64) (.int .i64))))))])), (5, (.c false (.v true .bool))), (7, (.b 44 [(.o (.rs 50 (.rs 52 (.pair (.int .i64) (.pair (.int .i64) (.int .i64))))))]))], [(.ret, [(2, (.c false (.v true .bool)))])], fun v => J17_16 n v.1 v.2.1 v.2.2.1 v.2.2.2.1⟩), (10, ⟨[(1, (.b 39 [(.v true (.rs 115 (.rs 130 (.pair (.int .i64) (.pair (.int .i64) (.int .i64))))))])), (4, (.b 44 [(.o (.rs 50 (.rs 52 (.pair (.int .i64) (.pair (.int .i64) (.int .i64))))))])), (5, (.c false (.v true .bool))), (6, (.b 44 [(.o (.rs 50 (.rs 52 (.pair (.int .i64) (.pair (.int .i64) (.int .i64))))))])), (7, (.b 44 [(.o (.rs 50 (.rs 52 (.pair (.int .i64) (.pair (.int .i64) (.int .i64))))))])), (8, (.c false (.v true .bool)))], [(.ret, [(2, (.c false (.v true .bool)))])], fun v => J17_10 n v.1 v.2.1 v.2.2.1 v.2.2.2.1 v.2.2.2.2.1 v.2.2.2.2.2.1⟩)], [], true⟩
noncomputable def code17 : Code := Try.f17.body.getD .skip
theorem tb17_ok (n : Nat) : (tb17 n).ok Try.prog := tbOk mixed (⟨con34_ok n, ⟨con36_ok n, ⟨con62_ok n, ⟨con63_ok n, ⟨con38_ok n, ⟨con53_ok n, ⟨con64_ok n, trivial⟩⟩⟩⟩⟩⟩⟩)
theorem blocks17 : blocks code17 = [] := by kernel_rfl
theorem ct17_10 (n : Nat) : CtOk (tb17 n) (sec code17 9).2 ⟨[(1, (.b 39 [(.v true (.rs 115 (.rs 130 (.pair (.int .i64) (.pair (.int .i64) (.int .i64))))))])), (4, (.b 44 [(.o (.rs 50 (.rs 52 (.pair (.int .i64) (.pair (.int .i64) (.int .i64))))))])), (5, (.c false (.v true .bool))), (6, (.b 44 [(.o (.rs 50 (.rs 52 (.pair (.int .i64) (.pair (.int .i64) (.int .i64))))))])), (7, (.b 44 [(.o (.rs 50 (.rs 52 (.pair (.int .i64) (.pair (.int .i64) (.int .i64))))))])), (8, (.c false (.v true .bool)))], [(.ret, [(2, (.c false (.v true .bool)))])], fun v => J17_10 n v.1 v.2.1 v.2.2.1 v.2.2.2.1 v.2.2.2.2.1 v.2.2.2.2.2.1⟩ := fun _ => by kernel_rfl
theorem ct17_16 (n : Nat) : CtOk (tb17 n) (sec code17 17).2 ⟨[(1, (.b 39 [(.v true (.rs 115 (.rs 130 (.pair (.int .i64) (.pair (.int .i64) (.int .i64))))))])), (4, (.b 44 [(.o (.rs 50 (.rs 52 (.pair (.int .i64) (.pair (.int .i64) (.int .i64))))))])), (5, (.c false (.v true .bool))), (7, (.b 44 [(.o (.rs 50 (.rs 52 (.pair (.int .i64) (.pair (.int .i64) (.int .i64))))))]))], [(.ret, [(2, (.c false (.v true .bool)))])], fun v => J17_16 n v.1 v.2.1 v.2.2.1 v.2.2.2.1⟩ := fun _ => by kernel_rfl
theorem ct17_27 (n : Nat) : CtOk (tb17 n) (sec code17 31).2 ⟨[(7, (.b 44 [(.o (.rs 50 (.rs 52 (.pair (.int .i64) (.pair (.int .i64) (.int .i64))))))])), (10, (.c false (.v true (.int .i64))))], [(.ret, [(2, (.c false (.v true .bool)))])], fun v => J17_27 n v.1 v.2.1⟩ := fun _ => by kernel_rfl
theorem secs17 : seconds code17 = [(some 1, (sec code17 0).2), (some 2, (sec code17 1).2), (some 3, (sec code17 2).2), (some 5, (sec code17 3).2), (none, (sec code17 4).2), (none, (sec code17 5).2), (some 6, (sec code17 6).2), (some 7, (sec code17 7).2), (some 8, (sec code17 8).2), (some 10, (sec code17 9).2), (none, (sec code17 10).2), (none, (sec code17 11).2), (some 12, (sec code17 12).2), (none, (sec code17 13).2), (none, (sec code17 14).2), (some 13, (sec code17 15).2), (some 14, (sec code17 16).2), (some 16, (sec code17 17).2), (none, (sec code17 18).2), (none, (sec code17 19).2), (some 17, (sec code17 20).2), (some 18, (sec code17 21).2), (some 19, (sec code17 22).2), (some 20, (sec code17 23).2), (some 22, (sec code17 24).2), (none, (sec code17 25).2), (none, (sec code17 26).2), (some 24, (sec code17 27).2), (none, (sec code17 28).2), (none, (sec code17 29).2), (some 25, (sec code17 30).2), (some 27, (sec code17 31).2), (none, (sec code17 32).2), (none, (sec code17 33).2), (some 28, (sec code17 34).2), (some 29, (sec code17 35).2), (some 31, (sec code17 36).2), (none, (sec code17 37).2), (none, (sec code17 38).2), (some 33, (sec code17 39).2), (none, (sec code17 40).2), (none, (sec code17 41).2), (none, (sec code17 42).2)] := by kernel_rfl
theorem la17 (n : Nat) : LpAll (tb17 n) code17 := lpAll blocks17 (bl_nil) secs17 (cs_none rfl (cs_none rfl (cs_none rfl (cs_none rfl (cs_none rfl (cs_none rfl (cs_none rfl (cs_none rfl (cs_none rfl (cs_one rfl (ct17_10 n) (cs_none rfl (cs_none rfl (cs_none rfl (cs_none rfl (cs_none rfl (cs_none rfl (cs_none rfl (cs_one rfl (ct17_16 n) (cs_none rfl (cs_none rfl (cs_none rfl (cs_none rfl (cs_none rfl (cs_none rfl (cs_none rfl (cs_none rfl (cs_none rfl (cs_none rfl (cs_none rfl (cs_none rfl (cs_none rfl (cs_one rfl (ct17_27 n) (cs_none rfl (cs_none rfl (cs_none rfl (cs_none rfl (cs_none rfl (cs_none rfl (cs_none rfl (cs_none rfl (cs_none rfl (cs_none rfl (cs_none rfl (cs_nil)))))))))))))))))))))))))))))))))))))))))))) (by kernel_rfl)
theorem ev17 (n : Nat) (x : pdens [.c true (.v true (.rs 115 (.rs 130 (.pair (.int .i64) (.pair (.int .i64) (.int .i64))))))]) : evSig (tb17 n) Try.f17 [.c true (.v true (.rs 115 (.rs 130 (.pair (.int .i64) (.pair (.int .i64) (.int .i64))))))] [.c false (.v true .bool)] x = F17 n x.1 := by kernel_rfl
theorem con17_ok (n : Nat) : Con.ok Try.prog 17 (con17 n) := conOf_ok (tb17_ok n) (body_la (by kernel_rfl : Try.f17.body = some code17) (la17 n)) Try.func17 (enters Try.func17 (by kernel_rfl) (by kernel_rfl)) rfl rfl (ev17 n)
end Go.Proofs.Ytaehbfaldofmbaa.Ev
