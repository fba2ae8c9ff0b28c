/- Plain functions that the loaded code comes to, and that it does. Conditions: none. -/
import Derived.Test.YtaehbfaldofmbaaGP
import Derived.Test.YtaehbfaldofmbaaGI
import Derived.Test.YtaehbfaldofmbaaGH
import Derived.Test.YtaehbfaldofmbaaGK
namespace Go.Proofs.Ytaehbfaldofmbaa.Ev
open Go Go.Proofs
/-! ### loop.example/fathomline/laws.FnExactWallPut -/
def J19_33 (n : Nat) (x35 : List (List (Int × Int × Int)) × Unit) (x36 : Int) : Option (odens [(.ret, [(4, (.c false (.v true .bool)))])]) :=
    (F64 n (x35.fst) ((1 : Int))).bind fun y37 =>
    cond (Decidable.decide (y37.fst < (0 : Int)))
    (some (Sum.inl (Bool.false, ())))
    (cond (y37.fst != x36)
     (some (Sum.inl (Bool.false, ())))
     (some (Sum.inl (Bool.true, ()))))
def J19_22 (n : Nat) (x24 : List Int) (x25 : List (List (Int × Int × Int)) × Unit) (x26 : List (List (Int × Int × Int)) × Unit) (x27 : Bool) (x28 : List (List (Int × Int × Int)) × Unit) : Option (odens [(.ret, [(4, (.c false (.v true .bool)))])]) :=
    (F53 n (x28.fst) ((1 : Int))).bind fun y29 =>
    (F64 n (y29.snd.fst) ((1 : Int))).bind fun y30 =>
    cond (Decidable.decide (y30.fst < (0 : Int)))
    (some (Sum.inl (Bool.false, ())))
    (cond (y30.fst != y29.fst)
     (some (Sum.inl (Bool.false, ())))
     ((F36 n (x25.fst)).bind fun y31 =>
      (F65 n (x24)).bind fun y32 =>
      (F60 n (y31.fst) (y32.fst)).bind fun y33 =>
      (F38 n (y33.fst) (x26.fst)).bind fun y34 =>
      cond (!y34.fst)
      (some (Sum.inl (Bool.false, ())))
      (cond (!y33.snd.fst == x27)
       (some (Sum.inl (Bool.false, ())))
       (match J19_33 n ((y29.snd.fst, ())) (y29.fst) with
        | none => none
        | some (Sum.inl v38) =>
         some (Sum.inl (v38.fst, ()))))))
def J19_13 (n : Nat) (x9 : List Int) (x10 : List (List (Int × Int × Int)) × Unit) (x11 : List (List (Int × Int × Int)) × Unit) (x12 : Bool) (x13 : List (List (Int × Int × Int)) × Unit) (x14 : List Int) (x15 : List (List (Int × Int × Int)) × Unit) (x16 : Bool) : Option (odens [(.ret, [(4, (.c false (.v true .bool)))])]) :=
    (F36 n (x10.fst)).bind fun y17 =>
    (F38 n (x13.fst) (y17.fst)).bind fun y18 =>
    cond (!y18.fst)
    (some (Sum.inl (Bool.false, ())))
    ((F65 n (x9)).bind fun y19 =>
     (F66 n (x14) (y19.fst)).bind fun y20 =>
     cond (!y20.fst)
     (some (Sum.inl (Bool.false, ())))
     ((F53 n (x13.fst) ((1 : Int))).bind fun y21 =>
      (F67 n (x14) (y21.fst)).bind fun y22 =>
      cond (Decidable.decide (y22.fst < (0 : Int)))
      (some (Sum.inl (Bool.false, ())))
      ((F38 n (x15.fst) (x11.fst)).bind fun y23 =>
       cond (!y23.fst)
       (some (Sum.inl (Bool.false, ())))
       (cond (!x16 == x12)
        (some (Sum.inl (Bool.false, ())))
        (match J19_22 n (x9) ((x10.fst, ())) ((x11.fst, ())) (x12) ((x15.fst, ())) with
         | none => none
         | some (Sum.inl v39) =>
          some (Sum.inl (v39.fst, ())))))))
def F19 (n : Nat) (a0 : List (List (Int × Int × Int))) (a1 : List Int) : Option (rdens [.c true (.v true (.rs 115 (.rs 130 (.pair (.int .i64) (.pair (.int .i64) (.int .i64)))))), .c false (.v true (.rs 3 (.int .i64)))] [.c false (.v true .bool)]) :=
  cond (Decidable.decide ((↑a1.length : Int) > (1048576 : Int)))
  (some (Bool.true, ()))
  ((F34 n (a0) ((1048576 : Int))).bind fun y1 =>
   cond (Decidable.decide (y1.fst < (0 : Int)))
   (some (Bool.true, ()))
   ((F36 n (a0)).bind fun y2 =>
    (F65 n (a1)).bind fun y3 =>
    (F59 n (y2.fst) (y3.fst)).bind fun y4 =>
    (F36 n (a0)).bind fun y5 =>
    (F65 n (a1)).bind fun y6 =>
    (F60 n (y5.fst) (y6.fst)).bind fun y7 =>
    (F38 n (y7.fst) (y4.fst)).bind fun y8 =>
    cond (!y8.fst)
    (some (Bool.false, ()))
    (cond (!y7.snd.fst == y4.snd.fst)
     (some (Bool.false, ()))
     (match J19_13 n (a1) ((a0, ())) ((y4.fst, ())) (y4.snd.fst) ((y5.fst, ())) (y6.fst) ((y7.fst, ())) (y7.snd.fst) with
      | none => none
      | some (Sum.inl v40) =>
       some (v40.fst, ())))))
noncomputable def con19 (n : Nat) : Con := conOf [.c true (.v true (.rs 115 (.rs 130 (.pair (.int .i64) (.pair (.int .i64) (.int .i64)))))), .c false (.v true (.rs 3 (.int .i64)))] [.c false (.v true .bool)] fun x => F19 n x.1 x.2.1
noncomputable def tb19 (n : Nat) : Tb := ⟨tiOf Try.prog, conL [(34, con34 n), (36, con36 n), (65, con65 n), (59, con59 n), (60, con60 n), (38, con38 n), (66, con66 n), (53, con53 n), (67, con67 n), (64, con64 n)], n, [], 117, lpL [], ctL [(33, ⟨[(10, (.b 44 [(.o (.rs 50 (.rs 52 (.pair (.int .i64) (.pair (.int .i64) (.int .i64))))))])), (13, (.c false (.v true (.int .i64))))], [(.ret, [(4, (.c false (.v true .bool)))])], fun v => J19_33 n v.1 v.2.1⟩), (22, ⟨[(1, (.c false (.v true (.rs 3 (.int .i64))))), (2, (.b 39 [(.v true (.rs 115 (.rs 130 (.pair (.int .i64) (.pair (.int .i64) (.int .i64))))))])), (6, (.b 44 [(.o (.rs 50 (.rs 52 (.pair (.int .i64) (.pair (.int .i64) (.int .i64))))))])), (7, (.c false (.v true .bool))), (10, (.b 44 [(.o (.rs 50 (.rs 52 (.pair (.int .i64) (.pair (.int .i64) (.int .i64))))))]))], [(.ret, [(4, (.c false (.v true .bool)))])], fun v => J19_22 n v.1 v.2.1 v.2.2.1 v.2.2.2.1 v.2.2.2.2.1⟩), (13, ⟨[(1, (.c false (.v true (.rs 3 (.int .i64))))), (2, (.b 39 [(.v true (.rs 115 (.rs 130 (.pair (.int .i64) (.pair (.int .i64) (.int .i64))))))])), (6, (.b 44 [(.o (.rs 50 (.rs 52 (.pair (.int .i64) (.pair (.int .i64) (.int .i64))))))])), (7, (.c false (.v true .bool))), (8, (.b 44 [(.o (.rs 50 (.rs 52 (.pair (.int .i64) (.pair (.int .i64) (.int .i64))))))])), (9, (.c false (.r 3 (.int .i64)))), (10, (.b 44 [(.o (.rs 50 (.rs 52 (.pair (.int .i64) (.pair (.int .i64) (.int .i64))))))])), (11, (.c false (.v true .bool)))], [(.ret, [(4, (.c false (.v true .bool)))])], fun v => J19_13 n v.1 v.2.1 v.2.2.1 v.2.2.2.1 v.2.2.2.2.1 v.2.2.2.2.2.1 v.2.2.2.2.2.2.1 v.2.2.2.2.2.2.2.1⟩)], [], true⟩
noncomputable def code19 : Code := Try.f19.body.getD .skip
theorem tb19_ok (n : Nat) : (tb19 n).ok Try.prog := tbOk mixed (⟨con34_ok n, ⟨con36_ok n, ⟨con65_ok n, ⟨con59_ok n, ⟨con60_ok n, ⟨con38_ok n, ⟨con66_ok n, ⟨con53_ok n, ⟨con67_ok n, ⟨con64_ok n, trivial⟩⟩⟩⟩⟩⟩⟩⟩⟩⟩)
theorem blocks19 : blocks code19 = [] := by kernel_rfl
theorem ct19_13 (n : Nat) : CtOk (tb19 n) (sec code19 13).2 ⟨[(1, (.c false (.v true (.rs 3 (.int .i64))))), (2, (.b 39 [(.v true (.rs 115 (.rs 130 (.pair (.int .i64) (.pair (.int .i64) (.int .i64))))))])), (6, (.b 44 [(.o (.rs 50 (.rs 52 (.pair (.int .i64) (.pair (.int .i64) (.int .i64))))))])), (7, (.c false (.v true .bool))), (8, (.b 44 [(.o (.rs 50 (.rs 52 (.pair (.int .i64) (.pair (.int .i64) (.int .i64))))))])), (9, (.c false (.r 3 (.int .i64)))), (10, (.b 44 [(.o (.rs 50 (.rs 52 (.pair (.int .i64) (.pair (.int .i64) (.int .i64))))))])), (11, (.c false (.v true .bool)))], [(.ret, [(4, (.c false (.v true .bool)))])], fun v => J19_13 n v.1 v.2.1 v.2.2.1 v.2.2.2.1 v.2.2.2.2.1 v.2.2.2.2.2.1 v.2.2.2.2.2.2.1 v.2.2.2.2.2.2.2.1⟩ := fun _ => by kernel_rfl
theorem ct19_22 (n : Nat) : CtOk (tb19 n) (sec code19 25).2 ⟨[(1, (.c false (.v true (.rs 3 (.int .i64))))), (2, (.b 39 [(.v true (.rs 115 (.rs 130 (.pair (.int .i64) (.pair (.int .i64) (.int .i64))))))])), (6, (.b 44 [(.o (.rs 50 (.rs 52 (.pair (.int .i64) (.pair (.int .i64) (.int .i64))))))])), (7, (.c false (.v true .bool))), (10, (.b 44 [(.o (.rs 50 (.rs 52 (.pair (.int .i64) (.pair (.int .i64) (.int .i64))))))]))], [(.ret, [(4, (.c false (.v true .bool)))])], fun v => J19_22 n v.1 v.2.1 v.2.2.1 v.2.2.2.1 v.2.2.2.2.1⟩ := fun _ => by kernel_rfl
theorem ct19_33 (n : Nat) : CtOk (tb19 n) (sec code19 39).2 ⟨[(10, (.b 44 [(.o (.rs 50 (.rs 52 (.pair (.int .i64) (.pair (.int .i64) (.int .i64))))))])), (13, (.c false (.v true (.int .i64))))], [(.ret, [(4, (.c false (.v true .bool)))])], fun v => J19_33 n v.1 v.2.1⟩ := fun _ => by kernel_rfl
theorem secs19 : seconds code19 = [(some 1, (sec code19 0).2), (some 3, (sec code19 1).2), (none, (sec code19 2).2), (none, (sec code19 3).2), (some 4, (sec code19 4).2), (some 5, (sec code19 5).2), (some 7, (sec code19 6).2), (none, (sec code19 7).2), (none, (sec code19 8).2), (some 8, (sec code19 9).2), (some 9, (sec code19 10).2), (some 10, (sec code19 11).2), (some 11, (sec code19 12).2), (some 13, (sec code19 13).2), (none, (sec code19 14).2), (none, (sec code19 15).2), (some 15, (sec code19 16).2), (none, (sec code19 17).2), (none, (sec code19 18).2), (some 17, (sec code19 19).2), (none, (sec code19 20).2), (none, (sec code19 21).2), (some 18, (sec code19 22).2), (some 19, (sec code19 23).2), (some 20, (sec code19 24).2), (some 22, (sec code19 25).2), (none, (sec code19 26).2), (none, (sec code19 27).2), (some 23, (sec code19 28).2), (some 24, (sec code19 29).2), (some 25, (sec code19 30).2), (some 26, (sec code19 31).2), (some 28, (sec code19 32).2), (none, (sec code19 33).2), (none, (sec code19 34).2), (some 30, (sec code19 35).2), (none, (sec code19 36).2), (none, (sec code19 37).2), (some 31, (sec code19 38).2), (some 33, (sec code19 39).2), (none, (sec code19 40).2), (none, (sec code19 41).2), (some 34, (sec code19 42).2), (some 35, (sec code19 43).2), (some 37, (sec code19 44).2), (none, (sec code19 45).2), (none, (sec code19 46).2), (some 39, (sec code19 47).2), (none, (sec code19 48).2), (none, (sec code19 49).2), (none, (sec code19 50).2)] := by kernel_rfl
theorem la19 (n : Nat) : LpAll (tb19 n) code19 := lpAll blocks19 (bl_nil) secs19 (cs_none rfl (cs_none rfl (cs_none rfl (cs_none rfl (cs_none rfl (cs_none rfl (cs_none rfl (cs_none rfl (cs_none rfl (cs_none rfl (cs_none rfl (cs_none rfl (cs_none rfl (cs_one rfl (ct19_13 n) (cs_none rfl (cs_none rfl (cs_none rfl (cs_none rfl (cs_none rfl (cs_none rfl (cs_none rfl (cs_none rfl (cs_none rfl (cs_none rfl (cs_none rfl (cs_one rfl (ct19_22 n) (cs_none rfl (cs_none rfl (cs_none rfl (cs_none rfl (cs_none rfl (cs_none rfl (cs_none rfl (cs_none rfl (cs_none rfl (cs_none rfl (cs_none rfl (cs_none rfl (cs_none rfl (cs_one rfl (ct19_33 n) (cs_none rfl (cs_none rfl (cs_none rfl (cs_none rfl (cs_none rfl (cs_none rfl (cs_none rfl (cs_none rfl (cs_none rfl (cs_none rfl (cs_none rfl (cs_nil)))))))))))))))))))))))))))))))))))))))))))))))))))) (by kernel_rfl)
theorem ev19 (n : Nat) (x : pdens [.c true (.v true (.rs 115 (.rs 130 (.pair (.int .i64) (.pair (.int .i64) (.int .i64)))))), .c false (.v true (.rs 3 (.int .i64)))]) : evSig (tb19 n) Try.f19 [.c true (.v true (.rs 115 (.rs 130 (.pair (.int .i64) (.pair (.int .i64) (.int .i64)))))), .c false (.v true (.rs 3 (.int .i64)))] [.c false (.v true .bool)] x = F19 n x.1 x.2.1 := by kernel_rfl
theorem con19_ok (n : Nat) : Con.ok Try.prog 19 (con19 n) := conOf_ok (tb19_ok n) (body_la (by kernel_rfl : Try.f19.body = some code19) (la19 n)) Try.func19 (enters Try.func19 (by kernel_rfl) (by kernel_rfl)) rfl rfl (ev19 n)
end Go.Proofs.Ytaehbfaldofmbaa.Ev
