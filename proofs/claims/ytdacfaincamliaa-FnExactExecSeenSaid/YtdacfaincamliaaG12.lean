/- Plain functions that the loaded code comes to, and that it does. Conditions: none. -/
import Derived.Test.YtdacfaincamliaaGN
import Derived.Test.YtdacfaincamliaaGK
import Derived.Test.YtdacfaincamliaaGA
namespace Go.Proofs.Ytdacfaincamliaa.Ev
open Go Go.Proofs
/-! ### loop.example/fathomline/laws.FnExactExecSeen -/
def J12_34 (n : Nat) (x36 : List Int × List Int × Unit) (x37 : Int) : Option (odens [(.ret, [(4, (.c false (.v true .bool)))])]) :=
    (F25 n ((x36.fst, x36.snd.fst)) ((1 : Int))).bind fun y38 =>
    cond (Decidable.decide (y38.fst < (0 : Int)))
    (some (Sum.inl (Bool.false, ())))
    (cond (y38.fst != x37)
     (some (Sum.inl (Bool.false, ())))
     (some (Sum.inl (Bool.true, ()))))
def J12_23 (n : Nat) (x25 : List (List (Int × Int × Int)) × Unit) (x26 : (List Int × List (List Int)) × Unit) (x27 : List Int × List Int × Unit) (x28 : Bool) (x29 : List Int × List Int × Unit) : Option (odens [(.ret, [(4, (.c false (.v true .bool)))])]) :=
    (F24 n ((x29.fst, x29.snd.fst)) ((1 : Int))).bind fun y30 =>
    (F25 n ((y30.snd.fst.fst, y30.snd.fst.snd)) ((1 : Int))).bind fun y31 =>
    cond (Decidable.decide (y31.fst < (0 : Int)))
    (some (Sum.inl (Bool.false, ())))
    (cond (y31.fst != y30.fst)
     (some (Sum.inl (Bool.false, ())))
     ((F16 n (x25.fst)).bind fun y32 =>
      (F30 n ((x26.fst.fst, x26.fst.snd))).bind fun y33 =>
      (F40 n (y32.fst) ((y33.fst.fst, y33.fst.snd))).bind fun y34 =>
      (F19 n ((y34.fst.fst, y34.fst.snd)) ((x27.fst, x27.snd.fst))).bind fun y35 =>
      cond (!y35.fst)
      (some (Sum.inl (Bool.false, ())))
      (cond (!y34.snd.fst == x28)
       (some (Sum.inl (Bool.false, ())))
       (match J12_34 n ((y30.snd.fst.fst, y30.snd.fst.snd, ())) (y30.fst) with
        | none => none
        | some (Sum.inl v39) =>
         some (Sum.inl (v39.fst, ()))))))
def J12_14 (n : Nat) (x10 : List (List (Int × Int × Int)) × Unit) (x11 : (List Int × List (List Int)) × Unit) (x12 : List Int × List Int × Unit) (x13 : Bool) (x14 : List (List (Int × Int × Int)) × Unit) (x15 : List Int × List (List Int) × Unit) (x16 : List Int × List Int × Unit) (x17 : Bool) : Option (odens [(.ret, [(4, (.c false (.v true .bool)))])]) :=
    (F16 n (x10.fst)).bind fun y18 =>
    (F20 n (x14.fst) (y18.fst)).bind fun y19 =>
    cond (!y19.fst)
    (some (Sum.inl (Bool.false, ())))
    ((F30 n ((x11.fst.fst, x11.fst.snd))).bind fun y20 =>
     (F32 n ((x15.fst, x15.snd.fst)) ((y20.fst.fst, y20.fst.snd))).bind fun y21 =>
     cond (!y21.fst)
     (some (Sum.inl (Bool.false, ())))
     ((F22 n (x14.fst) ((1 : Int))).bind fun y22 =>
      (F48 n ((x15.fst, x15.snd.fst)) (y22.fst)).bind fun y23 =>
      cond (Decidable.decide (y23.fst < (0 : Int)))
      (some (Sum.inl (Bool.false, ())))
      ((F19 n ((x16.fst, x16.snd.fst)) ((x12.fst, x12.snd.fst))).bind fun y24 =>
       cond (!y24.fst)
       (some (Sum.inl (Bool.false, ())))
       (cond (!x17 == x13)
        (some (Sum.inl (Bool.false, ())))
        (match J12_23 n ((x10.fst, ())) (((x11.fst.fst, x11.fst.snd), ())) ((x12.fst, x12.snd.fst, ())) (x13) ((x16.fst, x16.snd.fst, ())) with
         | none => none
         | some (Sum.inl v40) =>
          some (Sum.inl (v40.fst, ())))))))
def F12 (n : Nat) (a0 : List (List (Int × Int × Int))) (a1 : List Int × List (List Int)) : Option (rdens [.c true (.v true (.rs 115 (.rs 154 (.pair (.int .i64) (.pair (.int .i64) (.int .i64)))))), .c true (.v true (.pair (.rs 3 (.int .i64)) (.rs 25 (.rs 3 (.int .i64)))))] [.c false (.v true .bool)]) :=
  (F14 n (a0) ((1048576 : Int))).bind fun y1 =>
  cond (Decidable.decide (y1.fst < (0 : Int)))
  (some (Bool.true, ()))
  ((F28 n ((a1.fst, a1.snd)) (y1.fst)).bind fun y2 =>
   cond (Decidable.decide (y2.fst < (0 : Int)))
   (some (Bool.true, ()))
   ((F16 n (a0)).bind fun y3 =>
    (F30 n ((a1.fst, a1.snd))).bind fun y4 =>
    (F39 n (y3.fst) ((y4.fst.fst, y4.fst.snd))).bind fun y5 =>
    (F16 n (a0)).bind fun y6 =>
    (F30 n ((a1.fst, a1.snd))).bind fun y7 =>
    (F40 n (y6.fst) ((y7.fst.fst, y7.fst.snd))).bind fun y8 =>
    (F19 n ((y8.fst.fst, y8.fst.snd)) ((y5.fst.fst, y5.fst.snd))).bind fun y9 =>
    cond (!y9.fst)
    (some (Bool.false, ()))
    (cond (!y8.snd.fst == y5.snd.fst)
     (some (Bool.false, ()))
     (match J12_14 n ((a0, ())) (((a1.fst, a1.snd), ())) ((y5.fst.fst, y5.fst.snd, ())) (y5.snd.fst) ((y6.fst, ())) ((y7.fst.fst, y7.fst.snd, ())) ((y8.fst.fst, y8.fst.snd, ())) (y8.snd.fst) with
      | none => none
      | some (Sum.inl v41) =>
       some (v41.fst, ())))))
noncomputable def con12 (n : Nat) : Con := conOf [.c true (.v true (.rs 115 (.rs 154 (.pair (.int .i64) (.pair (.int .i64) (.int .i64)))))), .c true (.v true (.pair (.rs 3 (.int .i64)) (.rs 25 (.rs 3 (.int .i64)))))] [.c false (.v true .bool)] fun x => F12 n x.1 x.2.1
noncomputable def tb12 (n : Nat) : Tb := ⟨tiOf Try.prog, conL [(14, con14 n), (28, con28 n), (16, con16 n), (30, con30 n), (39, con39 n), (40, con40 n), (19, con19 n), (20, con20 n), (32, con32 n), (22, con22 n), (48, con48 n), (24, con24 n), (25, con25 n)], n, [], 119, lpL [], ctL [(34, ⟨[(10, (.b 28 [(.r 3 (.int .i64)), (.r 3 (.int .i64))])), (13, (.c false (.v true (.int .i64))))], [(.ret, [(4, (.c false (.v true .bool)))])], fun v => J12_34 n v.1 v.2.1⟩), (23, ⟨[(2, (.b 24 [(.v true (.rs 115 (.rs 154 (.pair (.int .i64) (.pair (.int .i64) (.int .i64))))))])), (3, (.b 45 [(.v true (.pair (.rs 3 (.int .i64)) (.rs 25 (.rs 3 (.int .i64)))))])), (6, (.b 28 [(.r 3 (.int .i64)), (.r 3 (.int .i64))])), (7, (.c false (.v true .bool))), (10, (.b 28 [(.r 3 (.int .i64)), (.r 3 (.int .i64))]))], [(.ret, [(4, (.c false (.v true .bool)))])], fun v => J12_23 n v.1 v.2.1 v.2.2.1 v.2.2.2.1 v.2.2.2.2.1⟩), (14, ⟨[(2, (.b 24 [(.v true (.rs 115 (.rs 154 (.pair (.int .i64) (.pair (.int .i64) (.int .i64))))))])), (3, (.b 45 [(.v true (.pair (.rs 3 (.int .i64)) (.rs 25 (.rs 3 (.int .i64)))))])), (6, (.b 28 [(.r 3 (.int .i64)), (.r 3 (.int .i64))])), (7, (.c false (.v true .bool))), (8, (.b 33 [(.o (.rs 57 (.rs 59 (.pair (.int .i64) (.pair (.int .i64) (.int .i64))))))])), (9, (.b 48 [(.r 3 (.int .i64)), (.o (.rs 25 (.rs 3 (.int .i64))))])), (10, (.b 28 [(.r 3 (.int .i64)), (.r 3 (.int .i64))])), (11, (.c false (.v true .bool)))], [(.ret, [(4, (.c false (.v true .bool)))])], fun v => J12_14 n v.1 v.2.1 v.2.2.1 v.2.2.2.1 v.2.2.2.2.1 v.2.2.2.2.2.1 v.2.2.2.2.2.2.1 v.2.2.2.2.2.2.2.1⟩)], [], true⟩
noncomputable def code12 : Code := Try.f12.body.getD .skip
theorem tb12_ok (n : Nat) : (tb12 n).ok Try.prog := tbOk mixed (⟨con14_ok n, ⟨con28_ok n, ⟨con16_ok n, ⟨con30_ok n, ⟨con39_ok n, ⟨con40_ok n, ⟨con19_ok n, ⟨con20_ok n, ⟨con32_ok n, ⟨con22_ok n, ⟨con48_ok n, ⟨con24_ok n, ⟨con25_ok n, trivial⟩⟩⟩⟩⟩⟩⟩⟩⟩⟩⟩⟩⟩)
theorem blocks12 : blocks code12 = [] := by kernel_rfl
theorem ct12_14 (n : Nat) : CtOk (tb12 n) (sec code12 14).2 ⟨[(2, (.b 24 [(.v true (.rs 115 (.rs 154 (.pair (.int .i64) (.pair (.int .i64) (.int .i64))))))])), (3, (.b 45 [(.v true (.pair (.rs 3 (.int .i64)) (.rs 25 (.rs 3 (.int .i64)))))])), (6, (.b 28 [(.r 3 (.int .i64)), (.r 3 (.int .i64))])), (7, (.c false (.v true .bool))), (8, (.b 33 [(.o (.rs 57 (.rs 59 (.pair (.int .i64) (.pair (.int .i64) (.int .i64))))))])), (9, (.b 48 [(.r 3 (.int .i64)), (.o (.rs 25 (.rs 3 (.int .i64))))])), (10, (.b 28 [(.r 3 (.int .i64)), (.r 3 (.int .i64))])), (11, (.c false (.v true .bool)))], [(.ret, [(4, (.c false (.v true .bool)))])], fun v => J12_14 n v.1 v.2.1 v.2.2.1 v.2.2.2.1 v.2.2.2.2.1 v.2.2.2.2.2.1 v.2.2.2.2.2.2.1 v.2.2.2.2.2.2.2.1⟩ := fun _ => by kernel_rfl
theorem ct12_23 (n : Nat) : CtOk (tb12 n) (sec code12 26).2 ⟨[(2, (.b 24 [(.v true (.rs 115 (.rs 154 (.pair (.int .i64) (.pair (.int .i64) (.int .i64))))))])), (3, (.b 45 [(.v true (.pair (.rs 3 (.int .i64)) (.rs 25 (.rs 3 (.int .i64)))))])), (6, (.b 28 [(.r 3 (.int .i64)), (.r 3 (.int .i64))])), (7, (.c false (.v true .bool))), (10, (.b 28 [(.r 3 (.int .i64)), (.r 3 (.int .i64))]))], [(.ret, [(4, (.c false (.v true .bool)))])], fun v => J12_23 n v.1 v.2.1 v.2.2.1 v.2.2.2.1 v.2.2.2.2.1⟩ := fun _ => by kernel_rfl
theorem ct12_34 (n : Nat) : CtOk (tb12 n) (sec code12 40).2 ⟨[(10, (.b 28 [(.r 3 (.int .i64)), (.r 3 (.int .i64))])), (13, (.c false (.v true (.int .i64))))], [(.ret, [(4, (.c false (.v true .bool)))])], fun v => J12_34 n v.1 v.2.1⟩ := fun _ => by kernel_rfl
theorem secs12 : seconds code12 = [(some 1, (sec code12 0).2), (some 2, (sec code12 1).2), (some 3, (sec code12 2).2), (some 5, (sec code12 3).2), (none, (sec code12 4).2), (none, (sec code12 5).2), (some 6, (sec code12 6).2), (some 8, (sec code12 7).2), (none, (sec code12 8).2), (none, (sec code12 9).2), (some 9, (sec code12 10).2), (some 10, (sec code12 11).2), (some 11, (sec code12 12).2), (some 12, (sec code12 13).2), (some 14, (sec code12 14).2), (none, (sec code12 15).2), (none, (sec code12 16).2), (some 16, (sec code12 17).2), (none, (sec code12 18).2), (none, (sec code12 19).2), (some 18, (sec code12 20).2), (none, (sec code12 21).2), (none, (sec code12 22).2), (some 19, (sec code12 23).2), (some 20, (sec code12 24).2), (some 21, (sec code12 25).2), (some 23, (sec code12 26).2), (none, (sec code12 27).2), (none, (sec code12 28).2), (some 24, (sec code12 29).2), (some 25, (sec code12 30).2), (some 26, (sec code12 31).2), (some 27, (sec code12 32).2), (some 29, (sec code12 33).2), (none, (sec code12 34).2), (none, (sec code12 35).2), (some 31, (sec code12 36).2), (none, (sec code12 37).2), (none, (sec code12 38).2), (some 32, (sec code12 39).2), (some 34, (sec code12 40).2), (none, (sec code12 41).2), (none, (sec code12 42).2), (some 35, (sec code12 43).2), (some 36, (sec code12 44).2), (some 38, (sec code12 45).2), (none, (sec code12 46).2), (none, (sec code12 47).2), (some 40, (sec code12 48).2), (none, (sec code12 49).2), (none, (sec code12 50).2), (none, (sec code12 51).2)] := by kernel_rfl
theorem la12 (n : Nat) : LpAll (tb12 n) code12 := lpAll blocks12 (bl_nil) secs12 (cs_none rfl (cs_none rfl (cs_none rfl (cs_none rfl (cs_none rfl (cs_none rfl (cs_none rfl (cs_none rfl (cs_none rfl (cs_none rfl (cs_none rfl (cs_none rfl (cs_none rfl (cs_none rfl (cs_one rfl (ct12_14 n) (cs_none rfl (cs_none rfl (cs_none rfl (cs_none rfl (cs_none rfl (cs_none rfl (cs_none rfl (cs_none rfl (cs_none rfl (cs_none rfl (cs_none rfl (cs_one rfl (ct12_23 n) (cs_none rfl (cs_none rfl (cs_none rfl (cs_none rfl (cs_none rfl (cs_none rfl (cs_none rfl (cs_none rfl (cs_none rfl (cs_none rfl (cs_none rfl (cs_none rfl (cs_none rfl (cs_one rfl (ct12_34 n) (cs_none rfl (cs_none rfl (cs_none rfl (cs_none rfl (cs_none rfl (cs_none rfl (cs_none rfl (cs_none rfl (cs_none rfl (cs_none rfl (cs_none rfl (cs_nil))))))))))))))))))))))))))))))))))))))))))))))))))))) (by kernel_rfl)
theorem ev12 (n : Nat) (x : pdens [.c true (.v true (.rs 115 (.rs 154 (.pair (.int .i64) (.pair (.int .i64) (.int .i64)))))), .c true (.v true (.pair (.rs 3 (.int .i64)) (.rs 25 (.rs 3 (.int .i64)))))]) : evSig (tb12 n) Try.f12 [.c true (.v true (.rs 115 (.rs 154 (.pair (.int .i64) (.pair (.int .i64) (.int .i64)))))), .c true (.v true (.pair (.rs 3 (.int .i64)) (.rs 25 (.rs 3 (.int .i64)))))] [.c false (.v true .bool)] x = F12 n x.1 x.2.1 := by kernel_rfl
theorem con12_ok (n : Nat) : Con.ok Try.prog 12 (con12 n) := conOf_ok (tb12_ok n) (body_la (by kernel_rfl : Try.f12.body = some code12) (la12 n)) Try.func12 (enters Try.func12 (by kernel_rfl) (by kernel_rfl)) rfl rfl (ev12 n)
end Go.Proofs.Ytdacfaincamliaa.Ev
