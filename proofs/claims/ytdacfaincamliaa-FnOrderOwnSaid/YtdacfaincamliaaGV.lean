/- Plain functions that the loaded code comes to, and that it does. Conditions: none. -/
import Derived.Test.YtdacfaincamliaaGD
import Derived.Test.YtdacfaincamliaaGO
namespace Go.Proofs.Ytdacfaincamliaa.Ev
open Go Go.Proofs
/-! ### loop.example/fathomline/spec.l71Exec -/
def J82_14 (n : Nat) (x7 : (List Int × Int) × Unit) (x8 : List (List (Int × Int × Int)) × Unit) (x9 : List Int × List (List Int) × Unit) (x10 : List (List (Int × Int × Int)) × Unit) (x11 : List Int × List (List Int) × Unit) : Option (odens [(.ret, [(0, (.b 145 [(.v true (.pair (.rs 5 (.int .u8)) (.int .i64)))])), (2, (.b 33 [(.v true yP)])), (3, (.b 48 [(.r 3 (.int .i64)), (.o (.rs 25 (.rs 3 (.int .i64))))]))])]) :=
    some (Sum.inl (((x7.fst.fst, x7.fst.snd), ()), (x10.fst, ()), (x11.fst, x11.snd.fst, ()), ()))
def F82 (n : Nat) (a0 : (List Int × Int) × Unit) : Option (rdens [.b 145 [.v true (.pair (.rs 5 (.int .u8)) (.int .i64))]] [.c true (.v true yP), .c true (.o yX)]) :=
  (F73 n (((a0.fst.fst, a0.fst.snd), ()))).bind fun y1 =>
  (F35 n (y1.fst)).bind fun y2 =>
  cond ((↑(List.length y2.fst) : Int) == (0 : Int))
  (some (y1.fst, ([(-2 : Int)], [[], [], []]), ((y1.snd.fst.fst.fst, y1.snd.fst.fst.snd), ()), ()))
  ((F114 n (((y1.snd.fst.fst.fst, y1.snd.fst.fst.snd), ())) ((↑(List.length y2.fst) : Int))).bind fun y3 =>
   if (0 : Int) ≤ y3.fst then
   if y3.fst < (↑(List.length y2.fst) : Int) then
   if Int.toNat y3.fst < List.length y2.fst then
   if (List.take (Int.toNat y3.fst) y2.fst).length = Int.toNat y3.fst then
   (F114 n (((y3.snd.fst.fst.fst, y3.snd.fst.fst.snd), ())) ((12 : Int))).bind fun y4 =>
   cond (y4.fst == (0 : Int))
   (cond (Decidable.decide ((↑(List.length (List.getD y2.fst (Int.toNat y3.fst) ([], [])).fst) : Int) > (0 : Int)))
    ((F114 n (((y4.snd.fst.fst.fst, y4.snd.fst.fst.snd), ())) ((↑(List.length (List.getD y2.fst (Int.toNat y3.fst) ([], [])).fst) : Int))).bind fun y5 =>
     (F114 n (((y5.snd.fst.fst.fst, y5.snd.fst.fst.snd), ())) ((7 : Int))).bind fun y6 =>
     if (0 : Int) ≤ y5.fst then
     if y5.fst < (↑(List.length (List.getD y2.fst (Int.toNat y3.fst) ([], [])).fst) : Int) then
     if Int.toNat y5.fst < List.length (List.getD y2.fst (Int.toNat y3.fst) ([], [])).fst then
     match J82_14 n (((y6.snd.fst.fst.fst, y6.snd.fst.fst.snd), ())) (([], ())) (([], [], ())) ((y1.fst, ())) ((List.set (List.getD y2.fst (Int.toNat y3.fst) ([], [])).fst (Int.toNat y5.fst) (Go.IntKind.i64.wrap (y6.fst - (3 : Int))), (List.getD y2.fst (Int.toNat y3.fst) ([], [])).snd, ())) with
     | none => none
     | some (Sum.inl v12) =>
      some (v12.snd.fst.fst, (v12.snd.snd.fst.fst, v12.snd.snd.fst.snd.fst), ((v12.fst.fst.fst, v12.fst.fst.snd), ()), ())
     else none
     else none
     else none)
    (match J82_14 n (((y4.snd.fst.fst.fst, y4.snd.fst.fst.snd), ())) (([], ())) (([], [], ())) ((y1.fst, ())) (((List.getD y2.fst (Int.toNat y3.fst) ([], [])).fst, (List.getD y2.fst (Int.toNat y3.fst) ([], [])).snd, ())) with
     | none => none
     | some (Sum.inl v13) =>
      some (v13.snd.fst.fst, (v13.snd.snd.fst.fst, v13.snd.snd.fst.snd.fst), ((v13.fst.fst.fst, v13.fst.fst.snd), ()), ())))
   (cond (y4.fst == (1 : Int))
    (if Int.toNat (0 : Int) < List.length (List.getD y2.fst (Int.toNat y3.fst) ([], [])).snd then
     if (0 : Int) < (↑((List.take (Int.toNat (0 : Int)) (List.getD y2.fst (Int.toNat y3.fst) ([], [])).snd).length + (1 : Nat) + (List.drop (Int.toNat (0 : Int) + (1 : Nat)) (List.getD y2.fst (Int.toNat y3.fst) ([], [])).snd).length) : Int) then
     if (List.length (List.getD (List.getD y2.fst (Int.toNat y3.fst) ([], [])).snd (Int.toNat (0 : Int)) []) + [(0 : Int)].length) * (8 : Nat) ≤ (140737488355328 : Nat) then
     if (0 : Int) < (↑((List.take (Int.toNat (0 : Int)) (List.getD y2.fst (Int.toNat y3.fst) ([], [])).snd).length + (1 : Nat) + (List.drop (Int.toNat (0 : Int) + (1 : Nat)) (List.getD y2.fst (Int.toNat y3.fst) ([], [])).snd).length) : Int) then
     match J82_14 n (((y4.snd.fst.fst.fst, y4.snd.fst.fst.snd), ())) (([], ())) (([], [], ())) ((y1.fst, ())) (((List.getD y2.fst (Int.toNat y3.fst) ([], [])).fst, List.take (Int.toNat (0 : Int)) (List.getD y2.fst (Int.toNat y3.fst) ([], [])).snd ++ (List.getD (List.getD y2.fst (Int.toNat y3.fst) ([], [])).snd (Int.toNat (0 : Int)) [] ++ [(0 : Int)]) :: List.drop (Int.toNat (0 : Int) + (1 : Nat)) (List.getD y2.fst (Int.toNat y3.fst) ([], [])).snd, ())) with
     | none => none
     | some (Sum.inl v14) =>
      some (v14.snd.fst.fst, (v14.snd.snd.fst.fst, v14.snd.snd.fst.snd.fst), ((v14.fst.fst.fst, v14.fst.fst.snd), ()), ())
     else none
     else none
     else none
     else none)
    (cond (y4.fst == (2 : Int))
     (if (List.length (List.getD y2.fst (Int.toNat y3.fst) ([], [])).fst + [(-2 : Int)].length) * (8 : Nat) ≤ (140737488355328 : Nat) then
      match J82_14 n (((y4.snd.fst.fst.fst, y4.snd.fst.fst.snd), ())) (([], ())) (([], [], ())) ((y1.fst, ())) (((List.getD y2.fst (Int.toNat y3.fst) ([], [])).fst ++ [(-2 : Int)], (List.getD y2.fst (Int.toNat y3.fst) ([], [])).snd, ())) with
      | none => none
      | some (Sum.inl v15) =>
       some (v15.snd.fst.fst, (v15.snd.snd.fst.fst, v15.snd.snd.fst.snd.fst), ((v15.fst.fst.fst, v15.fst.fst.snd), ()), ())
      else none)
     (match J82_14 n (((y4.snd.fst.fst.fst, y4.snd.fst.fst.snd), ())) (([], ())) (([], [], ())) ((y1.fst, ())) (((List.getD y2.fst (Int.toNat y3.fst) ([], [])).fst, (List.getD y2.fst (Int.toNat y3.fst) ([], [])).snd, ())) with
      | none => none
      | some (Sum.inl v16) =>
       some (v16.snd.fst.fst, (v16.snd.snd.fst.fst, v16.snd.snd.fst.snd.fst), ((v16.fst.fst.fst, v16.fst.fst.snd), ()), ()))))
   else none
   else none
   else none
   else none)
noncomputable def con82 (n : Nat) : Con := conOf [.b 145 [.v true (.pair (.rs 5 (.int .u8)) (.int .i64))]] [.c true (.v true yP), .c true (.o yX)] fun x => F82 n x.1
noncomputable def tb82 (n : Nat) : Tb := ⟨tiOf Try.prog, conL [(73, con73 n), (35, con35 n), (114, con114 n)], n, [], 67, lpL [], ctL [(14, ⟨[(0, (.b 145 [(.v true (.pair (.rs 5 (.int .u8)) (.int .i64)))])), (2, (.b 33 [(.o yP)])), (3, (.b 48 [(.r 3 (.int .i64)), (.o (.rs 25 (.rs 3 (.int .i64))))])), (4, (.b 33 [(.v true yP)])), (6, (.b 48 [(.r 3 (.int .i64)), (.o (.rs 25 (.rs 3 (.int .i64))))]))], [(.ret, [(0, (.b 145 [(.v true (.pair (.rs 5 (.int .u8)) (.int .i64)))])), (2, (.b 33 [(.v true yP)])), (3, (.b 48 [(.r 3 (.int .i64)), (.o (.rs 25 (.rs 3 (.int .i64))))]))])], fun v => J82_14 n v.1 v.2.1 v.2.2.1 v.2.2.2.1 v.2.2.2.2.1⟩)], [0], true⟩
noncomputable def code82 : Code := Try.f82.body.getD .skip
theorem tb82_ok (n : Nat) : (tb82 n).ok Try.prog := tbOk mixed (⟨con73_ok n, ⟨con35_ok n, ⟨con114_ok n, trivial⟩⟩⟩)
theorem blocks82 : blocks code82 = [(0, blockBody code82 0)] := by kernel_rfl
theorem ct82_14 (n : Nat) : CtOk (tb82 n) (sec code82 7).2 ⟨[(0, (.b 145 [(.v true (.pair (.rs 5 (.int .u8)) (.int .i64)))])), (2, (.b 33 [(.o yP)])), (3, (.b 48 [(.r 3 (.int .i64)), (.o (.rs 25 (.rs 3 (.int .i64))))])), (4, (.b 33 [(.v true yP)])), (6, (.b 48 [(.r 3 (.int .i64)), (.o (.rs 25 (.rs 3 (.int .i64))))]))], [(.ret, [(0, (.b 145 [(.v true (.pair (.rs 5 (.int .u8)) (.int .i64)))])), (2, (.b 33 [(.v true yP)])), (3, (.b 48 [(.r 3 (.int .i64)), (.o (.rs 25 (.rs 3 (.int .i64))))]))])], fun v => J82_14 n v.1 v.2.1 v.2.2.1 v.2.2.2.1 v.2.2.2.2.1⟩ := fun _ => by kernel_rfl
theorem secs82 : seconds code82 = [(some 1, (sec code82 0).2), (some 2, (sec code82 1).2), (some 3, (sec code82 2).2), (some 5, (sec code82 3).2), (none, (sec code82 4).2), (none, (sec code82 5).2), (some 6, (sec code82 6).2), (some 14, (sec code82 7).2), (some 7, (sec code82 8).2), (none, (sec code82 9).2), (none, (sec code82 10).2), (none, (sec code82 11).2), (none, (sec code82 12).2), (none, (sec code82 13).2)] := by kernel_rfl
theorem la82 (n : Nat) : LpAll (tb82 n) code82 := lpAll blocks82 (bl_none rfl (bl_nil)) secs82 (cs_none rfl (cs_none rfl (cs_none rfl (cs_none rfl (cs_none rfl (cs_none rfl (cs_none rfl (cs_one rfl (ct82_14 n) (cs_none rfl (cs_none rfl (cs_none rfl (cs_none rfl (cs_none rfl (cs_none rfl (cs_nil))))))))))))))) (by kernel_rfl)
theorem ev82 (n : Nat) (x : pdens [.b 145 [.v true (.pair (.rs 5 (.int .u8)) (.int .i64))]]) : evSig (tb82 n) Try.f82 [.b 145 [.v true (.pair (.rs 5 (.int .u8)) (.int .i64))]] [.c true (.v true yP), .c true (.o yX)] x = F82 n x.1 := by kernel_rfl
theorem con82_ok (n : Nat) : Con.ok Try.prog 82 (con82 n) := conOf_ok (tb82_ok n) (body_la (by kernel_rfl : Try.f82.body = some code82) (la82 n)) Try.func82 (enters Try.func82 (by kernel_rfl) (by kernel_rfl)) rfl rfl (ev82 n)
/-! ### loop.example/fathomline/spec.DrawExecSeen -/
def F38 (n : Nat) (a0 : List Int) : Option (rdens [.c false (.v true (.rs 5 (.int .u8)))] [.c true (.v true yP), .c true (.o yX)]) :=
  (F74 n (a0)).bind fun y1 =>
  (F82 n (((y1.fst.fst.fst, y1.fst.fst.snd), ()))).bind fun y2 =>
  some (y2.fst, (y2.snd.fst.fst, y2.snd.fst.snd), ())
noncomputable def con38 (n : Nat) : Con := conOf [.c false (.v true (.rs 5 (.int .u8)))] [.c true (.v true yP), .c true (.o yX)] fun x => F38 n x.1
noncomputable def tb38 (n : Nat) : Tb := ⟨tiOf Try.prog, conL [(74, con74 n), (82, con82 n)], n, [], 9, lpL [], ctL [], [], true⟩
noncomputable def code38 : Code := Try.f38.body.getD .skip
theorem tb38_ok (n : Nat) : (tb38 n).ok Try.prog := tbOk mixed (⟨con74_ok n, ⟨con82_ok n, trivial⟩⟩)
theorem blocks38 : blocks code38 = [] := by kernel_rfl
theorem la38 (n : Nat) : LpAll (tb38 n) code38 := lpAll blocks38 (bl_nil) rfl (cs_no fun _ => rfl) (by kernel_rfl)
theorem ev38 (n : Nat) (x : pdens [.c false (.v true (.rs 5 (.int .u8)))]) : evSig (tb38 n) Try.f38 [.c false (.v true (.rs 5 (.int .u8)))] [.c true (.v true yP), .c true (.o yX)] x = F38 n x.1 := by kernel_rfl
theorem con38_ok (n : Nat) : Con.ok Try.prog 38 (con38 n) := conOf_ok (tb38_ok n) (body_la (by kernel_rfl : Try.f38.body = some code38) (la38 n)) Try.func38 (enters Try.func38 (by kernel_rfl) (by kernel_rfl)) rfl rfl (ev38 n)
end Go.Proofs.Ytdacfaincamliaa.Ev
