/- Plain functions that the loaded code comes to, and that it does. Conditions: none. -/
import Derived.Test.YtaehbfaldofmbaaGP
namespace Go.Proofs.Ytaehbfaldofmbaa.Ev
open Go Go.Proofs
/-! ### loop.example/fathomline/spec.WallAll -/
def L62_0 (n : Nat) : Nat → List (List (Int × Int × Int)) × Unit → List (List (Int × Int × Int)) × Unit → List Int → Int → Option (odens [((.exit 0), [(1, (.b 44 [(.v false (.rs 50 (.rs 52 (.pair (.int .i64) (.pair (.int .i64) (.int .i64))))))])), (2, (.b 44 [(.o (.rs 50 (.rs 52 (.pair (.int .i64) (.pair (.int .i64) (.int .i64))))))])), (4, (.c false (.r 3 (.int .i64))))])])
  | 0, _, _, _, _ => none
  | m + 1, x1, x2, x3, x4 =>
    (F40 n (x1.fst)).bind fun y5 =>
    cond (Decidable.decide (x4 < y5.fst))
    (if (x3.length + [x4].length) * (8 : Nat) ≤ (140737488355328 : Nat) then
     L62_0 n m ((x1.fst, ())) ((x2.fst, ())) (x3 ++ [x4]) (Go.IntKind.i64.wrap (x4 + (1 : Int)))
     else none)
    (some (Sum.inl ((x1.fst, ()), (x2.fst, ()), x3, ())))
def F62 (n : Nat) (a0 : List (List (Int × Int × Int))) : Option (rdens [.c true (.v false (.rs 50 (.rs 52 (.pair (.int .i64) (.pair (.int .i64) (.int .i64))))))] [.c true (.o (.rs 50 (.rs 52 (.pair (.int .i64) (.pair (.int .i64) (.int .i64)))))), .c false (.v true .bool)]) :=
  match L62_0 n n ((a0, ())) (([], ())) ([]) ((0 : Int)) with
  | none => none
  | some (Sum.inl v6) =>
   (F59 n (v6.fst.fst) (v6.snd.snd.fst)).bind fun y7 =>
   some (y7.fst, y7.snd.fst, ())
noncomputable def con62 (n : Nat) : Con := conOf [.c true (.v false (.rs 50 (.rs 52 (.pair (.int .i64) (.pair (.int .i64) (.int .i64))))))] [.c true (.o (.rs 50 (.rs 52 (.pair (.int .i64) (.pair (.int .i64) (.int .i64)))))), .c false (.v true .bool)] fun x => F62 n x.1
noncomputable def tb62 (n : Nat) : Tb := ⟨tiOf Try.prog, conL [(40, con40 n), (59, con59 n)], n, [], 22, lpL [(0, ⟨[(1, (.b 44 [(.v false (.rs 50 (.rs 52 (.pair (.int .i64) (.pair (.int .i64) (.int .i64))))))])), (2, (.b 44 [(.o (.rs 50 (.rs 52 (.pair (.int .i64) (.pair (.int .i64) (.int .i64))))))])), (4, (.c false (.r 3 (.int .i64)))), (5, (.c false (.v true (.int .i64))))], [((.exit 0), [(1, (.b 44 [(.v false (.rs 50 (.rs 52 (.pair (.int .i64) (.pair (.int .i64) (.int .i64))))))])), (2, (.b 44 [(.o (.rs 50 (.rs 52 (.pair (.int .i64) (.pair (.int .i64) (.int .i64))))))])), (4, (.c false (.r 3 (.int .i64))))])], fun m v => L62_0 n m v.1 v.2.1 v.2.2.1 v.2.2.2.1⟩)], ctL [], [], true⟩
noncomputable def code62 : Code := Try.f62.body.getD .skip
theorem tb62_ok (n : Nat) : (tb62 n).ok Try.prog := tbOk mixed (⟨con40_ok n, ⟨con59_ok n, trivial⟩⟩)
theorem lp62_0 (n : Nat) : LpAt (tb62 n) (loopBody code62 0) 0 := lpAt rfl (fun _ => by kernel_rfl) (fun _ _ => by kernel_rfl)
theorem blocks62 : blocks code62 = [(0, .loop (loopBody code62 0)), (1, blockBody code62 1)] := by kernel_rfl
theorem la62 (n : Nat) : LpAll (tb62 n) code62 := lpAll blocks62 (bl_loop (lp62_0 n) (bl_none rfl (bl_nil))) rfl (cs_no fun _ => rfl) (by kernel_rfl)
theorem ev62 (n : Nat) (x : pdens [.c true (.v false (.rs 50 (.rs 52 (.pair (.int .i64) (.pair (.int .i64) (.int .i64))))))]) : evSig (tb62 n) Try.f62 [.c true (.v false (.rs 50 (.rs 52 (.pair (.int .i64) (.pair (.int .i64) (.int .i64))))))] [.c true (.o (.rs 50 (.rs 52 (.pair (.int .i64) (.pair (.int .i64) (.int .i64)))))), .c false (.v true .bool)] x = F62 n x.1 := by kernel_rfl
theorem con62_ok (n : Nat) : Con.ok Try.prog 62 (con62 n) := conOf_ok (tb62_ok n) (body_la (by kernel_rfl : Try.f62.body = some code62) (la62 n)) Try.func62 (enters Try.func62 (by kernel_rfl) (by kernel_rfl)) rfl rfl (ev62 n)
/-! ### loop.example/fathomline/impl.WallAll -/
def L63_0 (n : Nat) : Nat → List (List (Int × Int × Int)) × Unit → List (List (Int × Int × Int)) × Unit → List Int → Int → Int → Option (odens [((.exit 0), [(1, (.b 44 [(.v false (.rs 50 (.rs 52 (.pair (.int .i64) (.pair (.int .i64) (.int .i64))))))])), (2, (.b 44 [(.o (.rs 50 (.rs 52 (.pair (.int .i64) (.pair (.int .i64) (.int .i64))))))])), (4, (.c false (.r 3 (.int .i64))))])])
  | 0, _, _, _, _, _ => none
  | m + 1, x2, x3, x4, x5, x6 =>
    cond (Decidable.decide (x6 < x5))
    (if (x4.length + [x6].length) * (8 : Nat) ≤ (140737488355328 : Nat) then
     L63_0 n m ((x2.fst, ())) ((x3.fst, ())) (x4 ++ [x6]) (x5) (Go.IntKind.i64.wrap (x6 + (1 : Int)))
     else none)
    (some (Sum.inl ((x2.fst, ()), (x3.fst, ()), x4, ())))
def F63 (n : Nat) (a0 : List (List (Int × Int × Int))) : Option (rdens [.c true (.v false (.rs 50 (.rs 52 (.pair (.int .i64) (.pair (.int .i64) (.int .i64))))))] [.c true (.o (.rs 50 (.rs 52 (.pair (.int .i64) (.pair (.int .i64) (.int .i64)))))), .c false (.v true .bool)]) :=
  (F41 n (a0)).bind fun y1 =>
  match L63_0 n n ((a0, ())) (([], ())) ([]) (if (0 : Int) > y1.fst then (0 : Int) else y1.fst) ((0 : Int)) with
  | none => none
  | some (Sum.inl v7) =>
   (F60 n (v7.fst.fst) (v7.snd.snd.fst)).bind fun y8 =>
   some (y8.fst, y8.snd.fst, ())
noncomputable def con63 (n : Nat) : Con := conOf [.c true (.v false (.rs 50 (.rs 52 (.pair (.int .i64) (.pair (.int .i64) (.int .i64))))))] [.c true (.o (.rs 50 (.rs 52 (.pair (.int .i64) (.pair (.int .i64) (.int .i64)))))), .c false (.v true .bool)] fun x => F63 n x.1
noncomputable def tb63 (n : Nat) : Tb := ⟨tiOf Try.prog, conL [(41, con41 n), (60, con60 n)], n, [], 22, lpL [(0, ⟨[(1, (.b 44 [(.v false (.rs 50 (.rs 52 (.pair (.int .i64) (.pair (.int .i64) (.int .i64))))))])), (2, (.b 44 [(.o (.rs 50 (.rs 52 (.pair (.int .i64) (.pair (.int .i64) (.int .i64))))))])), (4, (.c false (.r 3 (.int .i64)))), (8, (.c false (.v true (.int .i64)))), (9, (.c false (.v true (.int .i64))))], [((.exit 0), [(1, (.b 44 [(.v false (.rs 50 (.rs 52 (.pair (.int .i64) (.pair (.int .i64) (.int .i64))))))])), (2, (.b 44 [(.o (.rs 50 (.rs 52 (.pair (.int .i64) (.pair (.int .i64) (.int .i64))))))])), (4, (.c false (.r 3 (.int .i64))))])], fun m v => L63_0 n m v.1 v.2.1 v.2.2.1 v.2.2.2.1 v.2.2.2.2.1⟩)], ctL [], [], true⟩
noncomputable def code63 : Code := Try.f63.body.getD .skip
theorem tb63_ok (n : Nat) : (tb63 n).ok Try.prog := tbOk mixed (⟨con41_ok n, ⟨con60_ok n, trivial⟩⟩)
theorem lp63_0 (n : Nat) : LpAt (tb63 n) (loopBody code63 0) 0 := lpAt rfl (fun _ => by kernel_rfl) (fun _ _ => by kernel_rfl)
theorem blocks63 : blocks code63 = [(0, .loop (loopBody code63 0)), (1, blockBody code63 1)] := by kernel_rfl
theorem la63 (n : Nat) : LpAll (tb63 n) code63 := lpAll blocks63 (bl_loop (lp63_0 n) (bl_none rfl (bl_nil))) rfl (cs_no fun _ => rfl) (by kernel_rfl)
theorem ev63 (n : Nat) (x : pdens [.c true (.v false (.rs 50 (.rs 52 (.pair (.int .i64) (.pair (.int .i64) (.int .i64))))))]) : evSig (tb63 n) Try.f63 [.c true (.v false (.rs 50 (.rs 52 (.pair (.int .i64) (.pair (.int .i64) (.int .i64))))))] [.c true (.o (.rs 50 (.rs 52 (.pair (.int .i64) (.pair (.int .i64) (.int .i64)))))), .c false (.v true .bool)] x = F63 n x.1 := by kernel_rfl
theorem con63_ok (n : Nat) : Con.ok Try.prog 63 (con63 n) := conOf_ok (tb63_ok n) (body_la (by kernel_rfl : Try.f63.body = some code63) (la63 n)) Try.func63 (enters Try.func63 (by kernel_rfl) (by kernel_rfl)) rfl rfl (ev63 n)
end Go.Proofs.Ytaehbfaldofmbaa.Ev
