/- Plain functions that the loaded code comes to, and that it does. Conditions: none. -/
import Derived.Test.YtaehbfaldofmbaaGA
namespace Go.Proofs.Ytaehbfaldofmbaa.Ev
open Go Go.Proofs
/-! ### loop.example/fathomline/spec.WallGaps -/
def L40_0 (n : Nat) : Nat → List (List (Int × Int × Int)) × Unit → Int → Int → Option (odens [((.exit 0), [(3, (.c false (.v true (.int .i64))))])])
  | 0, _, _, _ => none
  | m + 1, x2, x3, x4 =>
    cond (Decidable.decide (x4 < (↑(List.length x2.fst) : Int)))
    (if (0 : Int) ≤ x4 then
     if x4 < (↑(List.length x2.fst) : Int) then
     L40_0 n m ((x2.fst, ())) (Go.IntKind.i64.wrap (x3 + if (0 : Int) > Go.IntKind.i64.wrap ((↑(List.length (List.getD x2.fst x4.toNat [])) : Int) - (1 : Int)) then (0 : Int) else Go.IntKind.i64.wrap ((↑(List.length (List.getD x2.fst x4.toNat [])) : Int) - (1 : Int)))) (Go.IntKind.i64.wrap (x4 + (1 : Int)))
     else none
     else none)
    (some (Sum.inl (x3, ())))
def F40 (n : Nat) (a0 : List (List (Int × Int × Int))) : Option (rdens [.c true (.v false (.rs 50 (.rs 52 (.pair (.int .i64) (.pair (.int .i64) (.int .i64))))))] [.c false (.v true (.int .i64))]) :=
  (F35 n (a0)).bind fun y1 =>
  cond (!y1.fst)
  (some ((-1 : Int), ()))
  (match L40_0 n n ((a0, ())) ((0 : Int)) ((0 : Int)) with
   | none => none
   | some (Sum.inl v5) =>
    some (v5.fst, ()))
noncomputable def con40 (n : Nat) : Con := conOf [.c true (.v false (.rs 50 (.rs 52 (.pair (.int .i64) (.pair (.int .i64) (.int .i64))))))] [.c false (.v true (.int .i64))] fun x => F40 n x.1
noncomputable def tb40 (n : Nat) : Tb := ⟨tiOf Try.prog, conL [(35, con35 n)], n, [], 26, lpL [(0, ⟨[(1, (.b 44 [(.v false (.rs 50 (.rs 52 (.pair (.int .i64) (.pair (.int .i64) (.int .i64))))))])), (3, (.c false (.v true (.int .i64)))), (4, (.c false (.v true (.int .i64))))], [((.exit 0), [(3, (.c false (.v true (.int .i64))))])], fun m v => L40_0 n m v.1 v.2.1 v.2.2.1⟩)], ctL [], [], true⟩
noncomputable def code40 : Code := Try.f40.body.getD .skip
theorem tb40_ok (n : Nat) : (tb40 n).ok Try.prog := tbOk mixed (⟨con35_ok n, trivial⟩)
theorem lp40_0 (n : Nat) : LpAt (tb40 n) (loopBody code40 0) 0 := lpAt rfl (fun _ => by kernel_rfl) (fun _ _ => by kernel_rfl)
theorem blocks40 : blocks code40 = [(0, .loop (loopBody code40 0)), (1, blockBody code40 1)] := by kernel_rfl
theorem la40 (n : Nat) : LpAll (tb40 n) code40 := lpAll blocks40 (bl_loop (lp40_0 n) (bl_none rfl (bl_nil))) rfl (cs_no fun _ => rfl) (by kernel_rfl)
theorem ev40 (n : Nat) (x : pdens [.c true (.v false (.rs 50 (.rs 52 (.pair (.int .i64) (.pair (.int .i64) (.int .i64))))))]) : evSig (tb40 n) Try.f40 [.c true (.v false (.rs 50 (.rs 52 (.pair (.int .i64) (.pair (.int .i64) (.int .i64))))))] [.c false (.v true (.int .i64))] x = F40 n x.1 := by kernel_rfl
theorem con40_ok (n : Nat) : Con.ok Try.prog 40 (con40 n) := conOf_ok (tb40_ok n) (body_la (by kernel_rfl : Try.f40.body = some code40) (la40 n)) Try.func40 (enters Try.func40 (by kernel_rfl) (by kernel_rfl)) rfl rfl (ev40 n)
/-! ### loop.example/fathomline/impl.WallGaps -/
def L41_0 (n : Nat) : Nat → Int → List (List (Int × Int × Int)) → Int → Int → Option (odens [((.exit 0), [(3, (.c false (.v true (.int .i64))))])])
  | 0, _, _, _, _ => none
  | m + 1, x2, x3, x4, x5 =>
    cond (Decidable.decide (x5 < x4))
    (if (0 : Int) ≤ x5 then
     if x5 < (↑x3.length : Int) then
     L41_0 n m (Go.IntKind.i64.wrap (x2 + if (0 : Int) > Go.IntKind.i64.wrap ((↑(List.length (x3.getD x5.toNat [])) : Int) - (1 : Int)) then (0 : Int) else Go.IntKind.i64.wrap ((↑(List.length (x3.getD x5.toNat [])) : Int) - (1 : Int)))) (x3) (x4) (Go.IntKind.i64.wrap (x5 + (1 : Int)))
     else none
     else none)
    (some (Sum.inl (x2, ())))
def F41 (n : Nat) (a0 : List (List (Int × Int × Int))) : Option (rdens [.c true (.v false (.rs 50 (.rs 52 (.pair (.int .i64) (.pair (.int .i64) (.int .i64))))))] [.c false (.v true (.int .i64))]) :=
  (F37 n (a0)).bind fun y1 =>
  cond (!y1.fst)
  (some ((-1 : Int), ()))
  (match L41_0 n n ((0 : Int)) (a0) ((↑a0.length : Int)) ((0 : Int)) with
   | none => none
   | some (Sum.inl v6) =>
    some (v6.fst, ()))
noncomputable def con41 (n : Nat) : Con := conOf [.c true (.v false (.rs 50 (.rs 52 (.pair (.int .i64) (.pair (.int .i64) (.int .i64))))))] [.c false (.v true (.int .i64))] fun x => F41 n x.1
noncomputable def tb41 (n : Nat) : Tb := ⟨tiOf Try.prog, conL [(37, con37 n)], n, [], 24, lpL [(0, ⟨[(3, (.c false (.v true (.int .i64)))), (10, (.c false (.v false (.rs 50 (.rs 52 (.pair (.int .i64) (.pair (.int .i64) (.int .i64)))))))), (11, (.c false (.v true (.int .i64)))), (12, (.c false (.v true (.int .i64))))], [((.exit 0), [(3, (.c false (.v true (.int .i64))))])], fun m v => L41_0 n m v.1 v.2.1 v.2.2.1 v.2.2.2.1⟩)], ctL [], [], true⟩
noncomputable def code41 : Code := Try.f41.body.getD .skip
theorem tb41_ok (n : Nat) : (tb41 n).ok Try.prog := tbOk mixed (⟨con37_ok n, trivial⟩)
theorem lp41_0 (n : Nat) : LpAt (tb41 n) (loopBody code41 0) 0 := lpAt rfl (fun _ => by kernel_rfl) (fun _ _ => by kernel_rfl)
theorem blocks41 : blocks code41 = [(0, .loop (loopBody code41 0)), (1, blockBody code41 1)] := by kernel_rfl
theorem la41 (n : Nat) : LpAll (tb41 n) code41 := lpAll blocks41 (bl_loop (lp41_0 n) (bl_none rfl (bl_nil))) rfl (cs_no fun _ => rfl) (by kernel_rfl)
theorem ev41 (n : Nat) (x : pdens [.c true (.v false (.rs 50 (.rs 52 (.pair (.int .i64) (.pair (.int .i64) (.int .i64))))))]) : evSig (tb41 n) Try.f41 [.c true (.v false (.rs 50 (.rs 52 (.pair (.int .i64) (.pair (.int .i64) (.int .i64))))))] [.c false (.v true (.int .i64))] x = F41 n x.1 := by kernel_rfl
theorem con41_ok (n : Nat) : Con.ok Try.prog 41 (con41 n) := conOf_ok (tb41_ok n) (body_la (by kernel_rfl : Try.f41.body = some code41) (la41 n)) Try.func41 (enters Try.func41 (by kernel_rfl) (by kernel_rfl)) rfl rfl (ev41 n)
end Go.Proofs.Ytaehbfaldofmbaa.Ev
