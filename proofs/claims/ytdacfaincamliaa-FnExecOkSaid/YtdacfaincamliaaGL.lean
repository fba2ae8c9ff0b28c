/- Plain functions that the loaded code comes to, and that it does. Conditions: none. -/
import Derived.Test.YtdacfaincamliaaGA
namespace Go.Proofs.Ytdacfaincamliaa.Ev
open Go Go.Proofs
/-! ### loop.example/fathomline/laws.lpInts -/
def L81_0 (n : Nat) : Nat → List Int → List Int → Int → Option (odens [(.ret, [(4, kB)]), ((.exit 0), [])])
  | 0, _, _, _ => none
  | m + 1, x1, x2, x3 =>
    cond (Decidable.decide (x3 < (↑x1.length : Int)))
    (if (0 : Int) ≤ x3 then
     if x3 < (↑x1.length : Int) then
     if (0 : Int) ≤ x3 then
     if x3 < (↑x2.length : Int) then
     cond (x1.getD x3.toNat (0 : Int) != x2.getD x3.toNat (0 : Int))
     (some (Sum.inl (Bool.false, ())))
     (L81_0 n m (x1) (x2) (Go.IntKind.i64.wrap (x3 + (1 : Int))))
     else none
     else none
     else none
     else none)
    (some (Sum.inr (Sum.inl (()))))
def F81 (n : Nat) (a0 : List Int) (a1 : List Int) : Option (rdens [.c false (.v false (.rs 3 (.int .i64))), .c false (.v false (.rs 3 (.int .i64)))] [.c false (.v true .bool)]) :=
  cond ((↑a0.length : Int) != (↑a1.length : Int))
  (some (Bool.false, ()))
  (match L81_0 n n (a0) (a1) ((0 : Int)) with
   | none => none
   | some (Sum.inl v4) =>
    some (v4.fst, ())
   | some (Sum.inr (Sum.inl v5)) =>
    some (Bool.true, ()))
noncomputable def con81 (n : Nat) : Con := conOf [.c false (.v false (.rs 3 (.int .i64))), .c false (.v false (.rs 3 (.int .i64)))] [.c false (.v true .bool)] fun x => F81 n x.1 x.2.1
noncomputable def tb81 (n : Nat) : Tb := ⟨tiOf Try.prog, conL [], n, [], 26, lpL [(0, ⟨[(0, (.c false (.v false (.rs 3 (.int .i64))))), (1, (.c false (.v false (.rs 3 (.int .i64))))), (5, kI)], [(.ret, [(4, kB)]), ((.exit 0), [])], fun m v => L81_0 n m v.1 v.2.1 v.2.2.1⟩)], ctL [], [], true⟩
noncomputable def code81 : Code := Try.f81.body.getD .skip
theorem tb81_ok (n : Nat) : (tb81 n).ok Try.prog := tbOk mixed (trivial)
theorem lp81_0 (n : Nat) : LpAt (tb81 n) (loopBody code81 0) 0 := lpAt rfl (fun _ => by kernel_rfl) (fun _ _ => by kernel_rfl)
theorem blocks81 : blocks code81 = [(0, .loop (loopBody code81 0)), (1, blockBody code81 1)] := by kernel_rfl
theorem la81 (n : Nat) : LpAll (tb81 n) code81 := lpAll blocks81 (bl_loop (lp81_0 n) (bl_none rfl (bl_nil))) rfl (cs_no fun _ => rfl) (by kernel_rfl)
theorem ev81 (n : Nat) (x : pdens [.c false (.v false (.rs 3 (.int .i64))), .c false (.v false (.rs 3 (.int .i64)))]) : evSig (tb81 n) Try.f81 [.c false (.v false (.rs 3 (.int .i64))), .c false (.v false (.rs 3 (.int .i64)))] [.c false (.v true .bool)] x = F81 n x.1 x.2.1 := by kernel_rfl
theorem con81_ok (n : Nat) : Con.ok Try.prog 81 (con81 n) := conOf_ok (tb81_ok n) (body_la (by kernel_rfl : Try.f81.body = some code81) (la81 n)) Try.func81 (enters Try.func81 (by kernel_rfl) (by kernel_rfl)) rfl rfl (ev81 n)
/-! ### loop.example/fathomline/laws.lpSame -/
def F41 (n : Nat) (a0 : List Int × List Int) (a1 : List Int × List Int) : Option (rdens [.c true (.v false (.pair (.rs 3 (.int .i64)) (.rs 3 (.int .i64)))), .c true (.v false (.pair (.rs 3 (.int .i64)) (.rs 3 (.int .i64))))] [.c false (.v true .bool)]) :=
  (F81 n (a0.fst) (a1.fst)).bind fun y1 =>
  cond (y1.fst)
  ((F81 n (a0.snd) (a1.snd)).bind fun y2 =>
   some (y2.fst, ()))
  (some (Bool.false, ()))
noncomputable def con41 (n : Nat) : Con := conOf [.c true (.v false (.pair (.rs 3 (.int .i64)) (.rs 3 (.int .i64)))), .c true (.v false (.pair (.rs 3 (.int .i64)) (.rs 3 (.int .i64))))] [.c false (.v true .bool)] fun x => F41 n x.1 x.2.1
noncomputable def tb41 (n : Nat) : Tb := ⟨tiOf Try.prog, conL [(81, con81 n)], n, [], 17, lpL [], ctL [], [], true⟩
noncomputable def code41 : Code := Try.f41.body.getD .skip
theorem tb41_ok (n : Nat) : (tb41 n).ok Try.prog := tbOk mixed (⟨con81_ok n, trivial⟩)
theorem blocks41 : blocks code41 = [] := by kernel_rfl
theorem la41 (n : Nat) : LpAll (tb41 n) code41 := lpAll blocks41 (bl_nil) rfl (cs_no fun _ => rfl) (by kernel_rfl)
theorem ev41 (n : Nat) (x : pdens [.c true (.v false (.pair (.rs 3 (.int .i64)) (.rs 3 (.int .i64)))), .c true (.v false (.pair (.rs 3 (.int .i64)) (.rs 3 (.int .i64))))]) : evSig (tb41 n) Try.f41 [.c true (.v false (.pair (.rs 3 (.int .i64)) (.rs 3 (.int .i64)))), .c true (.v false (.pair (.rs 3 (.int .i64)) (.rs 3 (.int .i64))))] [.c false (.v true .bool)] x = F41 n x.1 x.2.1 := by kernel_rfl
theorem con41_ok (n : Nat) : Con.ok Try.prog 41 (con41 n) := conOf_ok (tb41_ok n) (body_la (by kernel_rfl : Try.f41.body = some code41) (la41 n)) Try.func41 (enters Try.func41 (by kernel_rfl) (by kernel_rfl)) rfl rfl (ev41 n)
end Go.Proofs.Ytdacfaincamliaa.Ev
