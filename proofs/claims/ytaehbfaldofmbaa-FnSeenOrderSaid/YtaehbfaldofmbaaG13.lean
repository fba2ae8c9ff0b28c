/- Plain functions that the loaded code comes to, and that it does. Conditions: none. -/
import Derived.Test.YtaehbfaldofmbaaGS
namespace Go.Proofs.Ytaehbfaldofmbaa.Ev
open Go Go.Proofs
/-! ### loop.example/fathomline/laws.lpInts -/
def L95_0 (n : Nat) : Nat → List Int → List Int → Int → Option (odens [(.ret, [(4, (.c false (.v true .bool)))]), ((.exit 0), [])])
  | 0, _, _, _ => none
  | m + 1, x1, x2, x3 =>
    cond (Decidable.decide (x3 < (↑x1.length : Int)))
    (if (0 : Int) ≤ x3 then
     if x3 < (↑x1.length : Int) then
     if (0 : Int) ≤ x3 then
     if x3 < (↑x2.length : Int) then
     cond (x1.getD x3.toNat (0 : Int) != x2.getD x3.toNat (0 : Int))
     (some (Sum.inl (Bool.false, ())))
     (L95_0 n m (x1) (x2) (Go.IntKind.i64.wrap (x3 + (1 : Int))))
     else none
     else none
     else none
     else none)
    (some (Sum.inr (Sum.inl (()))))
def F95 (n : Nat) (a0 : List Int) (a1 : List Int) : Option (rdens [.c false (.v false (.rs 3 (.int .i64))), .c false (.v false (.rs 3 (.int .i64)))] [.c false (.v true .bool)]) :=
  cond ((↑a0.length : Int) != (↑a1.length : Int))
  (some (Bool.false, ()))
  (match L95_0 n n (a0) (a1) ((0 : Int)) with
   | none => none
   | some (Sum.inl v4) =>
    some (v4.fst, ())
   | some (Sum.inr (Sum.inl v5)) =>
    some (Bool.true, ()))
noncomputable def con95 (n : Nat) : Con := conOf [.c false (.v false (.rs 3 (.int .i64))), .c false (.v false (.rs 3 (.int .i64)))] [.c false (.v true .bool)] fun x => F95 n x.1 x.2.1
noncomputable def tb95 (n : Nat) : Tb := ⟨tiOf Try.prog, conL [], n, [], 26, lpL [(0, ⟨[(0, (.c false (.v false (.rs 3 (.int .i64))))), (1, (.c false (.v false (.rs 3 (.int .i64))))), (5, (.c false (.v true (.int .i64))))], [(.ret, [(4, (.c false (.v true .bool)))]), ((.exit 0), [])], fun m v => L95_0 n m v.1 v.2.1 v.2.2.1⟩)], ctL [], []⟩
noncomputable def code95 : Code := Try.f95.body.getD .skip
theorem tb95_ok (n : Nat) : (tb95 n).ok Try.prog := tbOk mixed (trivial)
theorem lp95_0 (n : Nat) : LpAt (tb95 n) (loopBody code95 0) 0 := lpAt rfl (fun _ => by kernel_rfl) (fun _ _ => by kernel_rfl)
theorem blocks95 : blocks code95 = [(0, .loop (loopBody code95 0)), (1, blockBody code95 1)] := by kernel_rfl
theorem la95 (n : Nat) : LpAll (tb95 n) code95 := lpAll blocks95 (bl_loop (lp95_0 n) (bl_none rfl (bl_nil))) rfl (cs_no fun _ => rfl) (by kernel_rfl)
theorem ev95 (n : Nat) (x : pdens [.c false (.v false (.rs 3 (.int .i64))), .c false (.v false (.rs 3 (.int .i64)))]) : evSig (tb95 n) Try.f95 [.c false (.v false (.rs 3 (.int .i64))), .c false (.v false (.rs 3 (.int .i64)))] [.c false (.v true .bool)] x = F95 n x.1 x.2.1 := by kernel_rfl
theorem con95_ok (n : Nat) : Con.ok Try.prog 95 (con95 n) := conOf_ok (tb95_ok n) (body_la (by kernel_rfl : Try.f95.body = some code95) (la95 n)) Try.func95 (enters Try.func95 (by kernel_rfl) (by kernel_rfl)) rfl rfl (ev95 n)
/-! ### loop.example/fathomline/laws.lpSame -/
def F51 (n : Nat) (a0 : List Int × List Int) (a1 : List Int × List Int) : Option (rdens [.c true (.v false (.pair (.rs 3 (.int .i64)) (.rs 3 (.int .i64)))), .c true (.v false (.pair (.rs 3 (.int .i64)) (.rs 3 (.int .i64))))] [.c false (.v true .bool)]) :=
  (F95 n (a0.fst) (a1.fst)).bind fun y1 =>
  cond (y1.fst)
  ((F95 n (a0.snd) (a1.snd)).bind fun y2 =>
   some (y2.fst, ()))
  (some (Bool.false, ()))
noncomputable def con51 (n : Nat) : Con := conOf [.c true (.v false (.pair (.rs 3 (.int .i64)) (.rs 3 (.int .i64)))), .c true (.v false (.pair (.rs 3 (.int .i64)) (.rs 3 (.int .i64))))] [.c false (.v true .bool)] fun x => F51 n x.1 x.2.1
noncomputable def tb51 (n : Nat) : Tb := ⟨tiOf Try.prog, conL [(95, con95 n)], n, [], 17, lpL [], ctL [], []⟩
noncomputable def code51 : Code := Try.f51.body.getD .skip
theorem tb51_ok (n : Nat) : (tb51 n).ok Try.prog := tbOk mixed (⟨con95_ok n, trivial⟩)
theorem blocks51 : blocks code51 = [] := by kernel_rfl
theorem la51 (n : Nat) : LpAll (tb51 n) code51 := lpAll blocks51 (bl_nil) rfl (cs_no fun _ => rfl) (by kernel_rfl)
theorem ev51 (n : Nat) (x : pdens [.c true (.v false (.pair (.rs 3 (.int .i64)) (.rs 3 (.int .i64)))), .c true (.v false (.pair (.rs 3 (.int .i64)) (.rs 3 (.int .i64))))]) : evSig (tb51 n) Try.f51 [.c true (.v false (.pair (.rs 3 (.int .i64)) (.rs 3 (.int .i64)))), .c true (.v false (.pair (.rs 3 (.int .i64)) (.rs 3 (.int .i64))))] [.c false (.v true .bool)] x = F51 n x.1 x.2.1 := by kernel_rfl
theorem con51_ok (n : Nat) : Con.ok Try.prog 51 (con51 n) := conOf_ok (tb51_ok n) (body_la (by kernel_rfl : Try.f51.body = some code51) (la51 n)) Try.func51 (enters Try.func51 (by kernel_rfl) (by kernel_rfl)) rfl rfl (ev51 n)
/-! ### loop.example/fathomline/laws.FnSeenOrder -/
def F13 (n : Nat) (a0 : List Int) : Option (rdens [.c false (.v true (.rs 5 (.int .u8)))] [.c false (.v true .bool)]) :=
  cond (Decidable.decide ((↑a0.length : Int) > (1048576 : Int)))
  (some (Bool.true, ()))
  ((F46 n (a0)).bind fun y1 =>
   (F27 n ((y1.fst.fst, y1.fst.snd)) ((y1.snd.fst.fst, y1.snd.fst.snd))).bind fun y2 =>
   (F27 n ((y1.snd.fst.fst, y1.snd.fst.snd)) ((y1.fst.fst, y1.fst.snd))).bind fun y3 =>
   (F25 n ((y1.fst.fst, y1.fst.snd)) ((y1.snd.fst.fst, y1.snd.fst.snd))).bind fun y4 =>
   cond (y2.fst == y4.fst)
   (cond (y2.fst)
    (cond (!y3.fst)
     (cond (y2.fst)
      ((F51 n ((y1.fst.fst, y1.fst.snd)) ((y1.snd.fst.fst, y1.snd.fst.snd))).bind fun y5 =>
       cond (!Bool.true == y5.fst)
       ((F27 n ((y1.fst.fst, y1.fst.snd)) ((y1.fst.fst, y1.fst.snd))).bind fun y6 =>
        some (!y6.fst, ()))
       (some (Bool.false, ())))
      ((F51 n ((y1.fst.fst, y1.fst.snd)) ((y1.snd.fst.fst, y1.snd.fst.snd))).bind fun y7 =>
       cond (!y3.fst == y7.fst)
       ((F27 n ((y1.fst.fst, y1.fst.snd)) ((y1.fst.fst, y1.fst.snd))).bind fun y8 =>
        some (!y8.fst, ()))
       (some (Bool.false, ()))))
     (some (Bool.false, ())))
    (cond (y2.fst)
     ((F51 n ((y1.fst.fst, y1.fst.snd)) ((y1.snd.fst.fst, y1.snd.fst.snd))).bind fun y9 =>
      cond (!Bool.true == y9.fst)
      ((F27 n ((y1.fst.fst, y1.fst.snd)) ((y1.fst.fst, y1.fst.snd))).bind fun y10 =>
       some (!y10.fst, ()))
      (some (Bool.false, ())))
     ((F51 n ((y1.fst.fst, y1.fst.snd)) ((y1.snd.fst.fst, y1.snd.fst.snd))).bind fun y11 =>
      cond (!y3.fst == y11.fst)
      ((F27 n ((y1.fst.fst, y1.fst.snd)) ((y1.fst.fst, y1.fst.snd))).bind fun y12 =>
       some (!y12.fst, ()))
      (some (Bool.false, ())))))
   (some (Bool.false, ())))
noncomputable def con13 (n : Nat) : Con := conOf [.c false (.v true (.rs 5 (.int .u8)))] [.c false (.v true .bool)] fun x => F13 n x.1
noncomputable def tb13 (n : Nat) : Tb := ⟨tiOf Try.prog, conL [(46, con46 n), (27, con27 n), (25, con25 n), (51, con51 n)], n, [], 49, lpL [], ctL [], []⟩
noncomputable def code13 : Code := Try.f13.body.getD .skip
theorem tb13_ok (n : Nat) : (tb13 n).ok Try.prog := tbOk mixed (⟨con46_ok n, ⟨con27_ok n, ⟨con25_ok n, ⟨con51_ok n, trivial⟩⟩⟩⟩)
theorem blocks13 : blocks code13 = [] := by kernel_rfl
theorem la13 (n : Nat) : LpAll (tb13 n) code13 := lpAll blocks13 (bl_nil) rfl (cs_no fun _ => rfl) (by kernel_rfl)
theorem ev13 (n : Nat) (x : pdens [.c false (.v true (.rs 5 (.int .u8)))]) : evSig (tb13 n) Try.f13 [.c false (.v true (.rs 5 (.int .u8)))] [.c false (.v true .bool)] x = F13 n x.1 := by kernel_rfl
theorem con13_ok (n : Nat) : Con.ok Try.prog 13 (con13 n) := conOf_ok (tb13_ok n) (body_la (by kernel_rfl : Try.f13.body = some code13) (la13 n)) Try.func13 (enters Try.func13 (by kernel_rfl) (by kernel_rfl)) rfl rfl (ev13 n)
end Go.Proofs.Ytaehbfaldofmbaa.Ev
