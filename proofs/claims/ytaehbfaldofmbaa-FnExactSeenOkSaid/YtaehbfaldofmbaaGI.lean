/- Plain functions that the loaded code comes to, and that it does. Conditions: none. -/
import Derived.Test.YtaehbfaldofmbaaGA
namespace Go.Proofs.Ytaehbfaldofmbaa.Ev
open Go Go.Proofs
/-! ### loop.example/fathomline/laws.toIntS -/
def L65_0 (n : Nat) : Nat → List Int → List Int → Int → Option (odens [((.exit 0), [(3, (.c false (.r 3 (.int .i64))))])])
  | 0, _, _, _ => none
  | m + 1, x1, x2, x3 =>
    cond (Decidable.decide (x3 < (↑x1.length : Int)))
    (if (0 : Int) ≤ x3 then
     if x3 < (↑x1.length : Int) then
     if (0 : Int) ≤ x3 then
     if x3 < (↑x2.length : Int) then
     if x3.toNat < x2.length then
     L65_0 n m (x1) (x2.set x3.toNat (x1.getD x3.toNat (0 : Int))) (Go.IntKind.i64.wrap (x3 + (1 : Int)))
     else none
     else none
     else none
     else none
     else none)
    (some (Sum.inl (x2, ())))
def F65 (n : Nat) (a0 : List Int) : Option (rdens [.c false (.v false (.rs 3 (.int .i64)))] [.c false (.r 3 (.int .i64))]) :=
  if (↑a0.length : Int) = (↑a0.length : Int) then
  if (↑a0.length : Int).toNat * (8 : Nat) ≤ (140737488355328 : Nat) then
  match L65_0 n n (a0) (List.replicate (↑a0.length : Int).toNat (0 : Int)) ((0 : Int)) with
  | none => none
  | some (Sum.inl v4) =>
   some (v4.fst, ())
  else none
  else none
noncomputable def con65 (n : Nat) : Con := conOf [.c false (.v false (.rs 3 (.int .i64)))] [.c false (.r 3 (.int .i64))] fun x => F65 n x.1
noncomputable def tb65 (n : Nat) : Tb := ⟨tiOf Try.prog, conL [], n, [], 22, lpL [(0, ⟨[(0, (.c false (.v false (.rs 3 (.int .i64))))), (3, (.c false (.r 3 (.int .i64)))), (4, (.c false (.v true (.int .i64))))], [((.exit 0), [(3, (.c false (.r 3 (.int .i64))))])], fun m v => L65_0 n m v.1 v.2.1 v.2.2.1⟩)], ctL [], [], true⟩
noncomputable def code65 : Code := Try.f65.body.getD .skip
theorem tb65_ok (n : Nat) : (tb65 n).ok Try.prog := tbOk mixed (trivial)
theorem lp65_0 (n : Nat) : LpAt (tb65 n) (loopBody code65 0) 0 := lpAt rfl (fun _ => by kernel_rfl) (fun _ _ => by kernel_rfl)
theorem blocks65 : blocks code65 = [(0, .loop (loopBody code65 0)), (1, blockBody code65 1)] := by kernel_rfl
theorem la65 (n : Nat) : LpAll (tb65 n) code65 := lpAll blocks65 (bl_loop (lp65_0 n) (bl_none rfl (bl_nil))) rfl (cs_no fun _ => rfl) (by kernel_rfl)
theorem ev65 (n : Nat) (x : pdens [.c false (.v false (.rs 3 (.int .i64)))]) : evSig (tb65 n) Try.f65 [.c false (.v false (.rs 3 (.int .i64)))] [.c false (.r 3 (.int .i64))] x = F65 n x.1 := by kernel_rfl
theorem con65_ok (n : Nat) : Con.ok Try.prog 65 (con65 n) := conOf_ok (tb65_ok n) (body_la (by kernel_rfl : Try.f65.body = some code65) (la65 n)) Try.func65 (enters Try.func65 (by kernel_rfl) (by kernel_rfl)) rfl rfl (ev65 n)
/-! ### loop.example/fathomline/laws.eqIntS -/
def L66_0 (n : Nat) : Nat → List Int → List Int → Int → Option (odens [(.ret, [(4, (.c false (.v true .bool)))]), ((.exit 0), [])])
  | 0, _, _, _ => none
  | m + 1, x1, x2, x3 =>
    cond (Decidable.decide (x3 < (↑x1.length : Int)))
    (if (0 : Int) ≤ x3 then
     if x3 < (↑x1.length : Int) then
     if (0 : Int) ≤ x3 then
     if x3 < (↑x2.length : Int) then
     cond (x1.getD x3.toNat (0 : Int) != x2.getD x3.toNat (0 : Int))
     (some (Sum.inl (Bool.false, ())))
     (L66_0 n m (x1) (x2) (Go.IntKind.i64.wrap (x3 + (1 : Int))))
     else none
     else none
     else none
     else none)
    (some (Sum.inr (Sum.inl (()))))
def F66 (n : Nat) (a0 : List Int) (a1 : List Int) : Option (rdens [.c false (.v false (.rs 3 (.int .i64))), .c false (.v false (.rs 3 (.int .i64)))] [.c false (.v true .bool)]) :=
  cond ((↑a0.length : Int) != (↑a1.length : Int))
  (some (Bool.false, ()))
  (match L66_0 n n (a0) (a1) ((0 : Int)) with
   | none => none
   | some (Sum.inl v4) =>
    some (v4.fst, ())
   | some (Sum.inr (Sum.inl v5)) =>
    some (Bool.true, ()))
noncomputable def con66 (n : Nat) : Con := conOf [.c false (.v false (.rs 3 (.int .i64))), .c false (.v false (.rs 3 (.int .i64)))] [.c false (.v true .bool)] fun x => F66 n x.1 x.2.1
noncomputable def tb66 (n : Nat) : Tb := ⟨tiOf Try.prog, conL [], n, [], 26, lpL [(0, ⟨[(0, (.c false (.v false (.rs 3 (.int .i64))))), (1, (.c false (.v false (.rs 3 (.int .i64))))), (5, (.c false (.v true (.int .i64))))], [(.ret, [(4, (.c false (.v true .bool)))]), ((.exit 0), [])], fun m v => L66_0 n m v.1 v.2.1 v.2.2.1⟩)], ctL [], [], true⟩
noncomputable def code66 : Code := Try.f66.body.getD .skip
theorem tb66_ok (n : Nat) : (tb66 n).ok Try.prog := tbOk mixed (trivial)
theorem lp66_0 (n : Nat) : LpAt (tb66 n) (loopBody code66 0) 0 := lpAt rfl (fun _ => by kernel_rfl) (fun _ _ => by kernel_rfl)
theorem blocks66 : blocks code66 = [(0, .loop (loopBody code66 0)), (1, blockBody code66 1)] := by kernel_rfl
theorem la66 (n : Nat) : LpAll (tb66 n) code66 := lpAll blocks66 (bl_loop (lp66_0 n) (bl_none rfl (bl_nil))) rfl (cs_no fun _ => rfl) (by kernel_rfl)
theorem ev66 (n : Nat) (x : pdens [.c false (.v false (.rs 3 (.int .i64))), .c false (.v false (.rs 3 (.int .i64)))]) : evSig (tb66 n) Try.f66 [.c false (.v false (.rs 3 (.int .i64))), .c false (.v false (.rs 3 (.int .i64)))] [.c false (.v true .bool)] x = F66 n x.1 x.2.1 := by kernel_rfl
theorem con66_ok (n : Nat) : Con.ok Try.prog 66 (con66 n) := conOf_ok (tb66_ok n) (body_la (by kernel_rfl : Try.f66.body = some code66) (la66 n)) Try.func66 (enters Try.func66 (by kernel_rfl) (by kernel_rfl)) rfl rfl (ev66 n)
/-! ### loop.example/fathomline/laws.markIntS -/
def L67_0 (n : Nat) : Nat → List Int → Int → Int → Option (odens [((.exit 0), [(0, (.c false (.r 3 (.int .i64)))), (1, (.c false (.v true (.int .i64))))])])
  | 0, _, _, _ => none
  | m + 1, x1, x2, x3 =>
    cond (Decidable.decide (x3 < (↑x1.length : Int)))
    (if (0 : Int) ≤ x3 then
     if x3 < (↑x1.length : Int) then
     if x3.toNat < x1.length then
     L67_0 n m (x1.set x3.toNat x2) (Go.IntKind.i64.wrap (x2 + (1 : Int))) (Go.IntKind.i64.wrap (x3 + (1 : Int)))
     else none
     else none
     else none)
    (some (Sum.inl (x1, x2, ())))
def F67 (n : Nat) (a0 : List Int) (a1 : Int) : Option (rdens [.c false (.o (.rs 3 (.int .i64))), .c false (.v true (.int .i64))] [.c false (.v true (.int .i64))]) :=
  match L67_0 n n (a0) (a1) ((0 : Int)) with
  | none => none
  | some (Sum.inl v4) =>
   some (v4.snd.fst, v4.fst, ())
noncomputable def con67 (n : Nat) : Con := conOf [.c false (.o (.rs 3 (.int .i64))), .c false (.v true (.int .i64))] [.c false (.v true (.int .i64))] fun x => F67 n x.1 x.2.1
noncomputable def tb67 (n : Nat) : Tb := ⟨tiOf Try.prog, conL [], n, [], 19, lpL [(0, ⟨[(0, (.c false (.r 3 (.int .i64)))), (1, (.c false (.v true (.int .i64)))), (5, (.c false (.v true (.int .i64))))], [((.exit 0), [(0, (.c false (.r 3 (.int .i64)))), (1, (.c false (.v true (.int .i64))))])], fun m v => L67_0 n m v.1 v.2.1 v.2.2.1⟩)], ctL [], [0], true⟩
noncomputable def code67 : Code := Try.f67.body.getD .skip
theorem tb67_ok (n : Nat) : (tb67 n).ok Try.prog := tbOk mixed (trivial)
theorem lp67_0 (n : Nat) : LpAt (tb67 n) (loopBody code67 0) 0 := lpAt rfl (fun _ => by kernel_rfl) (fun _ _ => by kernel_rfl)
theorem blocks67 : blocks code67 = [(0, .loop (loopBody code67 0)), (1, blockBody code67 1)] := by kernel_rfl
theorem la67 (n : Nat) : LpAll (tb67 n) code67 := lpAll blocks67 (bl_loop (lp67_0 n) (bl_none rfl (bl_nil))) rfl (cs_no fun _ => rfl) (by kernel_rfl)
theorem ev67 (n : Nat) (x : pdens [.c false (.o (.rs 3 (.int .i64))), .c false (.v true (.int .i64))]) : evSig (tb67 n) Try.f67 [.c false (.o (.rs 3 (.int .i64))), .c false (.v true (.int .i64))] [.c false (.v true (.int .i64))] x = F67 n x.1 x.2.1 := by kernel_rfl
theorem con67_ok (n : Nat) : Con.ok Try.prog 67 (con67 n) := conOf_ok (tb67_ok n) (body_la (by kernel_rfl : Try.f67.body = some code67) (la67 n)) Try.func67 (enters Try.func67 (by kernel_rfl) (by kernel_rfl)) rfl rfl (ev67 n)
end Go.Proofs.Ytaehbfaldofmbaa.Ev
