/- Plain functions that the loaded code comes to, and that it does. Conditions: none. -/
import Derived.Test.YtaehbfaldofmbaaGA
namespace Go.Proofs.Ytaehbfaldofmbaa.Ev
open Go Go.Proofs
/-! ### loop.example/fathomline/laws.szIntS -/
def F75 (n : Nat) (a0 : List Int) (a1 : Int) : Option (rdens [.c false (.v false (.rs 3 (.int .i64))), .c false (.v true (.int .i64))] [.c false (.v true (.int .i64))]) :=
  cond (Decidable.decide (Go.IntKind.i64.wrap (a1 - (↑a0.length : Int)) < (0 : Int)))
  (some ((-1 : Int), ()))
  (some (Go.IntKind.i64.wrap (a1 - (↑a0.length : Int)), ()))
noncomputable def con75 (n : Nat) : Con := conOf [.c false (.v false (.rs 3 (.int .i64))), .c false (.v true (.int .i64))] [.c false (.v true (.int .i64))] fun x => F75 n x.1 x.2.1
noncomputable def tb75 (n : Nat) : Tb := ⟨tiOf Try.prog, conL [], n, [], 12, lpL [], ctL [], []⟩
noncomputable def code75 : Code := Try.f75.body.getD .skip
theorem tb75_ok (n : Nat) : (tb75 n).ok Try.prog := tbOk mixed (trivial)
theorem blocks75 : blocks code75 = [] := by kernel_rfl
theorem la75 (n : Nat) : LpAll (tb75 n) code75 := lpAll blocks75 (bl_nil) rfl (cs_no fun _ => rfl) (by kernel_rfl)
theorem ev75 (n : Nat) (x : pdens [.c false (.v false (.rs 3 (.int .i64))), .c false (.v true (.int .i64))]) : evSig (tb75 n) Try.f75 [.c false (.v false (.rs 3 (.int .i64))), .c false (.v true (.int .i64))] [.c false (.v true (.int .i64))] x = F75 n x.1 x.2.1 := by kernel_rfl
theorem con75_ok (n : Nat) : Con.ok Try.prog 75 (con75 n) := conOf_ok (tb75_ok n) (body_la (by kernel_rfl : Try.f75.body = some code75) (la75 n)) Try.func75 (enters Try.func75 (by kernel_rfl) (by kernel_rfl)) rfl rfl (ev75 n)
/-! ### loop.example/fathomline/laws.szSeen -/
def F24 (n : Nat) (a0 : List Int × List Int) (a1 : Int) : Option (rdens [.c true (.v false (.pair (.rs 3 (.int .i64)) (.rs 3 (.int .i64)))), .c false (.v true (.int .i64))] [.c false (.v true (.int .i64))]) :=
  (F75 n (a0.fst) (a1)).bind fun y1 =>
  cond (Decidable.decide (y1.fst < (0 : Int)))
  (some ((-1 : Int), ()))
  ((F75 n (a0.snd) (y1.fst)).bind fun y2 =>
   cond (Decidable.decide (y2.fst < (0 : Int)))
   (some ((-1 : Int), ()))
   (some (y2.fst, ())))
noncomputable def con24 (n : Nat) : Con := conOf [.c true (.v false (.pair (.rs 3 (.int .i64)) (.rs 3 (.int .i64)))), .c false (.v true (.int .i64))] [.c false (.v true (.int .i64))] fun x => F24 n x.1 x.2.1
noncomputable def tb24 (n : Nat) : Tb := ⟨tiOf Try.prog, conL [(75, con75 n)], n, [], 18, lpL [], ctL [], []⟩
noncomputable def code24 : Code := Try.f24.body.getD .skip
theorem tb24_ok (n : Nat) : (tb24 n).ok Try.prog := tbOk mixed (⟨con75_ok n, trivial⟩)
theorem blocks24 : blocks code24 = [] := by kernel_rfl
theorem la24 (n : Nat) : LpAll (tb24 n) code24 := lpAll blocks24 (bl_nil) rfl (cs_no fun _ => rfl) (by kernel_rfl)
theorem ev24 (n : Nat) (x : pdens [.c true (.v false (.pair (.rs 3 (.int .i64)) (.rs 3 (.int .i64)))), .c false (.v true (.int .i64))]) : evSig (tb24 n) Try.f24 [.c true (.v false (.pair (.rs 3 (.int .i64)) (.rs 3 (.int .i64)))), .c false (.v true (.int .i64))] [.c false (.v true (.int .i64))] x = F24 n x.1 x.2.1 := by kernel_rfl
theorem con24_ok (n : Nat) : Con.ok Try.prog 24 (con24 n) := conOf_ok (tb24_ok n) (body_la (by kernel_rfl : Try.f24.body = some code24) (la24 n)) Try.func24 (enters Try.func24 (by kernel_rfl) (by kernel_rfl)) rfl rfl (ev24 n)
/-! ### loop.example/fathomline/laws.toIntS -/
def L65_0 (n : Nat) : Nat → List Int → List Int → Int → Option (odens [((.exit 0), [(3, (.c false (.r 3 (.int .i64))))])])
  | 0, _, _, _ => none
  | m + 1, x1, x2, x3 =>
    cond (Decidable.decide (x3 < (↑x1.length : Int)))
    (if (0 : Int) ≤ x3 then
     if x3 < (↑x1.length : Int) then
     if (0 : Int) ≤ x3 then
     if x3 < (↑x2.length : Int) then
     if x3.toNat < x2.length then
     L65_0 n m (x1) (x2.set x3.toNat (x1.getD x3.toNat (0 : Int))) (Go.IntKind.i64.wrap (x3 + (1 : Int)))
     else none
     else none
     else none
     else none
     else none)
    (some (Sum.inl (x2, ())))
def F65 (n : Nat) (a0 : List Int) : Option (rdens [.c false (.v false (.rs 3 (.int .i64)))] [.c false (.r 3 (.int .i64))]) :=
  if (↑a0.length : Int) = (↑a0.length : Int) then
  if (↑a0.length : Int).toNat * (8 : Nat) ≤ (140737488355328 : Nat) then
  match L65_0 n n (a0) (List.replicate (↑a0.length : Int).toNat (0 : Int)) ((0 : Int)) with
  | none => none
  | some (Sum.inl v4) =>
   some (v4.fst, ())
  else none
  else none
noncomputable def con65 (n : Nat) : Con := conOf [.c false (.v false (.rs 3 (.int .i64)))] [.c false (.r 3 (.int .i64))] fun x => F65 n x.1
noncomputable def tb65 (n : Nat) : Tb := ⟨tiOf Try.prog, conL [], n, [], 22, lpL [(0, ⟨[(0, (.c false (.v false (.rs 3 (.int .i64))))), (3, (.c false (.r 3 (.int .i64)))), (4, (.c false (.v true (.int .i64))))], [((.exit 0), [(3, (.c false (.r 3 (.int .i64))))])], fun m v => L65_0 n m v.1 v.2.1 v.2.2.1⟩)], ctL [], []⟩
noncomputable def code65 : Code := Try.f65.body.getD .skip
theorem tb65_ok (n : Nat) : (tb65 n).ok Try.prog := tbOk mixed (trivial)
theorem lp65_0 (n : Nat) : LpAt (tb65 n) (loopBody code65 0) 0 := lpAt rfl (fun _ => by kernel_rfl) (fun _ _ => by kernel_rfl)
theorem blocks65 : blocks code65 = [(0, .loop (loopBody code65 0)), (1, blockBody code65 1)] := by kernel_rfl
theorem la65 (n : Nat) : LpAll (tb65 n) code65 := lpAll blocks65 (bl_loop (lp65_0 n) (bl_none rfl (bl_nil))) rfl (cs_no fun _ => rfl) (by kernel_rfl)
theorem ev65 (n : Nat) (x : pdens [.c false (.v false (.rs 3 (.int .i64)))]) : evSig (tb65 n) Try.f65 [.c false (.v false (.rs 3 (.int .i64)))] [.c false (.r 3 (.int .i64))] x = F65 n x.1 := by kernel_rfl
theorem con65_ok (n : Nat) : Con.ok Try.prog 65 (con65 n) := conOf_ok (tb65_ok n) (body_la (by kernel_rfl : Try.f65.body = some code65) (la65 n)) Try.func65 (enters Try.func65 (by kernel_rfl) (by kernel_rfl)) rfl rfl (ev65 n)
/-! ### loop.example/fathomline/laws.toSeen -/
def F26 (n : Nat) (a0 : List Int × List Int) : Option (rdens [.c true (.v false (.pair (.rs 3 (.int .i64)) (.rs 3 (.int .i64))))] [.c true (.v true (.pair (.rs 3 (.int .i64)) (.rs 3 (.int .i64))))]) :=
  (F65 n (a0.fst)).bind fun y1 =>
  (F65 n (a0.snd)).bind fun y2 =>
  some ((y1.fst, y2.fst), ())
noncomputable def con26 (n : Nat) : Con := conOf [.c true (.v false (.pair (.rs 3 (.int .i64)) (.rs 3 (.int .i64))))] [.c true (.v true (.pair (.rs 3 (.int .i64)) (.rs 3 (.int .i64))))] fun x => F26 n x.1
noncomputable def tb26 (n : Nat) : Tb := ⟨tiOf Try.prog, conL [(65, con65 n)], n, [], 13, lpL [], ctL [], []⟩
noncomputable def code26 : Code := Try.f26.body.getD .skip
theorem tb26_ok (n : Nat) : (tb26 n).ok Try.prog := tbOk mixed (⟨con65_ok n, trivial⟩)
theorem blocks26 : blocks code26 = [] := by kernel_rfl
theorem la26 (n : Nat) : LpAll (tb26 n) code26 := lpAll blocks26 (bl_nil) rfl (cs_no fun _ => rfl) (by kernel_rfl)
theorem ev26 (n : Nat) (x : pdens [.c true (.v false (.pair (.rs 3 (.int .i64)) (.rs 3 (.int .i64))))]) : evSig (tb26 n) Try.f26 [.c true (.v false (.pair (.rs 3 (.int .i64)) (.rs 3 (.int .i64))))] [.c true (.v true (.pair (.rs 3 (.int .i64)) (.rs 3 (.int .i64))))] x = F26 n x.1 := by kernel_rfl
theorem con26_ok (n : Nat) : Con.ok Try.prog 26 (con26 n) := conOf_ok (tb26_ok n) (body_la (by kernel_rfl : Try.f26.body = some code26) (la26 n)) Try.func26 (enters Try.func26 (by kernel_rfl) (by kernel_rfl)) rfl rfl (ev26 n)
/-! ### loop.example/fathomline/laws.eqIntS -/
def L66_0 (n : Nat) : Nat → List Int → List Int → Int → Option (odens [(.ret, [(4, (.c false (.v true .bool)))]), ((.exit 0), [])])
  | 0, _, _, _ => none
  | m + 1, x1, x2, x3 =>
    cond (Decidable.decide (x3 < (↑x1.length : Int)))
    (if (0 : Int) ≤ x3 then
     if x3 < (↑x1.length : Int) then
     if (0 : Int) ≤ x3 then
     if x3 < (↑x2.length : Int) then
     cond (x1.getD x3.toNat (0 : Int) != x2.getD x3.toNat (0 : Int))
     (some (Sum.inl (Bool.false, ())))
     (L66_0 n m (x1) (x2) (Go.IntKind.i64.wrap (x3 + (1 : Int))))
     else none
     else none
     else none
     else none)
    (some (Sum.inr (Sum.inl (()))))
def F66 (n : Nat) (a0 : List Int) (a1 : List Int) : Option (rdens [.c false (.v false (.rs 3 (.int .i64))), .c false (.v false (.rs 3 (.int .i64)))] [.c false (.v true .bool)]) :=
  cond ((↑a0.length : Int) != (↑a1.length : Int))
  (some (Bool.false, ()))
  (match L66_0 n n (a0) (a1) ((0 : Int)) with
   | none => none
   | some (Sum.inl v4) =>
    some (v4.fst, ())
   | some (Sum.inr (Sum.inl v5)) =>
    some (Bool.true, ()))
noncomputable def con66 (n : Nat) : Con := conOf [.c false (.v false (.rs 3 (.int .i64))), .c false (.v false (.rs 3 (.int .i64)))] [.c false (.v true .bool)] fun x => F66 n x.1 x.2.1
noncomputable def tb66 (n : Nat) : Tb := ⟨tiOf Try.prog, conL [], n, [], 26, lpL [(0, ⟨[(0, (.c false (.v false (.rs 3 (.int .i64))))), (1, (.c false (.v false (.rs 3 (.int .i64))))), (5, (.c false (.v true (.int .i64))))], [(.ret, [(4, (.c false (.v true .bool)))]), ((.exit 0), [])], fun m v => L66_0 n m v.1 v.2.1 v.2.2.1⟩)], ctL [], []⟩
noncomputable def code66 : Code := Try.f66.body.getD .skip
theorem tb66_ok (n : Nat) : (tb66 n).ok Try.prog := tbOk mixed (trivial)
theorem lp66_0 (n : Nat) : LpAt (tb66 n) (loopBody code66 0) 0 := lpAt rfl (fun _ => by kernel_rfl) (fun _ _ => by kernel_rfl)
theorem blocks66 : blocks code66 = [(0, .loop (loopBody code66 0)), (1, blockBody code66 1)] := by kernel_rfl
theorem la66 (n : Nat) : LpAll (tb66 n) code66 := lpAll blocks66 (bl_loop (lp66_0 n) (bl_none rfl (bl_nil))) rfl (cs_no fun _ => rfl) (by kernel_rfl)
theorem ev66 (n : Nat) (x : pdens [.c false (.v false (.rs 3 (.int .i64))), .c false (.v false (.rs 3 (.int .i64)))]) : evSig (tb66 n) Try.f66 [.c false (.v false (.rs 3 (.int .i64))), .c false (.v false (.rs 3 (.int .i64)))] [.c false (.v true .bool)] x = F66 n x.1 x.2.1 := by kernel_rfl
theorem con66_ok (n : Nat) : Con.ok Try.prog 66 (con66 n) := conOf_ok (tb66_ok n) (body_la (by kernel_rfl : Try.f66.body = some code66) (la66 n)) Try.func66 (enters Try.func66 (by kernel_rfl) (by kernel_rfl)) rfl rfl (ev66 n)
/-! ### loop.example/fathomline/laws.eqSeen -/
def F28 (n : Nat) (a0 : List Int × List Int) (a1 : List Int × List Int) : Option (rdens [.c true (.v false (.pair (.rs 3 (.int .i64)) (.rs 3 (.int .i64)))), .c true (.v false (.pair (.rs 3 (.int .i64)) (.rs 3 (.int .i64))))] [.c false (.v true .bool)]) :=
  (F66 n (a0.fst) (a1.fst)).bind fun y1 =>
  cond (!y1.fst)
  (some (Bool.false, ()))
  ((F66 n (a0.snd) (a1.snd)).bind fun y2 =>
   cond (!y2.fst)
   (some (Bool.false, ()))
   (some (Bool.true, ())))
noncomputable def con28 (n : Nat) : Con := conOf [.c true (.v false (.pair (.rs 3 (.int .i64)) (.rs 3 (.int .i64)))), .c true (.v false (.pair (.rs 3 (.int .i64)) (.rs 3 (.int .i64))))] [.c false (.v true .bool)] fun x => F28 n x.1 x.2.1
noncomputable def tb28 (n : Nat) : Tb := ⟨tiOf Try.prog, conL [(66, con66 n)], n, [], 17, lpL [], ctL [], []⟩
noncomputable def code28 : Code := Try.f28.body.getD .skip
theorem tb28_ok (n : Nat) : (tb28 n).ok Try.prog := tbOk mixed (⟨con66_ok n, trivial⟩)
theorem blocks28 : blocks code28 = [] := by kernel_rfl
theorem la28 (n : Nat) : LpAll (tb28 n) code28 := lpAll blocks28 (bl_nil) rfl (cs_no fun _ => rfl) (by kernel_rfl)
theorem ev28 (n : Nat) (x : pdens [.c true (.v false (.pair (.rs 3 (.int .i64)) (.rs 3 (.int .i64)))), .c true (.v false (.pair (.rs 3 (.int .i64)) (.rs 3 (.int .i64))))]) : evSig (tb28 n) Try.f28 [.c true (.v false (.pair (.rs 3 (.int .i64)) (.rs 3 (.int .i64)))), .c true (.v false (.pair (.rs 3 (.int .i64)) (.rs 3 (.int .i64))))] [.c false (.v true .bool)] x = F28 n x.1 x.2.1 := by kernel_rfl
theorem con28_ok (n : Nat) : Con.ok Try.prog 28 (con28 n) := conOf_ok (tb28_ok n) (body_la (by kernel_rfl : Try.f28.body = some code28) (la28 n)) Try.func28 (enters Try.func28 (by kernel_rfl) (by kernel_rfl)) rfl rfl (ev28 n)
end Go.Proofs.Ytaehbfaldofmbaa.Ev
