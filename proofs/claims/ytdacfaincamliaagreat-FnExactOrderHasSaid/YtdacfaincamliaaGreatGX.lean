/- Plain functions that the loaded code comes to, and that it does. Conditions: none. -/
import Derived.Test.YtdacfaincamliaaGreatGM
namespace Go.Proofs.YtdacfaincamliaaGreat.Ev
open Go Go.Proofs
/-! ### loop.example/fathomline/laws.szIntS -/
def F13 (n : Nat) (a0 : List Int) (a1 : Int) : Option (rdens [.c false (.v false (.rs 3 (.int .i64))), .c false (.v true (.int .i64))] [.c false (.v true (.int .i64))]) :=
  cond (Decidable.decide (Go.IntKind.i64.wrap (a1 - (↑a0.length : Int)) < (0 : Int)))
  (some ((-1 : Int), ()))
  (some (Go.IntKind.i64.wrap (a1 - (↑a0.length : Int)), ()))
noncomputable def con13 (n : Nat) : Con := conOf [.c false (.v false (.rs 3 (.int .i64))), .c false (.v true (.int .i64))] [.c false (.v true (.int .i64))] fun x => F13 n x.1 x.2.1
noncomputable def tb13 (n : Nat) : Tb := ⟨tiOf Tryz.prog, conL [], n, [], 12, lpL [], ctL [], [], true⟩
noncomputable def code13 : Code := Tryz.f13.body.getD .skip
theorem tb13_ok (n : Nat) : (tb13 n).ok Tryz.prog := tbOk mixed (trivial)
theorem blocks13 : blocks code13 = [] := by kernel_rfl
theorem la13 (n : Nat) : LpAll (tb13 n) code13 := lpAll blocks13 (bl_nil) rfl (cs_no fun _ => rfl) (by kernel_rfl)
theorem ev13 (n : Nat) (x : pdens [.c false (.v false (.rs 3 (.int .i64))), .c false (.v true (.int .i64))]) : evSig (tb13 n) Tryz.f13 [.c false (.v false (.rs 3 (.int .i64))), .c false (.v true (.int .i64))] [.c false (.v true (.int .i64))] x = F13 n x.1 x.2.1 := by kernel_rfl
theorem con13_ok (n : Nat) : Con.ok Tryz.prog 13 (con13 n) := conOf_ok (tb13_ok n) (body_la (by kernel_rfl : Tryz.f13.body = some code13) (la13 n)) Tryz.func13 (enters Tryz.func13 (by kernel_rfl) (by kernel_rfl)) rfl rfl (ev13 n)
/-! ### loop.example/fathomline/laws.szIntSS -/
def L14_0 (n : Nat) : Nat → List (List Int) → Int → Int → Option (odens [(.ret, [(4, (.c false (.v true (.int .i64))))]), ((.exit 0), [(1, (.c false (.v true (.int .i64))))])])
  | 0, _, _, _ => none
  | m + 1, x1, x2, x3 =>
    cond (Decidable.decide (x3 < (↑x1.length : Int)))
    (if (0 : Int) ≤ x3 then
     if x3 < (↑x1.length : Int) then
     (F13 n (x1.getD x3.toNat []) (x2)).bind fun y4 =>
     cond (Decidable.decide (y4.fst < (0 : Int)))
     (some (Sum.inl ((-1 : Int), ())))
     (L14_0 n m (x1) (y4.fst) (Go.IntKind.i64.wrap (x3 + (1 : Int))))
     else none
     else none)
    (some (Sum.inr (Sum.inl (x2, ()))))
def F14 (n : Nat) (a0 : List (List Int)) (a1 : Int) : Option (rdens [.c false (.v false (.rs 25 (.rs 3 (.int .i64)))), .c false (.v true (.int .i64))] [.c false (.v true (.int .i64))]) :=
  cond (Decidable.decide (Go.IntKind.i64.wrap (a1 - (↑a0.length : Int)) < (0 : Int)))
  (some ((-1 : Int), ()))
  (match L14_0 n n (a0) (Go.IntKind.i64.wrap (a1 - (↑a0.length : Int))) ((0 : Int)) with
   | none => none
   | some (Sum.inl v5) =>
    some (v5.fst, ())
   | some (Sum.inr (Sum.inl v6)) =>
    some (v6.fst, ()))
noncomputable def con14 (n : Nat) : Con := conOf [.c false (.v false (.rs 25 (.rs 3 (.int .i64)))), .c false (.v true (.int .i64))] [.c false (.v true (.int .i64))] fun x => F14 n x.1 x.2.1
noncomputable def tb14 (n : Nat) : Tb := ⟨tiOf Tryz.prog, conL [(13, con13 n)], n, [], 27, lpL [(0, ⟨[(0, (.c false (.v false (.rs 25 (.rs 3 (.int .i64)))))), (1, (.c false (.v true (.int .i64)))), (5, (.c false (.v true (.int .i64))))], [(.ret, [(4, (.c false (.v true (.int .i64))))]), ((.exit 0), [(1, (.c false (.v true (.int .i64))))])], fun m v => L14_0 n m v.1 v.2.1 v.2.2.1⟩)], ctL [], [], true⟩
noncomputable def code14 : Code := Tryz.f14.body.getD .skip
theorem tb14_ok (n : Nat) : (tb14 n).ok Tryz.prog := tbOk mixed (⟨con13_ok n, trivial⟩)
theorem lp14_0 (n : Nat) : LpAt (tb14 n) (loopBody code14 0) 0 := lpAt rfl (fun _ => by kernel_rfl) (fun _ _ => by kernel_rfl)
theorem blocks14 : blocks code14 = [(0, .loop (loopBody code14 0)), (1, blockBody code14 1)] := by kernel_rfl
theorem la14 (n : Nat) : LpAll (tb14 n) code14 := lpAll blocks14 (bl_loop (lp14_0 n) (bl_none rfl (bl_nil))) rfl (cs_no fun _ => rfl) (by kernel_rfl)
theorem ev14 (n : Nat) (x : pdens [.c false (.v false (.rs 25 (.rs 3 (.int .i64)))), .c false (.v true (.int .i64))]) : evSig (tb14 n) Tryz.f14 [.c false (.v false (.rs 25 (.rs 3 (.int .i64)))), .c false (.v true (.int .i64))] [.c false (.v true (.int .i64))] x = F14 n x.1 x.2.1 := by kernel_rfl
theorem con14_ok (n : Nat) : Con.ok Tryz.prog 14 (con14 n) := conOf_ok (tb14_ok n) (body_la (by kernel_rfl : Tryz.f14.body = some code14) (la14 n)) Tryz.func14 (enters Tryz.func14 (by kernel_rfl) (by kernel_rfl)) rfl rfl (ev14 n)
/-! ### loop.example/fathomline/laws.szExec -/
def F5 (n : Nat) (a0 : List Int × List (List Int)) (a1 : Int) : Option (rdens [.c true (.v false (.pair (.rs 3 (.int .i64)) (.rs 25 (.rs 3 (.int .i64))))), .c false (.v true (.int .i64))] [.c false (.v true (.int .i64))]) :=
  (F13 n (a0.fst) (a1)).bind fun y1 =>
  cond (Decidable.decide (y1.fst < (0 : Int)))
  (some ((-1 : Int), ()))
  ((F14 n (a0.snd) (y1.fst)).bind fun y2 =>
   cond (Decidable.decide (y2.fst < (0 : Int)))
   (some ((-1 : Int), ()))
   (some (y2.fst, ())))
noncomputable def con5 (n : Nat) : Con := conOf [.c true (.v false (.pair (.rs 3 (.int .i64)) (.rs 25 (.rs 3 (.int .i64))))), .c false (.v true (.int .i64))] [.c false (.v true (.int .i64))] fun x => F5 n x.1 x.2.1
noncomputable def tb5 (n : Nat) : Tb := ⟨tiOf Tryz.prog, conL [(13, con13 n), (14, con14 n)], n, [], 18, lpL [], ctL [], [], true⟩
noncomputable def code5 : Code := Tryz.f5.body.getD .skip
theorem tb5_ok (n : Nat) : (tb5 n).ok Tryz.prog := tbOk mixed (⟨con13_ok n, ⟨con14_ok n, trivial⟩⟩)
theorem blocks5 : blocks code5 = [] := by kernel_rfl
theorem la5 (n : Nat) : LpAll (tb5 n) code5 := lpAll blocks5 (bl_nil) rfl (cs_no fun _ => rfl) (by kernel_rfl)
theorem ev5 (n : Nat) (x : pdens [.c true (.v false (.pair (.rs 3 (.int .i64)) (.rs 25 (.rs 3 (.int .i64))))), .c false (.v true (.int .i64))]) : evSig (tb5 n) Tryz.f5 [.c true (.v false (.pair (.rs 3 (.int .i64)) (.rs 25 (.rs 3 (.int .i64))))), .c false (.v true (.int .i64))] [.c false (.v true (.int .i64))] x = F5 n x.1 x.2.1 := by kernel_rfl
theorem con5_ok (n : Nat) : Con.ok Tryz.prog 5 (con5 n) := conOf_ok (tb5_ok n) (body_la (by kernel_rfl : Tryz.f5.body = some code5) (la5 n)) Tryz.func5 (enters Tryz.func5 (by kernel_rfl) (by kernel_rfl)) rfl rfl (ev5 n)
/-! ### loop.example/fathomline/laws.toIntS -/
def L22_0 (n : Nat) : Nat → List Int → List Int → Int → Option (odens [((.exit 0), [(3, (.c false (.r 3 (.int .i64))))])])
  | 0, _, _, _ => none
  | m + 1, x1, x2, x3 =>
    cond (Decidable.decide (x3 < (↑x1.length : Int)))
    (if (0 : Int) ≤ x3 then
     if x3 < (↑x1.length : Int) then
     if (0 : Int) ≤ x3 then
     if x3 < (↑x2.length : Int) then
     if x3.toNat < x2.length then
     L22_0 n m (x1) (x2.set x3.toNat (x1.getD x3.toNat (0 : Int))) (Go.IntKind.i64.wrap (x3 + (1 : Int)))
     else none
     else none
     else none
     else none
     else none)
    (some (Sum.inl (x2, ())))
def F22 (n : Nat) (a0 : List Int) : Option (rdens [.c false (.v false (.rs 3 (.int .i64)))] [.c false (.r 3 (.int .i64))]) :=
  if (↑a0.length : Int) = (↑a0.length : Int) then
  if (↑a0.length : Int).toNat * (8 : Nat) ≤ (140737488355328 : Nat) then
  match L22_0 n n (a0) (List.replicate (↑a0.length : Int).toNat (0 : Int)) ((0 : Int)) with
  | none => none
  | some (Sum.inl v4) =>
   some (v4.fst, ())
  else none
  else none
noncomputable def con22 (n : Nat) : Con := conOf [.c false (.v false (.rs 3 (.int .i64)))] [.c false (.r 3 (.int .i64))] fun x => F22 n x.1
noncomputable def tb22 (n : Nat) : Tb := ⟨tiOf Tryz.prog, conL [], n, [], 22, lpL [(0, ⟨[(0, (.c false (.v false (.rs 3 (.int .i64))))), (3, (.c false (.r 3 (.int .i64)))), (4, (.c false (.v true (.int .i64))))], [((.exit 0), [(3, (.c false (.r 3 (.int .i64))))])], fun m v => L22_0 n m v.1 v.2.1 v.2.2.1⟩)], ctL [], [], true⟩
noncomputable def code22 : Code := Tryz.f22.body.getD .skip
theorem tb22_ok (n : Nat) : (tb22 n).ok Tryz.prog := tbOk mixed (trivial)
theorem lp22_0 (n : Nat) : LpAt (tb22 n) (loopBody code22 0) 0 := lpAt rfl (fun _ => by kernel_rfl) (fun _ _ => by kernel_rfl)
theorem blocks22 : blocks code22 = [(0, .loop (loopBody code22 0)), (1, blockBody code22 1)] := by kernel_rfl
theorem la22 (n : Nat) : LpAll (tb22 n) code22 := lpAll blocks22 (bl_loop (lp22_0 n) (bl_none rfl (bl_nil))) rfl (cs_no fun _ => rfl) (by kernel_rfl)
theorem ev22 (n : Nat) (x : pdens [.c false (.v false (.rs 3 (.int .i64)))]) : evSig (tb22 n) Tryz.f22 [.c false (.v false (.rs 3 (.int .i64)))] [.c false (.r 3 (.int .i64))] x = F22 n x.1 := by kernel_rfl
theorem con22_ok (n : Nat) : Con.ok Tryz.prog 22 (con22 n) := conOf_ok (tb22_ok n) (body_la (by kernel_rfl : Tryz.f22.body = some code22) (la22 n)) Tryz.func22 (enters Tryz.func22 (by kernel_rfl) (by kernel_rfl)) rfl rfl (ev22 n)
/-! ### loop.example/fathomline/laws.toIntSS -/
def L23_0 (n : Nat) : Nat → List (List Int) → List (List Int) → Int → Option (odens [((.exit 0), [(3, (.c false (.o (.rs 25 (.rs 3 (.int .i64))))))])])
  | 0, _, _, _ => none
  | m + 1, x1, x2, x3 =>
    cond (Decidable.decide (x3 < (↑x1.length : Int)))
    (if (0 : Int) ≤ x3 then
     if x3 < (↑x1.length : Int) then
     (F22 n (x1.getD x3.toNat [])).bind fun y4 =>
     if (0 : Int) ≤ x3 then
     if x3 < (↑x2.length : Int) then
     if x3.toNat < x2.length then
     if (List.take x3.toNat x2).length = x3.toNat then
     L23_0 n m (x1) (List.take x3.toNat x2 ++ y4.fst :: List.drop (x3.toNat + (1 : Nat)) x2) (Go.IntKind.i64.wrap (x3 + (1 : Int)))
     else none
     else none
     else none
     else none
     else none
     else none)
    (some (Sum.inl (x2, ())))
def F23 (n : Nat) (a0 : List (List Int)) : Option (rdens [.c false (.v false (.rs 25 (.rs 3 (.int .i64))))] [.c false (.o (.rs 25 (.rs 3 (.int .i64))))]) :=
  if (↑a0.length : Int) = (↑a0.length : Int) then
  if (↑a0.length : Int).toNat * (24 : Nat) ≤ (140737488355328 : Nat) then
  match L23_0 n n (a0) (List.replicate (↑a0.length : Int).toNat []) ((0 : Int)) with
  | none => none
  | some (Sum.inl v5) =>
   some (v5.fst, ())
  else none
  else none
noncomputable def con23 (n : Nat) : Con := conOf [.c false (.v false (.rs 25 (.rs 3 (.int .i64))))] [.c false (.o (.rs 25 (.rs 3 (.int .i64))))] fun x => F23 n x.1
noncomputable def tb23 (n : Nat) : Tb := ⟨tiOf Tryz.prog, conL [(22, con22 n)], n, [], 23, lpL [(0, ⟨[(0, (.c false (.v false (.rs 25 (.rs 3 (.int .i64)))))), (3, (.c false (.o (.rs 25 (.rs 3 (.int .i64)))))), (4, (.c false (.v true (.int .i64))))], [((.exit 0), [(3, (.c false (.o (.rs 25 (.rs 3 (.int .i64))))))])], fun m v => L23_0 n m v.1 v.2.1 v.2.2.1⟩)], ctL [], [], true⟩
noncomputable def code23 : Code := Tryz.f23.body.getD .skip
theorem tb23_ok (n : Nat) : (tb23 n).ok Tryz.prog := tbOk mixed (⟨con22_ok n, trivial⟩)
theorem lp23_0 (n : Nat) : LpAt (tb23 n) (loopBody code23 0) 0 := lpAt rfl (fun _ => by kernel_rfl) (fun _ _ => by kernel_rfl)
theorem blocks23 : blocks code23 = [(0, .loop (loopBody code23 0)), (1, blockBody code23 1)] := by kernel_rfl
theorem la23 (n : Nat) : LpAll (tb23 n) code23 := lpAll blocks23 (bl_loop (lp23_0 n) (bl_none rfl (bl_nil))) rfl (cs_no fun _ => rfl) (by kernel_rfl)
theorem ev23 (n : Nat) (x : pdens [.c false (.v false (.rs 25 (.rs 3 (.int .i64))))]) : evSig (tb23 n) Tryz.f23 [.c false (.v false (.rs 25 (.rs 3 (.int .i64))))] [.c false (.o (.rs 25 (.rs 3 (.int .i64))))] x = F23 n x.1 := by kernel_rfl
theorem con23_ok (n : Nat) : Con.ok Tryz.prog 23 (con23 n) := conOf_ok (tb23_ok n) (body_la (by kernel_rfl : Tryz.f23.body = some code23) (la23 n)) Tryz.func23 (enters Tryz.func23 (by kernel_rfl) (by kernel_rfl)) rfl rfl (ev23 n)
/-! ### loop.example/fathomline/laws.toExec -/
def F8 (n : Nat) (a0 : List Int × List (List Int)) : Option (rdens [.c true (.v false (.pair (.rs 3 (.int .i64)) (.rs 25 (.rs 3 (.int .i64)))))] [.c true (.o (.pair (.rs 3 (.int .i64)) (.rs 25 (.rs 3 (.int .i64)))))]) :=
  (F22 n (a0.fst)).bind fun y1 =>
  (F23 n (a0.snd)).bind fun y2 =>
  some ((y1.fst, y2.fst), ())
noncomputable def con8 (n : Nat) : Con := conOf [.c true (.v false (.pair (.rs 3 (.int .i64)) (.rs 25 (.rs 3 (.int .i64)))))] [.c true (.o (.pair (.rs 3 (.int .i64)) (.rs 25 (.rs 3 (.int .i64)))))] fun x => F8 n x.1
noncomputable def tb8 (n : Nat) : Tb := ⟨tiOf Tryz.prog, conL [(22, con22 n), (23, con23 n)], n, [], 13, lpL [], ctL [], [], true⟩
noncomputable def code8 : Code := Tryz.f8.body.getD .skip
theorem tb8_ok (n : Nat) : (tb8 n).ok Tryz.prog := tbOk mixed (⟨con22_ok n, ⟨con23_ok n, trivial⟩⟩)
theorem blocks8 : blocks code8 = [] := by kernel_rfl
theorem la8 (n : Nat) : LpAll (tb8 n) code8 := lpAll blocks8 (bl_nil) rfl (cs_no fun _ => rfl) (by kernel_rfl)
theorem ev8 (n : Nat) (x : pdens [.c true (.v false (.pair (.rs 3 (.int .i64)) (.rs 25 (.rs 3 (.int .i64)))))]) : evSig (tb8 n) Tryz.f8 [.c true (.v false (.pair (.rs 3 (.int .i64)) (.rs 25 (.rs 3 (.int .i64)))))] [.c true (.o (.pair (.rs 3 (.int .i64)) (.rs 25 (.rs 3 (.int .i64)))))] x = F8 n x.1 := by kernel_rfl
theorem con8_ok (n : Nat) : Con.ok Tryz.prog 8 (con8 n) := conOf_ok (tb8_ok n) (body_la (by kernel_rfl : Tryz.f8.body = some code8) (la8 n)) Tryz.func8 (enters Tryz.func8 (by kernel_rfl) (by kernel_rfl)) rfl rfl (ev8 n)
/-! ### loop.example/fathomline/laws.eqIntS -/
def L30_0 (n : Nat) : Nat → List Int → List Int → Int → Option (odens [(.ret, [(4, (.c false (.v true .bool)))]), ((.exit 0), [])])
  | 0, _, _, _ => none
  | m + 1, x1, x2, x3 =>
    cond (Decidable.decide (x3 < (↑x1.length : Int)))
    (if (0 : Int) ≤ x3 then
     if x3 < (↑x1.length : Int) then
     if (0 : Int) ≤ x3 then
     if x3 < (↑x2.length : Int) then
     cond (x1.getD x3.toNat (0 : Int) != x2.getD x3.toNat (0 : Int))
     (some (Sum.inl (Bool.false, ())))
     (L30_0 n m (x1) (x2) (Go.IntKind.i64.wrap (x3 + (1 : Int))))
     else none
     else none
     else none
     else none)
    (some (Sum.inr (Sum.inl (()))))
def F30 (n : Nat) (a0 : List Int) (a1 : List Int) : Option (rdens [.c false (.v false (.rs 3 (.int .i64))), .c false (.v false (.rs 3 (.int .i64)))] [.c false (.v true .bool)]) :=
  cond ((↑a0.length : Int) != (↑a1.length : Int))
  (some (Bool.false, ()))
  (match L30_0 n n (a0) (a1) ((0 : Int)) with
   | none => none
   | some (Sum.inl v4) =>
    some (v4.fst, ())
   | some (Sum.inr (Sum.inl v5)) =>
    some (Bool.true, ()))
noncomputable def con30 (n : Nat) : Con := conOf [.c false (.v false (.rs 3 (.int .i64))), .c false (.v false (.rs 3 (.int .i64)))] [.c false (.v true .bool)] fun x => F30 n x.1 x.2.1
noncomputable def tb30 (n : Nat) : Tb := ⟨tiOf Tryz.prog, conL [], n, [], 26, lpL [(0, ⟨[(0, (.c false (.v false (.rs 3 (.int .i64))))), (1, (.c false (.v false (.rs 3 (.int .i64))))), (5, (.c false (.v true (.int .i64))))], [(.ret, [(4, (.c false (.v true .bool)))]), ((.exit 0), [])], fun m v => L30_0 n m v.1 v.2.1 v.2.2.1⟩)], ctL [], [], true⟩
noncomputable def code30 : Code := Tryz.f30.body.getD .skip
theorem tb30_ok (n : Nat) : (tb30 n).ok Tryz.prog := tbOk mixed (trivial)
theorem lp30_0 (n : Nat) : LpAt (tb30 n) (loopBody code30 0) 0 := lpAt rfl (fun _ => by kernel_rfl) (fun _ _ => by kernel_rfl)
theorem blocks30 : blocks code30 = [(0, .loop (loopBody code30 0)), (1, blockBody code30 1)] := by kernel_rfl
theorem la30 (n : Nat) : LpAll (tb30 n) code30 := lpAll blocks30 (bl_loop (lp30_0 n) (bl_none rfl (bl_nil))) rfl (cs_no fun _ => rfl) (by kernel_rfl)
theorem ev30 (n : Nat) (x : pdens [.c false (.v false (.rs 3 (.int .i64))), .c false (.v false (.rs 3 (.int .i64)))]) : evSig (tb30 n) Tryz.f30 [.c false (.v false (.rs 3 (.int .i64))), .c false (.v false (.rs 3 (.int .i64)))] [.c false (.v true .bool)] x = F30 n x.1 x.2.1 := by kernel_rfl
theorem con30_ok (n : Nat) : Con.ok Tryz.prog 30 (con30 n) := conOf_ok (tb30_ok n) (body_la (by kernel_rfl : Tryz.f30.body = some code30) (la30 n)) Tryz.func30 (enters Tryz.func30 (by kernel_rfl) (by kernel_rfl)) rfl rfl (ev30 n)
/-! ### loop.example/fathomline/laws.eqIntSS -/
def L31_0 (n : Nat) : Nat → List (List Int) → List (List Int) → Int → Option (odens [(.ret, [(4, (.c false (.v true .bool)))]), ((.exit 0), [])])
  | 0, _, _, _ => none
  | m + 1, x1, x2, x3 =>
    cond (Decidable.decide (x3 < (↑x1.length : Int)))
    (if (0 : Int) ≤ x3 then
     if x3 < (↑x1.length : Int) then
     if (0 : Int) ≤ x3 then
     if x3 < (↑x2.length : Int) then
     (F30 n (x1.getD x3.toNat []) (x2.getD x3.toNat [])).bind fun y4 =>
     cond (!y4.fst)
     (some (Sum.inl (Bool.false, ())))
     (L31_0 n m (x1) (x2) (Go.IntKind.i64.wrap (x3 + (1 : Int))))
     else none
     else none
     else none
     else none)
    (some (Sum.inr (Sum.inl (()))))
def F31 (n : Nat) (a0 : List (List Int)) (a1 : List (List Int)) : Option (rdens [.c false (.v false (.rs 25 (.rs 3 (.int .i64)))), .c false (.v false (.rs 25 (.rs 3 (.int .i64))))] [.c false (.v true .bool)]) :=
  cond ((↑a0.length : Int) != (↑a1.length : Int))
  (some (Bool.false, ()))
  (match L31_0 n n (a0) (a1) ((0 : Int)) with
   | none => none
   | some (Sum.inl v5) =>
    some (v5.fst, ())
   | some (Sum.inr (Sum.inl v6)) =>
    some (Bool.true, ()))
noncomputable def con31 (n : Nat) : Con := conOf [.c false (.v false (.rs 25 (.rs 3 (.int .i64)))), .c false (.v false (.rs 25 (.rs 3 (.int .i64))))] [.c false (.v true .bool)] fun x => F31 n x.1 x.2.1
noncomputable def tb31 (n : Nat) : Tb := ⟨tiOf Tryz.prog, conL [(30, con30 n)], n, [], 27, lpL [(0, ⟨[(0, (.c false (.v false (.rs 25 (.rs 3 (.int .i64)))))), (1, (.c false (.v false (.rs 25 (.rs 3 (.int .i64)))))), (5, (.c false (.v true (.int .i64))))], [(.ret, [(4, (.c false (.v true .bool)))]), ((.exit 0), [])], fun m v => L31_0 n m v.1 v.2.1 v.2.2.1⟩)], ctL [], [], true⟩
noncomputable def code31 : Code := Tryz.f31.body.getD .skip
theorem tb31_ok (n : Nat) : (tb31 n).ok Tryz.prog := tbOk mixed (⟨con30_ok n, trivial⟩)
theorem lp31_0 (n : Nat) : LpAt (tb31 n) (loopBody code31 0) 0 := lpAt rfl (fun _ => by kernel_rfl) (fun _ _ => by kernel_rfl)
theorem blocks31 : blocks code31 = [(0, .loop (loopBody code31 0)), (1, blockBody code31 1)] := by kernel_rfl
theorem la31 (n : Nat) : LpAll (tb31 n) code31 := lpAll blocks31 (bl_loop (lp31_0 n) (bl_none rfl (bl_nil))) rfl (cs_no fun _ => rfl) (by kernel_rfl)
theorem ev31 (n : Nat) (x : pdens [.c false (.v false (.rs 25 (.rs 3 (.int .i64)))), .c false (.v false (.rs 25 (.rs 3 (.int .i64))))]) : evSig (tb31 n) Tryz.f31 [.c false (.v false (.rs 25 (.rs 3 (.int .i64)))), .c false (.v false (.rs 25 (.rs 3 (.int .i64))))] [.c false (.v true .bool)] x = F31 n x.1 x.2.1 := by kernel_rfl
theorem con31_ok (n : Nat) : Con.ok Tryz.prog 31 (con31 n) := conOf_ok (tb31_ok n) (body_la (by kernel_rfl : Tryz.f31.body = some code31) (la31 n)) Tryz.func31 (enters Tryz.func31 (by kernel_rfl) (by kernel_rfl)) rfl rfl (ev31 n)
/-! ### loop.example/fathomline/laws.eqExec -/
def F11 (n : Nat) (a0 : List Int × List (List Int)) (a1 : List Int × List (List Int)) : Option (rdens [.c true (.v false (.pair (.rs 3 (.int .i64)) (.rs 25 (.rs 3 (.int .i64))))), .c true (.v false (.pair (.rs 3 (.int .i64)) (.rs 25 (.rs 3 (.int .i64)))))] [.c false (.v true .bool)]) :=
  (F30 n (a0.fst) (a1.fst)).bind fun y1 =>
  cond (!y1.fst)
  (some (Bool.false, ()))
  ((F31 n (a0.snd) (a1.snd)).bind fun y2 =>
   cond (!y2.fst)
   (some (Bool.false, ()))
   (some (Bool.true, ())))
noncomputable def con11 (n : Nat) : Con := conOf [.c true (.v false (.pair (.rs 3 (.int .i64)) (.rs 25 (.rs 3 (.int .i64))))), .c true (.v false (.pair (.rs 3 (.int .i64)) (.rs 25 (.rs 3 (.int .i64)))))] [.c false (.v true .bool)] fun x => F11 n x.1 x.2.1
noncomputable def tb11 (n : Nat) : Tb := ⟨tiOf Tryz.prog, conL [(30, con30 n), (31, con31 n)], n, [], 17, lpL [], ctL [], [], true⟩
noncomputable def code11 : Code := Tryz.f11.body.getD .skip
theorem tb11_ok (n : Nat) : (tb11 n).ok Tryz.prog := tbOk mixed (⟨con30_ok n, ⟨con31_ok n, trivial⟩⟩)
theorem blocks11 : blocks code11 = [] := by kernel_rfl
theorem la11 (n : Nat) : LpAll (tb11 n) code11 := lpAll blocks11 (bl_nil) rfl (cs_no fun _ => rfl) (by kernel_rfl)
theorem ev11 (n : Nat) (x : pdens [.c true (.v false (.pair (.rs 3 (.int .i64)) (.rs 25 (.rs 3 (.int .i64))))), .c true (.v false (.pair (.rs 3 (.int .i64)) (.rs 25 (.rs 3 (.int .i64)))))]) : evSig (tb11 n) Tryz.f11 [.c true (.v false (.pair (.rs 3 (.int .i64)) (.rs 25 (.rs 3 (.int .i64))))), .c true (.v false (.pair (.rs 3 (.int .i64)) (.rs 25 (.rs 3 (.int .i64)))))] [.c false (.v true .bool)] x = F11 n x.1 x.2.1 := by kernel_rfl
theorem con11_ok (n : Nat) : Con.ok Tryz.prog 11 (con11 n) := conOf_ok (tb11_ok n) (body_la (by kernel_rfl : Tryz.f11.body = some code11) (la11 n)) Tryz.func11 (enters Tryz.func11 (by kernel_rfl) (by kernel_rfl)) rfl rfl (ev11 n)
end Go.Proofs.YtdacfaincamliaaGreat.Ev
