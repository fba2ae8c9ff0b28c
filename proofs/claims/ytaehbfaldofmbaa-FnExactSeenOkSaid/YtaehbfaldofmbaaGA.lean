/- Plain functions that the loaded code comes to, and that it does. Conditions: none. -/
import Derived.Test.YtaehbfaldofmbaaGM
namespace Go.Proofs.Ytaehbfaldofmbaa.Ev
open Go Go.Proofs
/-! ### loop.example/fathomline/laws.szDoS -/
def F116 (n : Nat) (a0 : List (Int × Int × Int)) (a1 : Int) : Option (rdens [.c false (.v false (.rs 130 (.pair (.int .i64) (.pair (.int .i64) (.int .i64))))), .c false (.v true (.int .i64))] [.c false (.v true (.int .i64))]) :=
  cond (Decidable.decide (Go.IntKind.i64.wrap (a1 - (↑a0.length : Int)) < (0 : Int)))
  (some ((-1 : Int), ()))
  (some (Go.IntKind.i64.wrap (a1 - (↑a0.length : Int)), ()))
noncomputable def con116 (n : Nat) : Con := conOf [.c false (.v false (.rs 130 (.pair (.int .i64) (.pair (.int .i64) (.int .i64))))), .c false (.v true (.int .i64))] [.c false (.v true (.int .i64))] fun x => F116 n x.1 x.2.1
noncomputable def tb116 (n : Nat) : Tb := ⟨tiOf Try.prog, conL [], n, [], 12, lpL [], ctL [], [], true⟩
noncomputable def code116 : Code := Try.f116.body.getD .skip
theorem tb116_ok (n : Nat) : (tb116 n).ok Try.prog := tbOk mixed (trivial)
theorem blocks116 : blocks code116 = [] := by kernel_rfl
theorem la116 (n : Nat) : LpAll (tb116 n) code116 := lpAll blocks116 (bl_nil) rfl (cs_no fun _ => rfl) (by kernel_rfl)
theorem ev116 (n : Nat) (x : pdens [.c false (.v false (.rs 130 (.pair (.int .i64) (.pair (.int .i64) (.int .i64))))), .c false (.v true (.int .i64))]) : evSig (tb116 n) Try.f116 [.c false (.v false (.rs 130 (.pair (.int .i64) (.pair (.int .i64) (.int .i64))))), .c false (.v true (.int .i64))] [.c false (.v true (.int .i64))] x = F116 n x.1 x.2.1 := by kernel_rfl
theorem con116_ok (n : Nat) : Con.ok Try.prog 116 (con116 n) := conOf_ok (tb116_ok n) (body_la (by kernel_rfl : Try.f116.body = some code116) (la116 n)) Try.func116 (enters Try.func116 (by kernel_rfl) (by kernel_rfl)) rfl rfl (ev116 n)
/-! ### loop.example/fathomline/laws.szDoSS -/
def L80_0 (n : Nat) : Nat → List (List (Int × Int × Int)) → Int → Int → Option (odens [(.ret, [(4, (.c false (.v true (.int .i64))))]), ((.exit 0), [(1, (.c false (.v true (.int .i64))))])])
  | 0, _, _, _ => none
  | m + 1, x1, x2, x3 =>
    cond (Decidable.decide (x3 < (↑x1.length : Int)))
    (if (0 : Int) ≤ x3 then
     if x3 < (↑x1.length : Int) then
     (F116 n (x1.getD x3.toNat []) (x2)).bind fun y4 =>
     cond (Decidable.decide (y4.fst < (0 : Int)))
     (some (Sum.inl ((-1 : Int), ())))
     (L80_0 n m (x1) (y4.fst) (Go.IntKind.i64.wrap (x3 + (1 : Int))))
     else none
     else none)
    (some (Sum.inr (Sum.inl (x2, ()))))
def F80 (n : Nat) (a0 : List (List (Int × Int × Int))) (a1 : Int) : Option (rdens [.c false (.v false (.rs 115 (.rs 130 (.pair (.int .i64) (.pair (.int .i64) (.int .i64)))))), .c false (.v true (.int .i64))] [.c false (.v true (.int .i64))]) :=
  cond (Decidable.decide (Go.IntKind.i64.wrap (a1 - (↑a0.length : Int)) < (0 : Int)))
  (some ((-1 : Int), ()))
  (match L80_0 n n (a0) (Go.IntKind.i64.wrap (a1 - (↑a0.length : Int))) ((0 : Int)) with
   | none => none
   | some (Sum.inl v5) =>
    some (v5.fst, ())
   | some (Sum.inr (Sum.inl v6)) =>
    some (v6.fst, ()))
noncomputable def con80 (n : Nat) : Con := conOf [.c false (.v false (.rs 115 (.rs 130 (.pair (.int .i64) (.pair (.int .i64) (.int .i64)))))), .c false (.v true (.int .i64))] [.c false (.v true (.int .i64))] fun x => F80 n x.1 x.2.1
noncomputable def tb80 (n : Nat) : Tb := ⟨tiOf Try.prog, conL [(116, con116 n)], n, [], 27, lpL [(0, ⟨[(0, (.c false (.v false (.rs 115 (.rs 130 (.pair (.int .i64) (.pair (.int .i64) (.int .i64)))))))), (1, (.c false (.v true (.int .i64)))), (5, (.c false (.v true (.int .i64))))], [(.ret, [(4, (.c false (.v true (.int .i64))))]), ((.exit 0), [(1, (.c false (.v true (.int .i64))))])], fun m v => L80_0 n m v.1 v.2.1 v.2.2.1⟩)], ctL [], [], true⟩
noncomputable def code80 : Code := Try.f80.body.getD .skip
theorem tb80_ok (n : Nat) : (tb80 n).ok Try.prog := tbOk mixed (⟨con116_ok n, trivial⟩)
theorem lp80_0 (n : Nat) : LpAt (tb80 n) (loopBody code80 0) 0 := lpAt rfl (fun _ => by kernel_rfl) (fun _ _ => by kernel_rfl)
theorem blocks80 : blocks code80 = [(0, .loop (loopBody code80 0)), (1, blockBody code80 1)] := by kernel_rfl
theorem la80 (n : Nat) : LpAll (tb80 n) code80 := lpAll blocks80 (bl_loop (lp80_0 n) (bl_none rfl (bl_nil))) rfl (cs_no fun _ => rfl) (by kernel_rfl)
theorem ev80 (n : Nat) (x : pdens [.c false (.v false (.rs 115 (.rs 130 (.pair (.int .i64) (.pair (.int .i64) (.int .i64)))))), .c false (.v true (.int .i64))]) : evSig (tb80 n) Try.f80 [.c false (.v false (.rs 115 (.rs 130 (.pair (.int .i64) (.pair (.int .i64) (.int .i64)))))), .c false (.v true (.int .i64))] [.c false (.v true (.int .i64))] x = F80 n x.1 x.2.1 := by kernel_rfl
theorem con80_ok (n : Nat) : Con.ok Try.prog 80 (con80 n) := conOf_ok (tb80_ok n) (body_la (by kernel_rfl : Try.f80.body = some code80) (la80 n)) Try.func80 (enters Try.func80 (by kernel_rfl) (by kernel_rfl)) rfl rfl (ev80 n)
/-! ### loop.example/fathomline/laws.szProg -/
def F34 (n : Nat) (a0 : List (List (Int × Int × Int))) (a1 : Int) : Option (rdens [.c true (.v false (.rs 115 (.rs 130 (.pair (.int .i64) (.pair (.int .i64) (.int .i64)))))), .c false (.v true (.int .i64))] [.c false (.v true (.int .i64))]) :=
  (F80 n (a0) (a1)).bind fun y1 =>
  cond (Decidable.decide (y1.fst < (0 : Int)))
  (some ((-1 : Int), ()))
  (some (y1.fst, ()))
noncomputable def con34 (n : Nat) : Con := conOf [.c true (.v false (.rs 115 (.rs 130 (.pair (.int .i64) (.pair (.int .i64) (.int .i64)))))), .c false (.v true (.int .i64))] [.c false (.v true (.int .i64))] fun x => F34 n x.1 x.2.1
noncomputable def tb34 (n : Nat) : Tb := ⟨tiOf Try.prog, conL [(80, con80 n)], n, [], 12, lpL [], ctL [], [], true⟩
noncomputable def code34 : Code := Try.f34.body.getD .skip
theorem tb34_ok (n : Nat) : (tb34 n).ok Try.prog := tbOk mixed (⟨con80_ok n, trivial⟩)
theorem blocks34 : blocks code34 = [] := by kernel_rfl
theorem la34 (n : Nat) : LpAll (tb34 n) code34 := lpAll blocks34 (bl_nil) rfl (cs_no fun _ => rfl) (by kernel_rfl)
theorem ev34 (n : Nat) (x : pdens [.c true (.v false (.rs 115 (.rs 130 (.pair (.int .i64) (.pair (.int .i64) (.int .i64)))))), .c false (.v true (.int .i64))]) : evSig (tb34 n) Try.f34 [.c true (.v false (.rs 115 (.rs 130 (.pair (.int .i64) (.pair (.int .i64) (.int .i64)))))), .c false (.v true (.int .i64))] [.c false (.v true (.int .i64))] x = F34 n x.1 x.2.1 := by kernel_rfl
theorem con34_ok (n : Nat) : Con.ok Try.prog 34 (con34 n) := conOf_ok (tb34_ok n) (body_la (by kernel_rfl : Try.f34.body = some code34) (la34 n)) Try.func34 (enters Try.func34 (by kernel_rfl) (by kernel_rfl)) rfl rfl (ev34 n)
/-! ### loop.example/fathomline/laws.toDo -/
def F138 (n : Nat) (a0 : Int × Int × Int) : Option (rdens [.c true (.v true (.pair (.int .i64) (.pair (.int .i64) (.int .i64))))] [.c true (.v true (.pair (.int .i64) (.pair (.int .i64) (.int .i64))))]) :=
  some ((a0.fst, a0.snd.fst, a0.snd.snd), ())
noncomputable def con138 (n : Nat) : Con := conOf [.c true (.v true (.pair (.int .i64) (.pair (.int .i64) (.int .i64))))] [.c true (.v true (.pair (.int .i64) (.pair (.int .i64) (.int .i64))))] fun x => F138 n x.1
noncomputable def tb138 (n : Nat) : Tb := ⟨tiOf Try.prog, conL [], n, [], 14, lpL [], ctL [], [], true⟩
noncomputable def code138 : Code := Try.f138.body.getD .skip
theorem tb138_ok (n : Nat) : (tb138 n).ok Try.prog := tbOk mixed (trivial)
theorem blocks138 : blocks code138 = [] := by kernel_rfl
theorem la138 (n : Nat) : LpAll (tb138 n) code138 := lpAll blocks138 (bl_nil) rfl (cs_no fun _ => rfl) (by kernel_rfl)
theorem ev138 (n : Nat) (x : pdens [.c true (.v true (.pair (.int .i64) (.pair (.int .i64) (.int .i64))))]) : evSig (tb138 n) Try.f138 [.c true (.v true (.pair (.int .i64) (.pair (.int .i64) (.int .i64))))] [.c true (.v true (.pair (.int .i64) (.pair (.int .i64) (.int .i64))))] x = F138 n x.1 := by kernel_rfl
theorem con138_ok (n : Nat) : Con.ok Try.prog 138 (con138 n) := conOf_ok (tb138_ok n) (body_la (by kernel_rfl : Try.f138.body = some code138) (la138 n)) Try.func138 (enters Try.func138 (by kernel_rfl) (by kernel_rfl)) rfl rfl (ev138 n)
/-! ### loop.example/fathomline/laws.toDoS -/
def L118_0 (n : Nat) : Nat → List (Int × Int × Int) → List (Int × Int × Int) → Int → Option (odens [((.exit 0), [(3, (.c false (.r 52 (.pair (.int .i64) (.pair (.int .i64) (.int .i64))))))])])
  | 0, _, _, _ => none
  | m + 1, x1, x2, x3 =>
    cond (Decidable.decide (x3 < (↑x1.length : Int)))
    (if (0 : Int) ≤ x3 then
     if x3 < (↑x1.length : Int) then
     (F138 n (((x1.getD x3.toNat ((0 : Int), (0 : Int), (0 : Int))).fst, (x1.getD x3.toNat ((0 : Int), (0 : Int), (0 : Int))).snd.fst, (x1.getD x3.toNat ((0 : Int), (0 : Int), (0 : Int))).snd.snd))).bind fun y4 =>
     if (0 : Int) ≤ x3 then
     if x3 < (↑x2.length : Int) then
     if x3.toNat < x2.length then
     L118_0 n m (x1) (x2.set x3.toNat (y4.fst.fst, y4.fst.snd.fst, y4.fst.snd.snd)) (Go.IntKind.i64.wrap (x3 + (1 : Int)))
     else none
     else none
     else none
     else none
     else none)
    (some (Sum.inl (x2, ())))
def F118 (n : Nat) (a0 : List (Int × Int × Int)) : Option (rdens [.c false (.v false (.rs 130 (.pair (.int .i64) (.pair (.int .i64) (.int .i64)))))] [.c false (.r 52 (.pair (.int .i64) (.pair (.int .i64) (.int .i64))))]) :=
  if (↑a0.length : Int) = (↑a0.length : Int) then
  if (↑a0.length : Int).toNat * (24 : Nat) ≤ (140737488355328 : Nat) then
  match L118_0 n n (a0) (List.replicate (↑a0.length : Int).toNat ((0 : Int), (0 : Int), (0 : Int))) ((0 : Int)) with
  | none => none
  | some (Sum.inl v5) =>
   some (v5.fst, ())
  else none
  else none
noncomputable def con118 (n : Nat) : Con := conOf [.c false (.v false (.rs 130 (.pair (.int .i64) (.pair (.int .i64) (.int .i64)))))] [.c false (.r 52 (.pair (.int .i64) (.pair (.int .i64) (.int .i64))))] fun x => F118 n x.1
noncomputable def tb118 (n : Nat) : Tb := ⟨tiOf Try.prog, conL [(138, con138 n)], n, [], 23, lpL [(0, ⟨[(0, (.c false (.v false (.rs 130 (.pair (.int .i64) (.pair (.int .i64) (.int .i64))))))), (3, (.c false (.r 52 (.pair (.int .i64) (.pair (.int .i64) (.int .i64)))))), (4, (.c false (.v true (.int .i64))))], [((.exit 0), [(3, (.c false (.r 52 (.pair (.int .i64) (.pair (.int .i64) (.int .i64))))))])], fun m v => L118_0 n m v.1 v.2.1 v.2.2.1⟩)], ctL [], [], true⟩
noncomputable def code118 : Code := Try.f118.body.getD .skip
theorem tb118_ok (n : Nat) : (tb118 n).ok Try.prog := tbOk mixed (⟨con138_ok n, trivial⟩)
theorem lp118_0 (n : Nat) : LpAt (tb118 n) (loopBody code118 0) 0 := lpAt rfl (fun _ => by kernel_rfl) (fun _ _ => by kernel_rfl)
theorem blocks118 : blocks code118 = [(0, .loop (loopBody code118 0)), (1, blockBody code118 1)] := by kernel_rfl
theorem la118 (n : Nat) : LpAll (tb118 n) code118 := lpAll blocks118 (bl_loop (lp118_0 n) (bl_none rfl (bl_nil))) rfl (cs_no fun _ => rfl) (by kernel_rfl)
theorem ev118 (n : Nat) (x : pdens [.c false (.v false (.rs 130 (.pair (.int .i64) (.pair (.int .i64) (.int .i64)))))]) : evSig (tb118 n) Try.f118 [.c false (.v false (.rs 130 (.pair (.int .i64) (.pair (.int .i64) (.int .i64)))))] [.c false (.r 52 (.pair (.int .i64) (.pair (.int .i64) (.int .i64))))] x = F118 n x.1 := by kernel_rfl
theorem con118_ok (n : Nat) : Con.ok Try.prog 118 (con118 n) := conOf_ok (tb118_ok n) (body_la (by kernel_rfl : Try.f118.body = some code118) (la118 n)) Try.func118 (enters Try.func118 (by kernel_rfl) (by kernel_rfl)) rfl rfl (ev118 n)
/-! ### loop.example/fathomline/laws.toDoSS -/
def L84_0 (n : Nat) : Nat → List (List (Int × Int × Int)) → List (List (Int × Int × Int)) → Int → Option (odens [((.exit 0), [(3, (.c false (.o (.rs 50 (.rs 52 (.pair (.int .i64) (.pair (.int .i64) (.int .i64))))))))])])
  | 0, _, _, _ => none
  | m + 1, x1, x2, x3 =>
    cond (Decidable.decide (x3 < (↑x1.length : Int)))
    (if (0 : Int) ≤ x3 then
     if x3 < (↑x1.length : Int) then
     (F118 n (x1.getD x3.toNat [])).bind fun y4 =>
     if (0 : Int) ≤ x3 then
     if x3 < (↑x2.length : Int) then
     if x3.toNat < x2.length then
     if (List.take x3.toNat x2).length = x3.toNat then
     L84_0 n m (x1) (List.take x3.toNat x2 ++ y4.fst :: List.drop (x3.toNat + (1 : Nat)) x2) (Go.IntKind.i64.wrap (x3 + (1 : Int)))
     else none
     else none
     else none
     else none
     else none
     else none)
    (some (Sum.inl (x2, ())))
def F84 (n : Nat) (a0 : List (List (Int × Int × Int))) : Option (rdens [.c false (.v false (.rs 115 (.rs 130 (.pair (.int .i64) (.pair (.int .i64) (.int .i64))))))] [.c false (.o (.rs 50 (.rs 52 (.pair (.int .i64) (.pair (.int .i64) (.int .i64))))))]) :=
  if (↑a0.length : Int) = (↑a0.length : Int) then
  if (↑a0.length : Int).toNat * (24 : Nat) ≤ (140737488355328 : Nat) then
  match L84_0 n n (a0) (List.replicate (↑a0.length : Int).toNat []) ((0 : Int)) with
  | none => none
  | some (Sum.inl v5) =>
   some (v5.fst, ())
  else none
  else none
noncomputable def con84 (n : Nat) : Con := conOf [.c false (.v false (.rs 115 (.rs 130 (.pair (.int .i64) (.pair (.int .i64) (.int .i64))))))] [.c false (.o (.rs 50 (.rs 52 (.pair (.int .i64) (.pair (.int .i64) (.int .i64))))))] fun x => F84 n x.1
noncomputable def tb84 (n : Nat) : Tb := ⟨tiOf Try.prog, conL [(118, con118 n)], n, [], 23, lpL [(0, ⟨[(0, (.c false (.v false (.rs 115 (.rs 130 (.pair (.int .i64) (.pair (.int .i64) (.int .i64)))))))), (3, (.c false (.o (.rs 50 (.rs 52 (.pair (.int .i64) (.pair (.int .i64) (.int .i64)))))))), (4, (.c false (.v true (.int .i64))))], [((.exit 0), [(3, (.c false (.o (.rs 50 (.rs 52 (.pair (.int .i64) (.pair (.int .i64) (.int .i64))))))))])], fun m v => L84_0 n m v.1 v.2.1 v.2.2.1⟩)], ctL [], [], true⟩
noncomputable def code84 : Code := Try.f84.body.getD .skip
theorem tb84_ok (n : Nat) : (tb84 n).ok Try.prog := tbOk mixed (⟨con118_ok n, trivial⟩)
theorem lp84_0 (n : Nat) : LpAt (tb84 n) (loopBody code84 0) 0 := lpAt rfl (fun _ => by kernel_rfl) (fun _ _ => by kernel_rfl)
theorem blocks84 : blocks code84 = [(0, .loop (loopBody code84 0)), (1, blockBody code84 1)] := by kernel_rfl
theorem la84 (n : Nat) : LpAll (tb84 n) code84 := lpAll blocks84 (bl_loop (lp84_0 n) (bl_none rfl (bl_nil))) rfl (cs_no fun _ => rfl) (by kernel_rfl)
theorem ev84 (n : Nat) (x : pdens [.c false (.v false (.rs 115 (.rs 130 (.pair (.int .i64) (.pair (.int .i64) (.int .i64))))))]) : evSig (tb84 n) Try.f84 [.c false (.v false (.rs 115 (.rs 130 (.pair (.int .i64) (.pair (.int .i64) (.int .i64))))))] [.c false (.o (.rs 50 (.rs 52 (.pair (.int .i64) (.pair (.int .i64) (.int .i64))))))] x = F84 n x.1 := by kernel_rfl
theorem con84_ok (n : Nat) : Con.ok Try.prog 84 (con84 n) := conOf_ok (tb84_ok n) (body_la (by kernel_rfl : Try.f84.body = some code84) (la84 n)) Try.func84 (enters Try.func84 (by kernel_rfl) (by kernel_rfl)) rfl rfl (ev84 n)
/-! ### loop.example/fathomline/laws.toProg -/
def F36 (n : Nat) (a0 : List (List (Int × Int × Int))) : Option (rdens [.c true (.v false (.rs 115 (.rs 130 (.pair (.int .i64) (.pair (.int .i64) (.int .i64))))))] [.c true (.o (.rs 50 (.rs 52 (.pair (.int .i64) (.pair (.int .i64) (.int .i64))))))]) :=
  (F84 n (a0)).bind fun y1 =>
  some (y1.fst, ())
noncomputable def con36 (n : Nat) : Con := conOf [.c true (.v false (.rs 115 (.rs 130 (.pair (.int .i64) (.pair (.int .i64) (.int .i64))))))] [.c true (.o (.rs 50 (.rs 52 (.pair (.int .i64) (.pair (.int .i64) (.int .i64))))))] fun x => F36 n x.1
noncomputable def tb36 (n : Nat) : Tb := ⟨tiOf Try.prog, conL [(84, con84 n)], n, [], 9, lpL [], ctL [], [], true⟩
noncomputable def code36 : Code := Try.f36.body.getD .skip
theorem tb36_ok (n : Nat) : (tb36 n).ok Try.prog := tbOk mixed (⟨con84_ok n, trivial⟩)
theorem blocks36 : blocks code36 = [] := by kernel_rfl
theorem la36 (n : Nat) : LpAll (tb36 n) code36 := lpAll blocks36 (bl_nil) rfl (cs_no fun _ => rfl) (by kernel_rfl)
theorem ev36 (n : Nat) (x : pdens [.c true (.v false (.rs 115 (.rs 130 (.pair (.int .i64) (.pair (.int .i64) (.int .i64))))))]) : evSig (tb36 n) Try.f36 [.c true (.v false (.rs 115 (.rs 130 (.pair (.int .i64) (.pair (.int .i64) (.int .i64))))))] [.c true (.o (.rs 50 (.rs 52 (.pair (.int .i64) (.pair (.int .i64) (.int .i64))))))] x = F36 n x.1 := by kernel_rfl
theorem con36_ok (n : Nat) : Con.ok Try.prog 36 (con36 n) := conOf_ok (tb36_ok n) (body_la (by kernel_rfl : Try.f36.body = some code36) (la36 n)) Try.func36 (enters Try.func36 (by kernel_rfl) (by kernel_rfl)) rfl rfl (ev36 n)
/-! ### loop.example/fathomline/spec.l1Reads -/
def F82 (n : Nat) (a0 : Int × Int × Int) : Option (rdens [.c true (.v true (.pair (.int .i64) (.pair (.int .i64) (.int .i64))))] [.c false (.v true .bool)]) :=
  cond (a0.fst == (2 : Int))
  (some (Bool.true, ()))
  (some (a0.fst == (5 : Int), ()))
noncomputable def con82 (n : Nat) : Con := conOf [.c true (.v true (.pair (.int .i64) (.pair (.int .i64) (.int .i64))))] [.c false (.v true .bool)] fun x => F82 n x.1
noncomputable def tb82 (n : Nat) : Tb := ⟨tiOf Try.prog, conL [], n, [], 11, lpL [], ctL [], [], true⟩
noncomputable def code82 : Code := Try.f82.body.getD .skip
theorem tb82_ok (n : Nat) : (tb82 n).ok Try.prog := tbOk mixed (trivial)
theorem blocks82 : blocks code82 = [] := by kernel_rfl
theorem la82 (n : Nat) : LpAll (tb82 n) code82 := lpAll blocks82 (bl_nil) rfl (cs_no fun _ => rfl) (by kernel_rfl)
theorem ev82 (n : Nat) (x : pdens [.c true (.v true (.pair (.int .i64) (.pair (.int .i64) (.int .i64))))]) : evSig (tb82 n) Try.f82 [.c true (.v true (.pair (.int .i64) (.pair (.int .i64) (.int .i64))))] [.c false (.v true .bool)] x = F82 n x.1 := by kernel_rfl
theorem con82_ok (n : Nat) : Con.ok Try.prog 82 (con82 n) := conOf_ok (tb82_ok n) (body_la (by kernel_rfl : Try.f82.body = some code82) (la82 n)) Try.func82 (enters Try.func82 (by kernel_rfl) (by kernel_rfl)) rfl rfl (ev82 n)
/-! ### loop.example/fathomline/spec.l1Writes -/
def F83 (n : Nat) (a0 : Int × Int × Int) : Option (rdens [.c true (.v true (.pair (.int .i64) (.pair (.int .i64) (.int .i64))))] [.c false (.v true .bool)]) :=
  cond (a0.fst == (1 : Int))
  (some (Bool.true, ()))
  (cond (a0.fst == (3 : Int))
   (some (Bool.true, ()))
   (some (a0.fst == (6 : Int), ())))
noncomputable def con83 (n : Nat) : Con := conOf [.c true (.v true (.pair (.int .i64) (.pair (.int .i64) (.int .i64))))] [.c false (.v true .bool)] fun x => F83 n x.1
noncomputable def tb83 (n : Nat) : Tb := ⟨tiOf Try.prog, conL [], n, [], 16, lpL [], ctL [], [], true⟩
noncomputable def code83 : Code := Try.f83.body.getD .skip
theorem tb83_ok (n : Nat) : (tb83 n).ok Try.prog := tbOk mixed (trivial)
theorem blocks83 : blocks code83 = [] := by kernel_rfl
theorem la83 (n : Nat) : LpAll (tb83 n) code83 := lpAll blocks83 (bl_nil) rfl (cs_no fun _ => rfl) (by kernel_rfl)
theorem ev83 (n : Nat) (x : pdens [.c true (.v true (.pair (.int .i64) (.pair (.int .i64) (.int .i64))))]) : evSig (tb83 n) Try.f83 [.c true (.v true (.pair (.int .i64) (.pair (.int .i64) (.int .i64))))] [.c false (.v true .bool)] x = F83 n x.1 := by kernel_rfl
theorem con83_ok (n : Nat) : Con.ok Try.prog 83 (con83 n) := conOf_ok (tb83_ok n) (body_la (by kernel_rfl : Try.f83.body = some code83) (la83 n)) Try.func83 (enters Try.func83 (by kernel_rfl) (by kernel_rfl)) rfl rfl (ev83 n)
/-! ### loop.example/fathomline/spec.l6In -/
def F129 (n : Nat) (a0 : Int) (a1 : Int) (a2 : Int) : Option (rdens [.c false (.v true (.int .i64)), .c false (.v true (.int .i64)), .c false (.v true (.int .i64))] [.c false (.v true .bool)]) :=
  cond (Decidable.decide (a0 ≥ a1))
  (some (Decidable.decide (a0 ≤ a2), ()))
  (some (Bool.false, ()))
noncomputable def con129 (n : Nat) : Con := conOf [.c false (.v true (.int .i64)), .c false (.v true (.int .i64)), .c false (.v true (.int .i64))] [.c false (.v true .bool)] fun x => F129 n x.1 x.2.1 x.2.2.1
noncomputable def tb129 (n : Nat) : Tb := ⟨tiOf Try.prog, conL [], n, [], 15, lpL [], ctL [], [], true⟩
noncomputable def code129 : Code := Try.f129.body.getD .skip
theorem tb129_ok (n : Nat) : (tb129 n).ok Try.prog := tbOk mixed (trivial)
theorem blocks129 : blocks code129 = [] := by kernel_rfl
theorem la129 (n : Nat) : LpAll (tb129 n) code129 := lpAll blocks129 (bl_nil) rfl (cs_no fun _ => rfl) (by kernel_rfl)
theorem ev129 (n : Nat) (x : pdens [.c false (.v true (.int .i64)), .c false (.v true (.int .i64)), .c false (.v true (.int .i64))]) : evSig (tb129 n) Try.f129 [.c false (.v true (.int .i64)), .c false (.v true (.int .i64)), .c false (.v true (.int .i64))] [.c false (.v true .bool)] x = F129 n x.1 x.2.1 x.2.2.1 := by kernel_rfl
theorem con129_ok (n : Nat) : Con.ok Try.prog 129 (con129 n) := conOf_ok (tb129_ok n) (body_la (by kernel_rfl : Try.f129.body = some code129) (la129 n)) Try.func129 (enters Try.func129 (by kernel_rfl) (by kernel_rfl)) rfl rfl (ev129 n)
/-! ### loop.example/fathomline/spec.l1Do -/
def J117_3 (n : Nat) (x4 : (Int × Int × Int) × Unit) (x5 : Bool) (x6 : Bool) : Option (odens [(.ret, [(2, (.c false (.v true .bool)))])]) :=
    (F129 n (x4.fst.fst) ((1 : Int)) ((9 : Int))).bind fun y7 =>
    cond (y7.fst)
    (cond (x6)
     ((F129 n (x4.fst.snd.fst) ((0 : Int)) ((2 : Int))).bind fun y8 =>
      cond (y8.fst)
      (cond (x5)
       ((F129 n (x4.fst.snd.snd) ((1 : Int)) ((3 : Int))).bind fun y9 =>
        cond (y9.fst)
        (some (Sum.inl (Bool.true, ())))
        (cond (!x5)
         (some (Sum.inl (x4.fst.snd.snd == (0 : Int), ())))
         (some (Sum.inl (Bool.false, ())))))
       (cond (!x5)
        (some (Sum.inl (x4.fst.snd.snd == (0 : Int), ())))
        (some (Sum.inl (Bool.false, ())))))
      (cond (!x6)
       (cond (x4.fst.snd.fst == (0 : Int))
        (cond (x5)
         ((F129 n (x4.fst.snd.snd) ((1 : Int)) ((3 : Int))).bind fun y10 =>
          cond (y10.fst)
          (some (Sum.inl (Bool.true, ())))
          (cond (!x5)
           (some (Sum.inl (x4.fst.snd.snd == (0 : Int), ())))
           (some (Sum.inl (Bool.false, ())))))
         (cond (!x5)
          (some (Sum.inl (x4.fst.snd.snd == (0 : Int), ())))
          (some (Sum.inl (Bool.false, ())))))
        (some (Sum.inl (Bool.false, ()))))
       (some (Sum.inl (Bool.false, ())))))
     (cond (!x6)
      (cond (x4.fst.snd.fst == (0 : Int))
       (cond (x5)
        ((F129 n (x4.fst.snd.snd) ((1 : Int)) ((3 : Int))).bind fun y11 =>
         cond (y11.fst)
         (some (Sum.inl (Bool.true, ())))
         (cond (!x5)
          (some (Sum.inl (x4.fst.snd.snd == (0 : Int), ())))
          (some (Sum.inl (Bool.false, ())))))
        (cond (!x5)
         (some (Sum.inl (x4.fst.snd.snd == (0 : Int), ())))
         (some (Sum.inl (Bool.false, ())))))
       (some (Sum.inl (Bool.false, ()))))
      (some (Sum.inl (Bool.false, ())))))
    (some (Sum.inl (Bool.false, ())))
def J117_2 (n : Nat) (x1 : (Int × Int × Int) × Unit) (x2 : Bool) : Option (odens [(.ret, [(2, (.c false (.v true .bool)))])]) :=
    (F82 n ((x1.fst.fst, x1.fst.snd.fst, x1.fst.snd.snd))).bind fun y3 =>
    cond (y3.fst)
    (match J117_3 n (((x1.fst.fst, x1.fst.snd.fst, x1.fst.snd.snd), ())) (x2) (Bool.true) with
     | none => none
     | some (Sum.inl v12) =>
      some (Sum.inl (v12.fst, ())))
    ((F83 n ((x1.fst.fst, x1.fst.snd.fst, x1.fst.snd.snd))).bind fun y13 =>
     match J117_3 n (((x1.fst.fst, x1.fst.snd.fst, x1.fst.snd.snd), ())) (x2) (y13.fst) with
     | none => none
     | some (Sum.inl v14) =>
      some (Sum.inl (v14.fst, ())))
def F117 (n : Nat) (a0 : Int × Int × Int) : Option (rdens [.c true (.v true (.pair (.int .i64) (.pair (.int .i64) (.int .i64))))] [.c false (.v true .bool)]) :=
  cond (a0.fst == (1 : Int))
  (match J117_2 n (((a0.fst, a0.snd.fst, a0.snd.snd), ())) (Bool.true) with
   | none => none
   | some (Sum.inl v15) =>
    some (v15.fst, ()))
  (match J117_2 n (((a0.fst, a0.snd.fst, a0.snd.snd), ())) (a0.fst == (6 : Int)) with
   | none => none
   | some (Sum.inl v16) =>
    some (v16.fst, ()))
noncomputable def con117 (n : Nat) : Con := conOf [.c true (.v true (.pair (.int .i64) (.pair (.int .i64) (.int .i64))))] [.c false (.v true .bool)] fun x => F117 n x.1
noncomputable def tb117 (n : Nat) : Tb := ⟨tiOf Try.prog, conL [(82, con82 n), (83, con83 n), (129, con129 n)], n, [], 56, lpL [], ctL [(3, ⟨[(1, (.b 52 [(.v true (.pair (.int .i64) (.pair (.int .i64) (.int .i64))))])), (3, (.c false (.v true .bool))), (4, (.c false (.v true .bool)))], [(.ret, [(2, (.c false (.v true .bool)))])], fun v => J117_3 n v.1 v.2.1 v.2.2.1⟩), (2, ⟨[(1, (.b 52 [(.v true (.pair (.int .i64) (.pair (.int .i64) (.int .i64))))])), (3, (.c false (.v true .bool)))], [(.ret, [(2, (.c false (.v true .bool)))])], fun v => J117_2 n v.1 v.2.1⟩)], [], true⟩
noncomputable def code117 : Code := Try.f117.body.getD .skip
theorem tb117_ok (n : Nat) : (tb117 n).ok Try.prog := tbOk mixed (⟨con82_ok n, ⟨con83_ok n, ⟨con129_ok n, trivial⟩⟩⟩)
theorem blocks117 : blocks code117 = [] := by kernel_rfl
theorem ct117_2 (n : Nat) : CtOk (tb117 n) (sec code117 1).2 ⟨[(1, (.b 52 [(.v true (.pair (.int .i64) (.pair (.int .i64) (.int .i64))))])), (3, (.c false (.v true .bool)))], [(.ret, [(2, (.c false (.v true .bool)))])], fun v => J117_2 n v.1 v.2.1⟩ := fun _ => by kernel_rfl
theorem ct117_3 (n : Nat) : CtOk (tb117 n) (sec code117 2).2 ⟨[(1, (.b 52 [(.v true (.pair (.int .i64) (.pair (.int .i64) (.int .i64))))])), (3, (.c false (.v true .bool))), (4, (.c false (.v true .bool)))], [(.ret, [(2, (.c false (.v true .bool)))])], fun v => J117_3 n v.1 v.2.1 v.2.2.1⟩ := fun _ => by kernel_rfl
theorem secs117 : seconds code117 = [(some 1, (sec code117 0).2), (some 2, (sec code117 1).2), (some 3, (sec code117 2).2), (none, (sec code117 3).2)] := by kernel_rfl
theorem la117 (n : Nat) : LpAll (tb117 n) code117 := lpAll blocks117 (bl_nil) secs117 (cs_none rfl (cs_one rfl (ct117_2 n) (cs_one rfl (ct117_3 n) (cs_none rfl (cs_nil))))) (by kernel_rfl)
theorem ev117 (n : Nat) (x : pdens [.c true (.v true (.pair (.int .i64) (.pair (.int .i64) (.int .i64))))]) : evSig (tb117 n) Try.f117 [.c true (.v true (.pair (.int .i64) (.pair (.int .i64) (.int .i64))))] [.c false (.v true .bool)] x = F117 n x.1 := by kernel_rfl
theorem con117_ok (n : Nat) : Con.ok Try.prog 117 (con117 n) := conOf_ok (tb117_ok n) (body_la (by kernel_rfl : Try.f117.body = some code117) (la117 n)) Try.func117 (enters Try.func117 (by kernel_rfl) (by kernel_rfl)) rfl rfl (ev117 n)
/-! ### loop.example/fathomline/spec.l1Thread -/
def J81_12 (n : Nat) (x11 : List (Int × Int × Int)) (x12 : Bool) (x13 : Bool) (x14 : Int) (x15 : (Int × Int × Int) × Unit) : Option (odens [(.normal, [(0, (.c false (.v false (.rs 52 (.pair (.int .i64) (.pair (.int .i64) (.int .i64))))))), (3, (.c false (.v true .bool))), (4, (.c false (.v true .bool))), (5, (.c false (.v true (.int .i64))))])]) :=
    cond (x15.fst.fst == (7 : Int))
    (some (Sum.inl (x11, x12, Bool.true, x14, ())))
    (cond (x15.fst.fst == (8 : Int))
     (some (Sum.inl (x11, x12, Bool.false, x14, ())))
     (some (Sum.inl (x11, x12, x13, x14, ()))))
def J81_11 (n : Nat) (x6 : List (Int × Int × Int)) (x7 : Bool) (x8 : Bool) (x9 : Int) (x10 : (Int × Int × Int) × Unit) : Option (odens [(.normal, [(0, (.c false (.v false (.rs 52 (.pair (.int .i64) (.pair (.int .i64) (.int .i64))))))), (3, (.c false (.v true .bool))), (4, (.c false (.v true .bool))), (5, (.c false (.v true (.int .i64))))])]) :=
    cond (x7)
    (match J81_12 n (x6) (Bool.true) (x8) (x9) (((x10.fst.fst, x10.fst.snd.fst, x10.fst.snd.snd), ())) with
     | none => none
     | some (Sum.inl v16) =>
      some (Sum.inl (v16.fst, v16.snd.fst, v16.snd.snd.fst, v16.snd.snd.snd.fst, ())))
    ((F82 n ((x10.fst.fst, x10.fst.snd.fst, x10.fst.snd.snd))).bind fun y17 =>
     match J81_12 n (x6) (y17.fst) (x8) (x9) (((x10.fst.fst, x10.fst.snd.fst, x10.fst.snd.snd), ())) with
     | none => none
     | some (Sum.inl v18) =>
      some (Sum.inl (v18.fst, v18.snd.fst, v18.snd.snd.fst, v18.snd.snd.snd.fst, ())))
def J81_7 (n : Nat) (x20 : List (Int × Int × Int)) (x21 : Bool) (x22 : Bool) (x23 : Int) : Option (odens [(.normal, [(0, (.c false (.v false (.rs 52 (.pair (.int .i64) (.pair (.int .i64) (.int .i64))))))), (3, (.c false (.v true .bool))), (4, (.c false (.v true .bool))), (5, (.c false (.v true (.int .i64))))])]) :=
    some (Sum.inl (x20, x21, x22, Go.IntKind.i64.wrap (x23 + (1 : Int)), ()))
def L81_0 (n : Nat) : Nat → List (Int × Int × Int) → Bool → Bool → Int → Option (odens [(.ret, [(2, (.c false (.v true .bool)))]), ((.exit 0), [(4, (.c false (.v true .bool)))])])
  | 0, _, _, _, _ => none
  | m + 1, x1, x2, x3, x4 =>
    cond (Decidable.decide (x4 < (↑x1.length : Int)))
    (if (0 : Int) ≤ x4 then
     if x4 < (↑x1.length : Int) then
     (F117 n (((x1.getD x4.toNat ((0 : Int), (0 : Int), (0 : Int))).fst, (x1.getD x4.toNat ((0 : Int), (0 : Int), (0 : Int))).snd.fst, (x1.getD x4.toNat ((0 : Int), (0 : Int), (0 : Int))).snd.snd))).bind fun y5 =>
     cond (!y5.fst)
     (some (Sum.inl (Bool.false, ())))
     (cond ((x1.getD x4.toNat ((0 : Int), (0 : Int), (0 : Int))).fst == (3 : Int))
      (cond (!x2)
       (some (Sum.inl (Bool.false, ())))
       (cond ((x1.getD x4.toNat ((0 : Int), (0 : Int), (0 : Int))).fst == (7 : Int))
        (cond (x3)
         (some (Sum.inl (Bool.false, ())))
         (cond ((x1.getD x4.toNat ((0 : Int), (0 : Int), (0 : Int))).fst == (8 : Int))
          (cond (!x3)
           (some (Sum.inl (Bool.false, ())))
           (cond ((x1.getD x4.toNat ((0 : Int), (0 : Int), (0 : Int))).fst == (9 : Int))
            (cond (x3)
             (some (Sum.inl (Bool.false, ())))
             (match J81_11 n (x1) (x2) (x3) (x4) ((((x1.getD x4.toNat ((0 : Int), (0 : Int), (0 : Int))).fst, (x1.getD x4.toNat ((0 : Int), (0 : Int), (0 : Int))).snd.fst, (x1.getD x4.toNat ((0 : Int), (0 : Int), (0 : Int))).snd.snd), ())) with
              | none => none
              | some (Sum.inl v19) =>
               match J81_7 n (v19.fst) (v19.snd.fst) (v19.snd.snd.fst) (v19.snd.snd.snd.fst) with
               | none => none
               | some (Sum.inl v24) =>
                L81_0 n m (v24.fst) (v24.snd.fst) (v24.snd.snd.fst) (v24.snd.snd.snd.fst)))
            (match J81_11 n (x1) (x2) (x3) (x4) ((((x1.getD x4.toNat ((0 : Int), (0 : Int), (0 : Int))).fst, (x1.getD x4.toNat ((0 : Int), (0 : Int), (0 : Int))).snd.fst, (x1.getD x4.toNat ((0 : Int), (0 : Int), (0 : Int))).snd.snd), ())) with
             | none => none
             | some (Sum.inl v25) =>
              match J81_7 n (v25.fst) (v25.snd.fst) (v25.snd.snd.fst) (v25.snd.snd.snd.fst) with
              | none => none
              | some (Sum.inl v26) =>
               L81_0 n m (v26.fst) (v26.snd.fst) (v26.snd.snd.fst) (v26.snd.snd.snd.fst))))
          (cond ((x1.getD x4.toNat ((0 : Int), (0 : Int), (0 : Int))).fst == (9 : Int))
           (cond (x3)
            (some (Sum.inl (Bool.false, ())))
            (match J81_11 n (x1) (x2) (x3) (x4) ((((x1.getD x4.toNat ((0 : Int), (0 : Int), (0 : Int))).fst, (x1.getD x4.toNat ((0 : Int), (0 : Int), (0 : Int))).snd.fst, (x1.getD x4.toNat ((0 : Int), (0 : Int), (0 : Int))).snd.snd), ())) with
             | none => none
             | some (Sum.inl v27) =>
              match J81_7 n (v27.fst) (v27.snd.fst) (v27.snd.snd.fst) (v27.snd.snd.snd.fst) with
              | none => none
              | some (Sum.inl v28) =>
               L81_0 n m (v28.fst) (v28.snd.fst) (v28.snd.snd.fst) (v28.snd.snd.snd.fst)))
           (match J81_11 n (x1) (x2) (x3) (x4) ((((x1.getD x4.toNat ((0 : Int), (0 : Int), (0 : Int))).fst, (x1.getD x4.toNat ((0 : Int), (0 : Int), (0 : Int))).snd.fst, (x1.getD x4.toNat ((0 : Int), (0 : Int), (0 : Int))).snd.snd), ())) with
            | none => none
            | some (Sum.inl v29) =>
             match J81_7 n (v29.fst) (v29.snd.fst) (v29.snd.snd.fst) (v29.snd.snd.snd.fst) with
             | none => none
             | some (Sum.inl v30) =>
              L81_0 n m (v30.fst) (v30.snd.fst) (v30.snd.snd.fst) (v30.snd.snd.snd.fst)))))
        (cond ((x1.getD x4.toNat ((0 : Int), (0 : Int), (0 : Int))).fst == (8 : Int))
         (cond (!x3)
          (some (Sum.inl (Bool.false, ())))
          (cond ((x1.getD x4.toNat ((0 : Int), (0 : Int), (0 : Int))).fst == (9 : Int))
           (cond (x3)
            (some (Sum.inl (Bool.false, ())))
            (match J81_11 n (x1) (x2) (x3) (x4) ((((x1.getD x4.toNat ((0 : Int), (0 : Int), (0 : Int))).fst, (x1.getD x4.toNat ((0 : Int), (0 : Int), (0 : Int))).snd.fst, (x1.getD x4.toNat ((0 : Int), (0 : Int), (0 : Int))).snd.snd), ())) with
             | none => none
             | some (Sum.inl v31) =>
              match J81_7 n (v31.fst) (v31.snd.fst) (v31.snd.snd.fst) (v31.snd.snd.snd.fst) with
              | none => none
              | some (Sum.inl v32) =>
               L81_0 n m (v32.fst) (v32.snd.fst) (v32.snd.snd.fst) (v32.snd.snd.snd.fst)))
           (match J81_11 n (x1) (x2) (x3) (x4) ((((x1.getD x4.toNat ((0 : Int), (0 : Int), (0 : Int))).fst, (x1.getD x4.toNat ((0 : Int), (0 : Int), (0 : Int))).snd.fst, (x1.getD x4.toNat ((0 : Int), (0 : Int), (0 : Int))).snd.snd), ())) with
            | none => none
            | some (Sum.inl v33) =>
             match J81_7 n (v33.fst) (v33.snd.fst) (v33.snd.snd.fst) (v33.snd.snd.snd.fst) with
             | none => none
             | some (Sum.inl v34) =>
              L81_0 n m (v34.fst) (v34.snd.fst) (v34.snd.snd.fst) (v34.snd.snd.snd.fst))))
         (cond ((x1.getD x4.toNat ((0 : Int), (0 : Int), (0 : Int))).fst == (9 : Int))
          (cond (x3)
           (some (Sum.inl (Bool.false, ())))
           (match J81_11 n (x1) (x2) (x3) (x4) ((((x1.getD x4.toNat ((0 : Int), (0 : Int), (0 : Int))).fst, (x1.getD x4.toNat ((0 : Int), (0 : Int), (0 : Int))).snd.fst, (x1.getD x4.toNat ((0 : Int), (0 : Int), (0 : Int))).snd.snd), ())) with
            | none => none
            | some (Sum.inl v35) =>
             match J81_7 n (v35.fst) (v35.snd.fst) (v35.snd.snd.fst) (v35.snd.snd.snd.fst) with
             | none => none
             | some (Sum.inl v36) =>
              L81_0 n m (v36.fst) (v36.snd.fst) (v36.snd.snd.fst) (v36.snd.snd.snd.fst)))
          (match J81_11 n (x1) (x2) (x3) (x4) ((((x1.getD x4.toNat ((0 : Int), (0 : Int), (0 : Int))).fst, (x1.getD x4.toNat ((0 : Int), (0 : Int), (0 : Int))).snd.fst, (x1.getD x4.toNat ((0 : Int), (0 : Int), (0 : Int))).snd.snd), ())) with
           | none => none
           | some (Sum.inl v37) =>
            match J81_7 n (v37.fst) (v37.snd.fst) (v37.snd.snd.fst) (v37.snd.snd.snd.fst) with
            | none => none
            | some (Sum.inl v38) =>
             L81_0 n m (v38.fst) (v38.snd.fst) (v38.snd.snd.fst) (v38.snd.snd.snd.fst))))))
      (cond ((x1.getD x4.toNat ((0 : Int), (0 : Int), (0 : Int))).fst == (7 : Int))
       (cond (x3)
        (some (Sum.inl (Bool.false, ())))
        (cond ((x1.getD x4.toNat ((0 : Int), (0 : Int), (0 : Int))).fst == (8 : Int))
         (cond (!x3)
          (some (Sum.inl (Bool.false, ())))
          (cond ((x1.getD x4.toNat ((0 : Int), (0 : Int), (0 : Int))).fst == (9 : Int))
           (cond (x3)
            (some (Sum.inl (Bool.false, ())))
            (match J81_11 n (x1) (x2) (x3) (x4) ((((x1.getD x4.toNat ((0 : Int), (0 : Int), (0 : Int))).fst, (x1.getD x4.toNat ((0 : Int), (0 : Int), (0 : Int))).snd.fst, (x1.getD x4.toNat ((0 : Int), (0 : Int), (0 : Int))).snd.snd), ())) with
             | none => none
             | some (Sum.inl v39) =>
              match J81_7 n (v39.fst) (v39.snd.fst) (v39.snd.snd.fst) (v39.snd.snd.snd.fst) with
              | none => none
              | some (Sum.inl v40) =>
               L81_0 n m (v40.fst) (v40.snd.fst) (v40.snd.snd.fst) (v40.snd.snd.snd.fst)))
           (match J81_11 n (x1) (x2) (x3) (x4) ((((x1.getD x4.toNat ((0 : Int), (0 : Int), (0 : Int))).fst, (x1.getD x4.toNat ((0 : Int), (0 : Int), (0 : Int))).snd.fst, (x1.getD x4.toNat ((0 : Int), (0 : Int), (0 : Int))).snd.snd), ())) with
            | none => none
            | some (Sum.inl v41) =>
             match J81_7 n (v41.fst) (v41.snd.fst) (v41.snd.snd.fst) (v41.snd.snd.snd.fst) with
             | none => none
             | some (Sum.inl v42) =>
              L81_0 n m (v42.fst) (v42.snd.fst) (v42.snd.snd.fst) (v42.snd.snd.snd.fst))))
         (cond ((x1.getD x4.toNat ((0 : Int), (0 : Int), (0 : Int))).fst == (9 : Int))
          (cond (x3)
           (some (Sum.inl (Bool.false, ())))
           (match J81_11 n (x1) (x2) (x3) (x4) ((((x1.getD x4.toNat ((0 : Int), (0 : Int), (0 : Int))).fst, (x1.getD x4.toNat ((0 : Int), (0 : Int), (0 : Int))).snd.fst, (x1.getD x4.toNat ((0 : Int), (0 : Int), (0 : Int))).snd.snd), ())) with
            | none => none
            | some (Sum.inl v43) =>
             match J81_7 n (v43.fst) (v43.snd.fst) (v43.snd.snd.fst) (v43.snd.snd.snd.fst) with
             | none => none
             | some (Sum.inl v44) =>
              L81_0 n m (v44.fst) (v44.snd.fst) (v44.snd.snd.fst) (v44.snd.snd.snd.fst)))
          (match J81_11 n (x1) (x2) (x3) (x4) ((((x1.getD x4.toNat ((0 : Int), (0 : Int), (0 : Int))).fst, (x1.getD x4.toNat ((0 : Int), (0 : Int), (0 : Int))).snd.fst, (x1.getD x4.toNat ((0 : Int), (0 : Int), (0 : Int))).snd.snd), ())) with
           | none => none
           | some (Sum.inl v45) =>
            match J81_7 n (v45.fst) (v45.snd.fst) (v45.snd.snd.fst) (v45.snd.snd.snd.fst) with
            | none => none
            | some (Sum.inl v46) =>
             L81_0 n m (v46.fst) (v46.snd.fst) (v46.snd.snd.fst) (v46.snd.snd.snd.fst)))))
       (cond ((x1.getD x4.toNat ((0 : Int), (0 : Int), (0 : Int))).fst == (8 : Int))
        (cond (!x3)
         (some (Sum.inl (Bool.false, ())))
         (cond ((x1.getD x4.toNat ((0 : Int), (0 : Int), (0 : Int))).fst == (9 : Int))
          (cond (x3)
           (some (Sum.inl (Bool.false, ())))
           (match J81_11 n (x1) (x2) (x3) (x4) ((((x1.getD x4.toNat ((0 : Int), (0 : Int), (0 : Int))).fst, (x1.getD x4.toNat ((0 : Int), (0 : Int), (0 : Int))).snd.fst, (x1.getD x4.toNat ((0 : Int), (0 : Int), (0 : Int))).snd.snd), ())) with
            | none => none
            | some (Sum.inl v47) =>
             match J81_7 n (v47.fst) (v47.snd.fst) (v47.snd.snd.fst) (v47.snd.snd.snd.fst) with
             | none => none
             | some (Sum.inl v48) =>
              L81_0 n m (v48.fst) (v48.snd.fst) (v48.snd.snd.fst) (v48.snd.snd.snd.fst)))
          (match J81_11 n (x1) (x2) (x3) (x4) ((((x1.getD x4.toNat ((0 : Int), (0 : Int), (0 : Int))).fst, (x1.getD x4.toNat ((0 : Int), (0 : Int), (0 : Int))).snd.fst, (x1.getD x4.toNat ((0 : Int), (0 : Int), (0 : Int))).snd.snd), ())) with
           | none => none
           | some (Sum.inl v49) =>
            match J81_7 n (v49.fst) (v49.snd.fst) (v49.snd.snd.fst) (v49.snd.snd.snd.fst) with
            | none => none
            | some (Sum.inl v50) =>
             L81_0 n m (v50.fst) (v50.snd.fst) (v50.snd.snd.fst) (v50.snd.snd.snd.fst))))
        (cond ((x1.getD x4.toNat ((0 : Int), (0 : Int), (0 : Int))).fst == (9 : Int))
         (cond (x3)
          (some (Sum.inl (Bool.false, ())))
          (match J81_11 n (x1) (x2) (x3) (x4) ((((x1.getD x4.toNat ((0 : Int), (0 : Int), (0 : Int))).fst, (x1.getD x4.toNat ((0 : Int), (0 : Int), (0 : Int))).snd.fst, (x1.getD x4.toNat ((0 : Int), (0 : Int), (0 : Int))).snd.snd), ())) with
           | none => none
           | some (Sum.inl v51) =>
            match J81_7 n (v51.fst) (v51.snd.fst) (v51.snd.snd.fst) (v51.snd.snd.snd.fst) with
            | none => none
            | some (Sum.inl v52) =>
             L81_0 n m (v52.fst) (v52.snd.fst) (v52.snd.snd.fst) (v52.snd.snd.snd.fst)))
         (match J81_11 n (x1) (x2) (x3) (x4) ((((x1.getD x4.toNat ((0 : Int), (0 : Int), (0 : Int))).fst, (x1.getD x4.toNat ((0 : Int), (0 : Int), (0 : Int))).snd.fst, (x1.getD x4.toNat ((0 : Int), (0 : Int), (0 : Int))).snd.snd), ())) with
          | none => none
          | some (Sum.inl v53) =>
           match J81_7 n (v53.fst) (v53.snd.fst) (v53.snd.snd.fst) (v53.snd.snd.snd.fst) with
           | none => none
           | some (Sum.inl v54) =>
            L81_0 n m (v54.fst) (v54.snd.fst) (v54.snd.snd.fst) (v54.snd.snd.snd.fst))))))
     else none
     else none)
    (some (Sum.inr (Sum.inl (x3, ()))))
def F81 (n : Nat) (a0 : List (Int × Int × Int)) : Option (rdens [.c false (.v false (.rs 52 (.pair (.int .i64) (.pair (.int .i64) (.int .i64)))))] [.c false (.v true .bool)]) :=
  cond (Decidable.decide ((↑a0.length : Int) > (7 : Int)))
  (some (Bool.false, ()))
  (match L81_0 n n (a0) (Bool.false) (Bool.false) ((0 : Int)) with
   | none => none
   | some (Sum.inl v55) =>
    some (v55.fst, ())
   | some (Sum.inr (Sum.inl v56)) =>
    some (!v56.fst, ()))
noncomputable def con81 (n : Nat) : Con := conOf [.c false (.v false (.rs 52 (.pair (.int .i64) (.pair (.int .i64) (.int .i64)))))] [.c false (.v true .bool)] fun x => F81 n x.1
noncomputable def tb81 (n : Nat) : Tb := ⟨tiOf Try.prog, conL [(117, con117 n), (82, con82 n)], n, [], 70, lpL [(0, ⟨[(0, (.c false (.v false (.rs 52 (.pair (.int .i64) (.pair (.int .i64) (.int .i64))))))), (3, (.c false (.v true .bool))), (4, (.c false (.v true .bool))), (5, (.c false (.v true (.int .i64))))], [(.ret, [(2, (.c false (.v true .bool)))]), ((.exit 0), [(4, (.c false (.v true .bool)))])], fun m v => L81_0 n m v.1 v.2.1 v.2.2.1 v.2.2.2.1⟩)], ctL [(12, ⟨[(0, (.c false (.v false (.rs 52 (.pair (.int .i64) (.pair (.int .i64) (.int .i64))))))), (3, (.c false (.v true .bool))), (4, (.c false (.v true .bool))), (5, (.c false (.v true (.int .i64)))), (6, (.b 52 [(.v true (.pair (.int .i64) (.pair (.int .i64) (.int .i64))))]))], [(.normal, [(0, (.c false (.v false (.rs 52 (.pair (.int .i64) (.pair (.int .i64) (.int .i64))))))), (3, (.c false (.v true .bool))), (4, (.c false (.v true .bool))), (5, (.c false (.v true (.int .i64))))])], fun v => J81_12 n v.1 v.2.1 v.2.2.1 v.2.2.2.1 v.2.2.2.2.1⟩), (11, ⟨[(0, (.c false (.v false (.rs 52 (.pair (.int .i64) (.pair (.int .i64) (.int .i64))))))), (3, (.c false (.v true .bool))), (4, (.c false (.v true .bool))), (5, (.c false (.v true (.int .i64)))), (6, (.b 52 [(.v true (.pair (.int .i64) (.pair (.int .i64) (.int .i64))))]))], [(.normal, [(0, (.c false (.v false (.rs 52 (.pair (.int .i64) (.pair (.int .i64) (.int .i64))))))), (3, (.c false (.v true .bool))), (4, (.c false (.v true .bool))), (5, (.c false (.v true (.int .i64))))])], fun v => J81_11 n v.1 v.2.1 v.2.2.1 v.2.2.2.1 v.2.2.2.2.1⟩), (7, ⟨[(0, (.c false (.v false (.rs 52 (.pair (.int .i64) (.pair (.int .i64) (.int .i64))))))), (3, (.c false (.v true .bool))), (4, (.c false (.v true .bool))), (5, (.c false (.v true (.int .i64))))], [(.normal, [(0, (.c false (.v false (.rs 52 (.pair (.int .i64) (.pair (.int .i64) (.int .i64))))))), (3, (.c false (.v true .bool))), (4, (.c false (.v true .bool))), (5, (.c false (.v true (.int .i64))))])], fun v => J81_7 n v.1 v.2.1 v.2.2.1 v.2.2.2.1⟩)], [], true⟩
noncomputable def code81 : Code := Try.f81.body.getD .skip
theorem tb81_ok (n : Nat) : (tb81 n).ok Try.prog := tbOk mixed (⟨con117_ok n, ⟨con82_ok n, trivial⟩⟩)
theorem lp81_0 (n : Nat) : LpAt (tb81 n) (loopBody code81 0) 0 := lpAt rfl (fun _ => by kernel_rfl) (fun _ _ => by kernel_rfl)
theorem blocks81 : blocks code81 = [(0, .loop (loopBody code81 0)), (1, blockBody code81 1), (2, blockBody code81 2)] := by kernel_rfl
theorem ct81_7 (n : Nat) : CtOk (tb81 n) (sec code81 10).2 ⟨[(0, (.c false (.v false (.rs 52 (.pair (.int .i64) (.pair (.int .i64) (.int .i64))))))), (3, (.c false (.v true .bool))), (4, (.c false (.v true .bool))), (5, (.c false (.v true (.int .i64))))], [(.normal, [(0, (.c false (.v false (.rs 52 (.pair (.int .i64) (.pair (.int .i64) (.int .i64))))))), (3, (.c false (.v true .bool))), (4, (.c false (.v true .bool))), (5, (.c false (.v true (.int .i64))))])], fun v => J81_7 n v.1 v.2.1 v.2.2.1 v.2.2.2.1⟩ := fun _ => by kernel_rfl
theorem ct81_11 (n : Nat) : CtOk (tb81 n) (sec code81 12).2 ⟨[(0, (.c false (.v false (.rs 52 (.pair (.int .i64) (.pair (.int .i64) (.int .i64))))))), (3, (.c false (.v true .bool))), (4, (.c false (.v true .bool))), (5, (.c false (.v true (.int .i64)))), (6, (.b 52 [(.v true (.pair (.int .i64) (.pair (.int .i64) (.int .i64))))]))], [(.normal, [(0, (.c false (.v false (.rs 52 (.pair (.int .i64) (.pair (.int .i64) (.int .i64))))))), (3, (.c false (.v true .bool))), (4, (.c false (.v true .bool))), (5, (.c false (.v true (.int .i64))))])], fun v => J81_11 n v.1 v.2.1 v.2.2.1 v.2.2.2.1 v.2.2.2.2.1⟩ := fun _ => by kernel_rfl
theorem ct81_12 (n : Nat) : CtOk (tb81 n) (sec code81 15).2 ⟨[(0, (.c false (.v false (.rs 52 (.pair (.int .i64) (.pair (.int .i64) (.int .i64))))))), (3, (.c false (.v true .bool))), (4, (.c false (.v true .bool))), (5, (.c false (.v true (.int .i64)))), (6, (.b 52 [(.v true (.pair (.int .i64) (.pair (.int .i64) (.int .i64))))]))], [(.normal, [(0, (.c false (.v false (.rs 52 (.pair (.int .i64) (.pair (.int .i64) (.int .i64))))))), (3, (.c false (.v true .bool))), (4, (.c false (.v true .bool))), (5, (.c false (.v true (.int .i64))))])], fun v => J81_12 n v.1 v.2.1 v.2.2.1 v.2.2.2.1 v.2.2.2.2.1⟩ := fun _ => by kernel_rfl
theorem secs81 : seconds code81 = [(some 1, (sec code81 0).2), (some 3, (sec code81 1).2), (none, (sec code81 2).2), (none, (sec code81 3).2), (some 4, (sec code81 4).2), (some 5, (sec code81 5).2), (some 17, (sec code81 6).2), (some 6, (sec code81 7).2), (some 8, (sec code81 8).2), (none, (sec code81 9).2), (some 7, (sec code81 10).2), (some 9, (sec code81 11).2), (some 11, (sec code81 12).2), (none, (sec code81 13).2), (none, (sec code81 14).2), (some 12, (sec code81 15).2), (some 13, (sec code81 16).2), (none, (sec code81 17).2), (none, (sec code81 18).2), (none, (sec code81 19).2)] := by kernel_rfl
theorem la81 (n : Nat) : LpAll (tb81 n) code81 := lpAll blocks81 (bl_loop (lp81_0 n) (bl_none rfl (bl_none rfl (bl_nil)))) secs81 (cs_none rfl (cs_none rfl (cs_none rfl (cs_none rfl (cs_none rfl (cs_none rfl (cs_none rfl (cs_none rfl (cs_none rfl (cs_none rfl (cs_one rfl (ct81_7 n) (cs_none rfl (cs_one rfl (ct81_11 n) (cs_none rfl (cs_none rfl (cs_one rfl (ct81_12 n) (cs_none rfl (cs_none rfl (cs_none rfl (cs_none rfl (cs_nil))))))))))))))))))))) (by kernel_rfl)
theorem ev81 (n : Nat) (x : pdens [.c false (.v false (.rs 52 (.pair (.int .i64) (.pair (.int .i64) (.int .i64)))))]) : evSig (tb81 n) Try.f81 [.c false (.v false (.rs 52 (.pair (.int .i64) (.pair (.int .i64) (.int .i64)))))] [.c false (.v true .bool)] x = F81 n x.1 := by kernel_rfl
theorem con81_ok (n : Nat) : Con.ok Try.prog 81 (con81 n) := conOf_ok (tb81_ok n) (body_la (by kernel_rfl : Try.f81.body = some code81) (la81 n)) Try.func81 (enters Try.func81 (by kernel_rfl) (by kernel_rfl)) rfl rfl (ev81 n)
/-! ### loop.example/fathomline/spec.ProgOk -/
def J35_13 (n : Nat) (x12 : List (List (Int × Int × Int)) × Unit) (x13 : Int) (x14 : Int) (x15 : Int) (x16 : Int) : Option (odens [(.normal, [(1, (.b 44 [(.v false (.rs 50 (.rs 52 (.pair (.int .i64) (.pair (.int .i64) (.int .i64))))))])), (3, (.c false (.v true (.int .i64)))), (4, (.c false (.v true (.int .i64)))), (5, (.c false (.v true (.int .i64)))), (6, (.c false (.v true (.int .i64))))])]) :=
    some (Sum.inl ((x12.fst, ()), x13, x14, x15, Go.IntKind.i64.wrap (x16 + (1 : Int)), ()))
def L35_2 (n : Nat) : Nat → List (List (Int × Int × Int)) × Unit → Int → Int → Int → Int → Option (odens [((.exit 2), [(1, (.b 44 [(.v false (.rs 50 (.rs 52 (.pair (.int .i64) (.pair (.int .i64) (.int .i64))))))])), (3, (.c false (.v true (.int .i64)))), (4, (.c false (.v true (.int .i64)))), (5, (.c false (.v true (.int .i64))))])])
  | 0, _, _, _, _, _ => none
  | m + 1, x6, x7, x8, x9, x10 =>
    if (0 : Int) ≤ x9 then
    if x9 < (↑(List.length x6.fst) : Int) then
    cond (Decidable.decide (x10 < (↑(List.length (List.getD x6.fst x9.toNat [])) : Int)))
    (if (0 : Int) ≤ x9 then
     if x9 < (↑(List.length x6.fst) : Int) then
     if (0 : Int) ≤ x10 then
     if x10 < (↑(List.length (List.getD x6.fst x9.toNat [])) : Int) then
     (F82 n (((List.getD (List.getD x6.fst x9.toNat []) x10.toNat ((0 : Int), (0 : Int), (0 : Int))).fst, (List.getD (List.getD x6.fst x9.toNat []) x10.toNat ((0 : Int), (0 : Int), (0 : Int))).snd.fst, (List.getD (List.getD x6.fst x9.toNat []) x10.toNat ((0 : Int), (0 : Int), (0 : Int))).snd.snd))).bind fun y11 =>
     cond (y11.fst)
     (match J35_13 n ((x6.fst, ())) (x7) (Go.IntKind.i64.wrap (x8 + (1 : Int))) (x9) (x10) with
      | none => none
      | some (Sum.inl v17) =>
       L35_2 n m ((v17.fst.fst, ())) (v17.snd.fst) (v17.snd.snd.fst) (v17.snd.snd.snd.fst) (v17.snd.snd.snd.snd.fst))
     (if (0 : Int) ≤ x9 then
      if x9 < (↑(List.length x6.fst) : Int) then
      if (0 : Int) ≤ x10 then
      if x10 < (↑(List.length (List.getD x6.fst x9.toNat [])) : Int) then
      (F83 n (((List.getD (List.getD x6.fst x9.toNat []) x10.toNat ((0 : Int), (0 : Int), (0 : Int))).fst, (List.getD (List.getD x6.fst x9.toNat []) x10.toNat ((0 : Int), (0 : Int), (0 : Int))).snd.fst, (List.getD (List.getD x6.fst x9.toNat []) x10.toNat ((0 : Int), (0 : Int), (0 : Int))).snd.snd))).bind fun y18 =>
      cond (y18.fst)
      (match J35_13 n ((x6.fst, ())) (x7) (Go.IntKind.i64.wrap (x8 + (1 : Int))) (x9) (x10) with
       | none => none
       | some (Sum.inl v19) =>
        L35_2 n m ((v19.fst.fst, ())) (v19.snd.fst) (v19.snd.snd.fst) (v19.snd.snd.snd.fst) (v19.snd.snd.snd.snd.fst))
      (match J35_13 n ((x6.fst, ())) (x7) (x8) (x9) (x10) with
       | none => none
       | some (Sum.inl v20) =>
        L35_2 n m ((v20.fst.fst, ())) (v20.snd.fst) (v20.snd.snd.fst) (v20.snd.snd.snd.fst) (v20.snd.snd.snd.snd.fst))
      else none
      else none
      else none
      else none)
     else none
     else none
     else none
     else none)
    (some (Sum.inl ((x6.fst, ()), x7, x8, x9, ())))
    else none
    else none
def L35_0 (n : Nat) : Nat → List (List (Int × Int × Int)) × Unit → Int → Int → Int → Option (odens [(.ret, [(2, (.c false (.v true .bool)))]), ((.exit 0), [(3, (.c false (.v true (.int .i64)))), (4, (.c false (.v true (.int .i64))))])])
  | 0, _, _, _, _ => none
  | m + 1, x1, x2, x3, x4 =>
    cond (Decidable.decide (x4 < (↑(List.length x1.fst) : Int)))
    (if (0 : Int) ≤ x4 then
     if x4 < (↑(List.length x1.fst) : Int) then
     (F81 n (List.getD x1.fst x4.toNat [])).bind fun y5 =>
     cond (!y5.fst)
     (some (Sum.inl (Bool.false, ())))
     (if (0 : Int) ≤ x4 then
      if x4 < (↑(List.length x1.fst) : Int) then
      match L35_2 n n ((x1.fst, ())) (Go.IntKind.i64.wrap (x2 + (↑(List.length (List.getD x1.fst x4.toNat [])) : Int))) (x3) (x4) ((0 : Int)) with
      | none => none
      | some (Sum.inl v21) =>
       L35_0 n m ((v21.fst.fst, ())) (v21.snd.fst) (v21.snd.snd.fst) (Go.IntKind.i64.wrap (v21.snd.snd.snd.fst + (1 : Int)))
      else none
      else none)
     else none
     else none)
    (some (Sum.inr (Sum.inl (x2, x3, ()))))
def F35 (n : Nat) (a0 : List (List (Int × Int × Int))) : Option (rdens [.c true (.v false (.rs 50 (.rs 52 (.pair (.int .i64) (.pair (.int .i64) (.int .i64))))))] [.c false (.v true .bool)]) :=
  cond (Decidable.decide ((↑a0.length : Int) > (3 : Int)))
  (some (Bool.false, ()))
  (match L35_0 n n ((a0, ())) ((0 : Int)) ((0 : Int)) ((0 : Int)) with
   | none => none
   | some (Sum.inl v22) =>
    some (v22.fst, ())
   | some (Sum.inr (Sum.inl v23)) =>
    cond (Decidable.decide (v23.fst ≤ (14 : Int)))
    (some (Decidable.decide (v23.snd.fst ≤ (6 : Int)), ()))
    (some (Bool.false, ())))
noncomputable def con35 (n : Nat) : Con := conOf [.c true (.v false (.rs 50 (.rs 52 (.pair (.int .i64) (.pair (.int .i64) (.int .i64))))))] [.c false (.v true .bool)] fun x => F35 n x.1
noncomputable def tb35 (n : Nat) : Tb := ⟨tiOf Try.prog, conL [(81, con81 n), (82, con82 n), (83, con83 n)], n, [], 71, lpL [(2, ⟨[(1, (.b 44 [(.v false (.rs 50 (.rs 52 (.pair (.int .i64) (.pair (.int .i64) (.int .i64))))))])), (3, (.c false (.v true (.int .i64)))), (4, (.c false (.v true (.int .i64)))), (5, (.c false (.v true (.int .i64)))), (6, (.c false (.v true (.int .i64))))], [((.exit 2), [(1, (.b 44 [(.v false (.rs 50 (.rs 52 (.pair (.int .i64) (.pair (.int .i64) (.int .i64))))))])), (3, (.c false (.v true (.int .i64)))), (4, (.c false (.v true (.int .i64)))), (5, (.c false (.v true (.int .i64))))])], fun m v => L35_2 n m v.1 v.2.1 v.2.2.1 v.2.2.2.1 v.2.2.2.2.1⟩), (0, ⟨[(1, (.b 44 [(.v false (.rs 50 (.rs 52 (.pair (.int .i64) (.pair (.int .i64) (.int .i64))))))])), (3, (.c false (.v true (.int .i64)))), (4, (.c false (.v true (.int .i64)))), (5, (.c false (.v true (.int .i64))))], [(.ret, [(2, (.c false (.v true .bool)))]), ((.exit 0), [(3, (.c false (.v true (.int .i64)))), (4, (.c false (.v true (.int .i64))))])], fun m v => L35_0 n m v.1 v.2.1 v.2.2.1 v.2.2.2.1⟩)], ctL [(13, ⟨[(1, (.b 44 [(.v false (.rs 50 (.rs 52 (.pair (.int .i64) (.pair (.int .i64) (.int .i64))))))])), (3, (.c false (.v true (.int .i64)))), (4, (.c false (.v true (.int .i64)))), (5, (.c false (.v true (.int .i64)))), (6, (.c false (.v true (.int .i64))))], [(.normal, [(1, (.b 44 [(.v false (.rs 50 (.rs 52 (.pair (.int .i64) (.pair (.int .i64) (.int .i64))))))])), (3, (.c false (.v true (.int .i64)))), (4, (.c false (.v true (.int .i64)))), (5, (.c false (.v true (.int .i64)))), (6, (.c false (.v true (.int .i64))))])], fun v => J35_13 n v.1 v.2.1 v.2.2.1 v.2.2.2.1 v.2.2.2.2.1⟩)], [], true⟩
noncomputable def code35 : Code := Try.f35.body.getD .skip
theorem tb35_ok (n : Nat) : (tb35 n).ok Try.prog := tbOk mixed (⟨con81_ok n, ⟨con82_ok n, ⟨con83_ok n, trivial⟩⟩⟩)
theorem lp35_2 (n : Nat) : LpAt (tb35 n) (loopBody code35 2) 2 := lpAt rfl (fun _ => by kernel_rfl) (fun _ _ => by kernel_rfl)
theorem lp35_0 (n : Nat) : LpAt (tb35 n) (loopBody code35 0) 0 := lpAt rfl (fun _ => by kernel_rfl) (fun _ _ => by kernel_rfl)
theorem blocks35 : blocks code35 = [(0, .loop (loopBody code35 0)), (1, blockBody code35 1), (2, .loop (loopBody code35 2)), (3, blockBody code35 3)] := by kernel_rfl
theorem ct35_13 (n : Nat) : CtOk (tb35 n) (sec code35 18).2 ⟨[(1, (.b 44 [(.v false (.rs 50 (.rs 52 (.pair (.int .i64) (.pair (.int .i64) (.int .i64))))))])), (3, (.c false (.v true (.int .i64)))), (4, (.c false (.v true (.int .i64)))), (5, (.c false (.v true (.int .i64)))), (6, (.c false (.v true (.int .i64))))], [(.normal, [(1, (.b 44 [(.v false (.rs 50 (.rs 52 (.pair (.int .i64) (.pair (.int .i64) (.int .i64))))))])), (3, (.c false (.v true (.int .i64)))), (4, (.c false (.v true (.int .i64)))), (5, (.c false (.v true (.int .i64)))), (6, (.c false (.v true (.int .i64))))])], fun v => J35_13 n v.1 v.2.1 v.2.2.1 v.2.2.2.1 v.2.2.2.2.1⟩ := fun _ => by kernel_rfl
theorem secs35 : seconds code35 = [(some 1, (sec code35 0).2), (some 3, (sec code35 1).2), (none, (sec code35 2).2), (none, (sec code35 3).2), (some 4, (sec code35 4).2), (some 5, (sec code35 5).2), (some 16, (sec code35 6).2), (some 6, (sec code35 7).2), (some 8, (sec code35 8).2), (none, (sec code35 9).2), (some 7, (sec code35 10).2), (some 10, (sec code35 11).2), (none, (sec code35 12).2), (none, (sec code35 13).2), (some 11, (sec code35 14).2), (some 12, (sec code35 15).2), (some 14, (sec code35 16).2), (none, (sec code35 17).2), (some 13, (sec code35 18).2), (none, (sec code35 19).2), (none, (sec code35 20).2)] := by kernel_rfl
theorem la35 (n : Nat) : LpAll (tb35 n) code35 := lpAll blocks35 (bl_loop (lp35_0 n) (bl_none rfl (bl_loop (lp35_2 n) (bl_none rfl (bl_nil))))) secs35 (cs_none rfl (cs_none rfl (cs_none rfl (cs_none rfl (cs_none rfl (cs_none rfl (cs_none rfl (cs_none rfl (cs_none rfl (cs_none rfl (cs_none rfl (cs_none rfl (cs_none rfl (cs_none rfl (cs_none rfl (cs_none rfl (cs_none rfl (cs_none rfl (cs_one rfl (ct35_13 n) (cs_none rfl (cs_none rfl (cs_nil)))))))))))))))))))))) (by kernel_rfl)
theorem ev35 (n : Nat) (x : pdens [.c true (.v false (.rs 50 (.rs 52 (.pair (.int .i64) (.pair (.int .i64) (.int .i64))))))]) : evSig (tb35 n) Try.f35 [.c true (.v false (.rs 50 (.rs 52 (.pair (.int .i64) (.pair (.int .i64) (.int .i64))))))] [.c false (.v true .bool)] x = F35 n x.1 := by kernel_rfl
theorem con35_ok (n : Nat) : Con.ok Try.prog 35 (con35 n) := conOf_ok (tb35_ok n) (body_la (by kernel_rfl : Try.f35.body = some code35) (la35 n)) Try.func35 (enters Try.func35 (by kernel_rfl) (by kernel_rfl)) rfl rfl (ev35 n)
/-! ### (loop.example/fathomline/impl.Do).reads -/
def F120 (n : Nat) (a0 : Int × Int × Int) : Option (rdens [.c true (.v true (.pair (.int .i64) (.pair (.int .i64) (.int .i64))))] [.c false (.v true .bool)]) :=
  cond (a0.fst == (2 : Int))
  (some (Bool.true, ()))
  (some (a0.fst == (5 : Int), ()))
noncomputable def con120 (n : Nat) : Con := conOf [.c true (.v true (.pair (.int .i64) (.pair (.int .i64) (.int .i64))))] [.c false (.v true .bool)] fun x => F120 n x.1
noncomputable def tb120 (n : Nat) : Tb := ⟨tiOf Try.prog, conL [], n, [], 11, lpL [], ctL [], [], true⟩
noncomputable def code120 : Code := Try.f120.body.getD .skip
theorem tb120_ok (n : Nat) : (tb120 n).ok Try.prog := tbOk mixed (trivial)
theorem blocks120 : blocks code120 = [] := by kernel_rfl
theorem la120 (n : Nat) : LpAll (tb120 n) code120 := lpAll blocks120 (bl_nil) rfl (cs_no fun _ => rfl) (by kernel_rfl)
theorem ev120 (n : Nat) (x : pdens [.c true (.v true (.pair (.int .i64) (.pair (.int .i64) (.int .i64))))]) : evSig (tb120 n) Try.f120 [.c true (.v true (.pair (.int .i64) (.pair (.int .i64) (.int .i64))))] [.c false (.v true .bool)] x = F120 n x.1 := by kernel_rfl
theorem con120_ok (n : Nat) : Con.ok Try.prog 120 (con120 n) := conOf_ok (tb120_ok n) (body_la (by kernel_rfl : Try.f120.body = some code120) (la120 n)) Try.func120 (enters Try.func120 (by kernel_rfl) (by kernel_rfl)) rfl rfl (ev120 n)
/-! ### (loop.example/fathomline/impl.Do).writes -/
def F121 (n : Nat) (a0 : Int × Int × Int) : Option (rdens [.c true (.v true (.pair (.int .i64) (.pair (.int .i64) (.int .i64))))] [.c false (.v true .bool)]) :=
  cond (a0.fst == (1 : Int))
  (some (Bool.true, ()))
  (cond (a0.fst == (3 : Int))
   (some (Bool.true, ()))
   (some (a0.fst == (6 : Int), ())))
noncomputable def con121 (n : Nat) : Con := conOf [.c true (.v true (.pair (.int .i64) (.pair (.int .i64) (.int .i64))))] [.c false (.v true .bool)] fun x => F121 n x.1
noncomputable def tb121 (n : Nat) : Tb := ⟨tiOf Try.prog, conL [], n, [], 16, lpL [], ctL [], [], true⟩
noncomputable def code121 : Code := Try.f121.body.getD .skip
theorem tb121_ok (n : Nat) : (tb121 n).ok Try.prog := tbOk mixed (trivial)
theorem blocks121 : blocks code121 = [] := by kernel_rfl
theorem la121 (n : Nat) : LpAll (tb121 n) code121 := lpAll blocks121 (bl_nil) rfl (cs_no fun _ => rfl) (by kernel_rfl)
theorem ev121 (n : Nat) (x : pdens [.c true (.v true (.pair (.int .i64) (.pair (.int .i64) (.int .i64))))]) : evSig (tb121 n) Try.f121 [.c true (.v true (.pair (.int .i64) (.pair (.int .i64) (.int .i64))))] [.c false (.v true .bool)] x = F121 n x.1 := by kernel_rfl
theorem con121_ok (n : Nat) : Con.ok Try.prog 121 (con121 n) := conOf_ok (tb121_ok n) (body_la (by kernel_rfl : Try.f121.body = some code121) (la121 n)) Try.func121 (enters Try.func121 (by kernel_rfl) (by kernel_rfl)) rfl rfl (ev121 n)
/-! ### (loop.example/fathomline/impl.Do).uses -/
def F86 (n : Nat) (a0 : Int × Int × Int) : Option (rdens [.c true (.v true (.pair (.int .i64) (.pair (.int .i64) (.int .i64))))] [.c false (.v true .bool)]) :=
  (F120 n ((a0.fst, a0.snd.fst, a0.snd.snd))).bind fun y1 =>
  cond (y1.fst)
  (some (Bool.true, ()))
  ((F121 n ((a0.fst, a0.snd.fst, a0.snd.snd))).bind fun y2 =>
   some (y2.fst, ()))
noncomputable def con86 (n : Nat) : Con := conOf [.c true (.v true (.pair (.int .i64) (.pair (.int .i64) (.int .i64))))] [.c false (.v true .bool)] fun x => F86 n x.1
noncomputable def tb86 (n : Nat) : Tb := ⟨tiOf Try.prog, conL [(120, con120 n), (121, con121 n)], n, [], 9, lpL [], ctL [], [], true⟩
noncomputable def code86 : Code := Try.f86.body.getD .skip
theorem tb86_ok (n : Nat) : (tb86 n).ok Try.prog := tbOk mixed (⟨con120_ok n, ⟨con121_ok n, trivial⟩⟩)
theorem blocks86 : blocks code86 = [] := by kernel_rfl
theorem la86 (n : Nat) : LpAll (tb86 n) code86 := lpAll blocks86 (bl_nil) rfl (cs_no fun _ => rfl) (by kernel_rfl)
theorem ev86 (n : Nat) (x : pdens [.c true (.v true (.pair (.int .i64) (.pair (.int .i64) (.int .i64))))]) : evSig (tb86 n) Try.f86 [.c true (.v true (.pair (.int .i64) (.pair (.int .i64) (.int .i64))))] [.c false (.v true .bool)] x = F86 n x.1 := by kernel_rfl
theorem con86_ok (n : Nat) : Con.ok Try.prog 86 (con86 n) := conOf_ok (tb86_ok n) (body_la (by kernel_rfl : Try.f86.body = some code86) (la86 n)) Try.func86 (enters Try.func86 (by kernel_rfl) (by kernel_rfl)) rfl rfl (ev86 n)
/-! ### loop.example/fathomline/impl.in -/
def F102 (n : Nat) (a0 : Int) (a1 : Int) (a2 : Int) : Option (rdens [.c false (.v true (.int .i64)), .c false (.v true (.int .i64)), .c false (.v true (.int .i64))] [.c false (.v true .bool)]) :=
  cond (Decidable.decide (a0 ≥ a1))
  (some (Decidable.decide (a0 ≤ a2), ()))
  (some (Bool.false, ()))
noncomputable def con102 (n : Nat) : Con := conOf [.c false (.v true (.int .i64)), .c false (.v true (.int .i64)), .c false (.v true (.int .i64))] [.c false (.v true .bool)] fun x => F102 n x.1 x.2.1 x.2.2.1
noncomputable def tb102 (n : Nat) : Tb := ⟨tiOf Try.prog, conL [], n, [], 15, lpL [], ctL [], [], true⟩
noncomputable def code102 : Code := Try.f102.body.getD .skip
theorem tb102_ok (n : Nat) : (tb102 n).ok Try.prog := tbOk mixed (trivial)
theorem blocks102 : blocks code102 = [] := by kernel_rfl
theorem la102 (n : Nat) : LpAll (tb102 n) code102 := lpAll blocks102 (bl_nil) rfl (cs_no fun _ => rfl) (by kernel_rfl)
theorem ev102 (n : Nat) (x : pdens [.c false (.v true (.int .i64)), .c false (.v true (.int .i64)), .c false (.v true (.int .i64))]) : evSig (tb102 n) Try.f102 [.c false (.v true (.int .i64)), .c false (.v true (.int .i64)), .c false (.v true (.int .i64))] [.c false (.v true .bool)] x = F102 n x.1 x.2.1 x.2.2.1 := by kernel_rfl
theorem con102_ok (n : Nat) : Con.ok Try.prog 102 (con102 n) := conOf_ok (tb102_ok n) (body_la (by kernel_rfl : Try.f102.body = some code102) (la102 n)) Try.func102 (enters Try.func102 (by kernel_rfl) (by kernel_rfl)) rfl rfl (ev102 n)
/-! ### (loop.example/fathomline/impl.Do).valued -/
def F139 (n : Nat) (a0 : Int × Int × Int) : Option (rdens [.c true (.v true (.pair (.int .i64) (.pair (.int .i64) (.int .i64))))] [.c false (.v true .bool)]) :=
  cond (a0.fst == (1 : Int))
  (some (Bool.true, ()))
  (some (a0.fst == (6 : Int), ()))
noncomputable def con139 (n : Nat) : Con := conOf [.c true (.v true (.pair (.int .i64) (.pair (.int .i64) (.int .i64))))] [.c false (.v true .bool)] fun x => F139 n x.1
noncomputable def tb139 (n : Nat) : Tb := ⟨tiOf Try.prog, conL [], n, [], 11, lpL [], ctL [], [], true⟩
noncomputable def code139 : Code := Try.f139.body.getD .skip
theorem tb139_ok (n : Nat) : (tb139 n).ok Try.prog := tbOk mixed (trivial)
theorem blocks139 : blocks code139 = [] := by kernel_rfl
theorem la139 (n : Nat) : LpAll (tb139 n) code139 := lpAll blocks139 (bl_nil) rfl (cs_no fun _ => rfl) (by kernel_rfl)
theorem ev139 (n : Nat) (x : pdens [.c true (.v true (.pair (.int .i64) (.pair (.int .i64) (.int .i64))))]) : evSig (tb139 n) Try.f139 [.c true (.v true (.pair (.int .i64) (.pair (.int .i64) (.int .i64))))] [.c false (.v true .bool)] x = F139 n x.1 := by kernel_rfl
theorem con139_ok (n : Nat) : Con.ok Try.prog 139 (con139 n) := conOf_ok (tb139_ok n) (body_la (by kernel_rfl : Try.f139.body = some code139) (la139 n)) Try.func139 (enters Try.func139 (by kernel_rfl) (by kernel_rfl)) rfl rfl (ev139 n)
/-! ### (loop.example/fathomline/impl.Do).formed -/
def J119_5 (n : Nat) (x5 : (Int × Int × Int) × Unit) (x6 : Bool) (x7 : Bool) : Option (odens [(.ret, [(2, (.c false (.v true .bool)))])]) :=
    (F102 n (x5.fst.fst) ((1 : Int)) ((9 : Int))).bind fun y8 =>
    cond (y8.fst)
    (cond (x6)
     (some (Sum.inl (x7, ())))
     (some (Sum.inl (Bool.false, ()))))
    (some (Sum.inl (Bool.false, ())))
def J119_2 (n : Nat) (x1 : (Int × Int × Int) × Unit) (x2 : Bool) : Option (odens [(.ret, [(2, (.c false (.v true .bool)))])]) :=
    (F139 n ((x1.fst.fst, x1.fst.snd.fst, x1.fst.snd.snd))).bind fun y3 =>
    cond (y3.fst)
    ((F102 n (x1.fst.snd.snd) ((1 : Int)) ((3 : Int))).bind fun y4 =>
     match J119_5 n (((x1.fst.fst, x1.fst.snd.fst, x1.fst.snd.snd), ())) (x2) (y4.fst) with
     | none => none
     | some (Sum.inl v9) =>
      some (Sum.inl (v9.fst, ())))
    (match J119_5 n (((x1.fst.fst, x1.fst.snd.fst, x1.fst.snd.snd), ())) (x2) (x1.fst.snd.snd == (0 : Int)) with
     | none => none
     | some (Sum.inl v10) =>
      some (Sum.inl (v10.fst, ())))
def F119 (n : Nat) (a0 : Int × Int × Int) : Option (rdens [.c true (.v true (.pair (.int .i64) (.pair (.int .i64) (.int .i64))))] [.c false (.v true .bool)]) :=
  cond (a0.snd.fst == (0 : Int))
  (match J119_2 n (((a0.fst, a0.snd.fst, a0.snd.snd), ())) (Bool.true) with
   | none => none
   | some (Sum.inl v11) =>
    some (v11.fst, ()))
  ((F86 n ((a0.fst, a0.snd.fst, a0.snd.snd))).bind fun y12 =>
   cond (y12.fst)
   ((F102 n (a0.snd.fst) ((0 : Int)) ((2 : Int))).bind fun y13 =>
    match J119_2 n (((a0.fst, a0.snd.fst, a0.snd.snd), ())) (y13.fst) with
    | none => none
    | some (Sum.inl v14) =>
     some (v14.fst, ()))
   (match J119_2 n (((a0.fst, a0.snd.fst, a0.snd.snd), ())) (Bool.false) with
    | none => none
    | some (Sum.inl v15) =>
     some (v15.fst, ())))
noncomputable def con119 (n : Nat) : Con := conOf [.c true (.v true (.pair (.int .i64) (.pair (.int .i64) (.int .i64))))] [.c false (.v true .bool)] fun x => F119 n x.1
noncomputable def tb119 (n : Nat) : Tb := ⟨tiOf Try.prog, conL [(86, con86 n), (102, con102 n), (139, con139 n)], n, [], 34, lpL [], ctL [(5, ⟨[(1, (.b 52 [(.v true (.pair (.int .i64) (.pair (.int .i64) (.int .i64))))])), (3, (.c false (.v true .bool))), (4, (.c false (.v true .bool)))], [(.ret, [(2, (.c false (.v true .bool)))])], fun v => J119_5 n v.1 v.2.1 v.2.2.1⟩), (2, ⟨[(1, (.b 52 [(.v true (.pair (.int .i64) (.pair (.int .i64) (.int .i64))))])), (3, (.c false (.v true .bool)))], [(.ret, [(2, (.c false (.v true .bool)))])], fun v => J119_2 n v.1 v.2.1⟩)], [], true⟩
noncomputable def code119 : Code := Try.f119.body.getD .skip
theorem tb119_ok (n : Nat) : (tb119 n).ok Try.prog := tbOk mixed (⟨con86_ok n, ⟨con102_ok n, ⟨con139_ok n, trivial⟩⟩⟩)
theorem blocks119 : blocks code119 = [] := by kernel_rfl
theorem ct119_2 (n : Nat) : CtOk (tb119 n) (sec code119 1).2 ⟨[(1, (.b 52 [(.v true (.pair (.int .i64) (.pair (.int .i64) (.int .i64))))])), (3, (.c false (.v true .bool)))], [(.ret, [(2, (.c false (.v true .bool)))])], fun v => J119_2 n v.1 v.2.1⟩ := fun _ => by kernel_rfl
theorem ct119_5 (n : Nat) : CtOk (tb119 n) (sec code119 3).2 ⟨[(1, (.b 52 [(.v true (.pair (.int .i64) (.pair (.int .i64) (.int .i64))))])), (3, (.c false (.v true .bool))), (4, (.c false (.v true .bool)))], [(.ret, [(2, (.c false (.v true .bool)))])], fun v => J119_5 n v.1 v.2.1 v.2.2.1⟩ := fun _ => by kernel_rfl
theorem secs119 : seconds code119 = [(some 1, (sec code119 0).2), (some 2, (sec code119 1).2), (some 3, (sec code119 2).2), (some 5, (sec code119 3).2), (none, (sec code119 4).2), (none, (sec code119 5).2)] := by kernel_rfl
theorem la119 (n : Nat) : LpAll (tb119 n) code119 := lpAll blocks119 (bl_nil) secs119 (cs_none rfl (cs_one rfl (ct119_2 n) (cs_none rfl (cs_one rfl (ct119_5 n) (cs_none rfl (cs_none rfl (cs_nil))))))) (by kernel_rfl)
theorem ev119 (n : Nat) (x : pdens [.c true (.v true (.pair (.int .i64) (.pair (.int .i64) (.int .i64))))]) : evSig (tb119 n) Try.f119 [.c true (.v true (.pair (.int .i64) (.pair (.int .i64) (.int .i64))))] [.c false (.v true .bool)] x = F119 n x.1 := by kernel_rfl
theorem con119_ok (n : Nat) : Con.ok Try.prog 119 (con119 n) := conOf_ok (tb119_ok n) (body_la (by kernel_rfl : Try.f119.body = some code119) (la119 n)) Try.func119 (enters Try.func119 (by kernel_rfl) (by kernel_rfl)) rfl rfl (ev119 n)
/-! ### loop.example/fathomline/impl.threadOk -/
def J85_9 (n : Nat) (x23 : List (Int × Int × Int)) (x24 : Bool) (x25 : Bool) (x26 : (Int × Int × Int) × Unit) (x27 : List (Int × Int × Int)) (x28 : Int) (x29 : Int) : Option (odens [(.normal, [(0, (.c false (.v false (.rs 52 (.pair (.int .i64) (.pair (.int .i64) (.int .i64))))))), (3, (.c false (.v true .bool))), (4, (.c false (.v true .bool))), (8, (.c false (.v false (.rs 52 (.pair (.int .i64) (.pair (.int .i64) (.int .i64))))))), (9, (.c false (.v true (.int .i64)))), (10, (.c false (.v true (.int .i64))))])]) :=
    cond (x26.fst.fst == (7 : Int))
    (some (Sum.inl (x23, x24, Bool.true, x27, x28, x29, ())))
    (cond (x25)
     (some (Sum.inl (x23, x24, x26.fst.fst != (8 : Int), x27, x28, x29, ())))
     (some (Sum.inl (x23, x24, Bool.false, x27, x28, x29, ()))))
def J85_8 (n : Nat) (x16 : List (Int × Int × Int)) (x17 : Bool) (x18 : Bool) (x19 : (Int × Int × Int) × Unit) (x20 : List (Int × Int × Int)) (x21 : Int) (x22 : Int) : Option (odens [(.normal, [(0, (.c false (.v false (.rs 52 (.pair (.int .i64) (.pair (.int .i64) (.int .i64))))))), (3, (.c false (.v true .bool))), (4, (.c false (.v true .bool))), (8, (.c false (.v false (.rs 52 (.pair (.int .i64) (.pair (.int .i64) (.int .i64))))))), (9, (.c false (.v true (.int .i64)))), (10, (.c false (.v true (.int .i64))))])]) :=
    cond (x17)
    (match J85_9 n (x16) (Bool.true) (x18) (((x19.fst.fst, x19.fst.snd.fst, x19.fst.snd.snd), ())) (x20) (x21) (x22) with
     | none => none
     | some (Sum.inl v30) =>
      some (Sum.inl (v30.fst, v30.snd.fst, v30.snd.snd.fst, v30.snd.snd.snd.fst, v30.snd.snd.snd.snd.fst, v30.snd.snd.snd.snd.snd.fst, ())))
    ((F120 n ((x19.fst.fst, x19.fst.snd.fst, x19.fst.snd.snd))).bind fun y31 =>
     match J85_9 n (x16) (y31.fst) (x18) (((x19.fst.fst, x19.fst.snd.fst, x19.fst.snd.snd), ())) (x20) (x21) (x22) with
     | none => none
     | some (Sum.inl v32) =>
      some (Sum.inl (v32.fst, v32.snd.fst, v32.snd.snd.fst, v32.snd.snd.snd.fst, v32.snd.snd.snd.snd.fst, v32.snd.snd.snd.snd.snd.fst, ())))
def J85_6 (n : Nat) (x7 : List (Int × Int × Int)) (x8 : Bool) (x9 : Bool) (x10 : (Int × Int × Int) × Unit) (x11 : Bool) (x12 : List (Int × Int × Int)) (x13 : Int) (x14 : Int) : Option (odens [(.ret, [(2, (.c false (.v true .bool)))]), (.normal, [(0, (.c false (.v false (.rs 52 (.pair (.int .i64) (.pair (.int .i64) (.int .i64))))))), (3, (.c false (.v true .bool))), (4, (.c false (.v true .bool))), (8, (.c false (.v false (.rs 52 (.pair (.int .i64) (.pair (.int .i64) (.int .i64))))))), (9, (.c false (.v true (.int .i64)))), (10, (.c false (.v true (.int .i64))))])]) :=
    (F119 n ((x10.fst.fst, x10.fst.snd.fst, x10.fst.snd.snd))).bind fun y15 =>
    cond (!y15.fst)
    (some (Sum.inl (Bool.false, ())))
    (cond (x11)
     (some (Sum.inl (Bool.false, ())))
     (match J85_8 n (x7) (x8) (x9) (((x10.fst.fst, x10.fst.snd.fst, x10.fst.snd.snd), ())) (x12) (x13) (x14) with
      | none => none
      | some (Sum.inl v33) =>
       some (Sum.inr (Sum.inl (v33.fst, v33.snd.fst, v33.snd.snd.fst, v33.snd.snd.snd.fst, v33.snd.snd.snd.snd.fst, v33.snd.snd.snd.snd.snd.fst, ())))))
def J85_10 (n : Nat) (x36 : List (Int × Int × Int)) (x37 : Bool) (x38 : Bool) (x39 : List (Int × Int × Int)) (x40 : Int) (x41 : Int) : Option (odens [(.normal, [(0, (.c false (.v false (.rs 52 (.pair (.int .i64) (.pair (.int .i64) (.int .i64))))))), (3, (.c false (.v true .bool))), (4, (.c false (.v true .bool))), (8, (.c false (.v false (.rs 52 (.pair (.int .i64) (.pair (.int .i64) (.int .i64))))))), (9, (.c false (.v true (.int .i64)))), (10, (.c false (.v true (.int .i64))))])]) :=
    some (Sum.inl (x36, x37, x38, x39, x40, Go.IntKind.i64.wrap (x41 + (1 : Int)), ()))
def L85_0 (n : Nat) : Nat → List (Int × Int × Int) → Bool → Bool → List (Int × Int × Int) → Int → Int → Option (odens [(.ret, [(2, (.c false (.v true .bool)))]), ((.exit 0), [(0, (.c false (.v false (.rs 52 (.pair (.int .i64) (.pair (.int .i64) (.int .i64))))))), (4, (.c false (.v true .bool)))])])
  | 0, _, _, _, _, _, _ => none
  | m + 1, x1, x2, x3, x4, x5, x6 =>
    cond (Decidable.decide (x6 < x5))
    (if (0 : Int) ≤ x6 then
     if x6 < (↑x4.length : Int) then
     cond ((x4.getD x6.toNat ((0 : Int), (0 : Int), (0 : Int))).fst == (3 : Int))
     (cond (!x2)
      (match J85_6 n (x1) (x2) (x3) ((((x4.getD x6.toNat ((0 : Int), (0 : Int), (0 : Int))).fst, (x4.getD x6.toNat ((0 : Int), (0 : Int), (0 : Int))).snd.fst, (x4.getD x6.toNat ((0 : Int), (0 : Int), (0 : Int))).snd.snd), ())) (Bool.true) (x4) (x5) (x6) with
       | none => none
       | some (Sum.inl v34) =>
        some (Sum.inl (v34.fst, ()))
       | some (Sum.inr (Sum.inl v35)) =>
        match J85_10 n (v35.fst) (v35.snd.fst) (v35.snd.snd.fst) (v35.snd.snd.snd.fst) (v35.snd.snd.snd.snd.fst) (v35.snd.snd.snd.snd.snd.fst) with
        | none => none
        | some (Sum.inl v42) =>
         L85_0 n m (v42.fst) (v42.snd.fst) (v42.snd.snd.fst) (v42.snd.snd.snd.fst) (v42.snd.snd.snd.snd.fst) (v42.snd.snd.snd.snd.snd.fst))
      (cond (x3)
       (cond ((x4.getD x6.toNat ((0 : Int), (0 : Int), (0 : Int))).fst == (7 : Int))
        (match J85_6 n (x1) (x2) (x3) ((((x4.getD x6.toNat ((0 : Int), (0 : Int), (0 : Int))).fst, (x4.getD x6.toNat ((0 : Int), (0 : Int), (0 : Int))).snd.fst, (x4.getD x6.toNat ((0 : Int), (0 : Int), (0 : Int))).snd.snd), ())) (Bool.true) (x4) (x5) (x6) with
         | none => none
         | some (Sum.inl v43) =>
          some (Sum.inl (v43.fst, ()))
         | some (Sum.inr (Sum.inl v44)) =>
          match J85_10 n (v44.fst) (v44.snd.fst) (v44.snd.snd.fst) (v44.snd.snd.snd.fst) (v44.snd.snd.snd.snd.fst) (v44.snd.snd.snd.snd.snd.fst) with
          | none => none
          | some (Sum.inl v45) =>
           L85_0 n m (v45.fst) (v45.snd.fst) (v45.snd.snd.fst) (v45.snd.snd.snd.fst) (v45.snd.snd.snd.snd.fst) (v45.snd.snd.snd.snd.snd.fst))
        (cond ((x4.getD x6.toNat ((0 : Int), (0 : Int), (0 : Int))).fst == (9 : Int))
         (match J85_6 n (x1) (x2) (x3) ((((x4.getD x6.toNat ((0 : Int), (0 : Int), (0 : Int))).fst, (x4.getD x6.toNat ((0 : Int), (0 : Int), (0 : Int))).snd.fst, (x4.getD x6.toNat ((0 : Int), (0 : Int), (0 : Int))).snd.snd), ())) (Bool.true) (x4) (x5) (x6) with
          | none => none
          | some (Sum.inl v46) =>
           some (Sum.inl (v46.fst, ()))
          | some (Sum.inr (Sum.inl v47)) =>
           match J85_10 n (v47.fst) (v47.snd.fst) (v47.snd.snd.fst) (v47.snd.snd.snd.fst) (v47.snd.snd.snd.snd.fst) (v47.snd.snd.snd.snd.snd.fst) with
           | none => none
           | some (Sum.inl v48) =>
            L85_0 n m (v48.fst) (v48.snd.fst) (v48.snd.snd.fst) (v48.snd.snd.snd.fst) (v48.snd.snd.snd.snd.fst) (v48.snd.snd.snd.snd.snd.fst))
         (cond (!x3)
          (match J85_6 n (x1) (x2) (x3) ((((x4.getD x6.toNat ((0 : Int), (0 : Int), (0 : Int))).fst, (x4.getD x6.toNat ((0 : Int), (0 : Int), (0 : Int))).snd.fst, (x4.getD x6.toNat ((0 : Int), (0 : Int), (0 : Int))).snd.snd), ())) ((x4.getD x6.toNat ((0 : Int), (0 : Int), (0 : Int))).fst == (8 : Int)) (x4) (x5) (x6) with
           | none => none
           | some (Sum.inl v49) =>
            some (Sum.inl (v49.fst, ()))
           | some (Sum.inr (Sum.inl v50)) =>
            match J85_10 n (v50.fst) (v50.snd.fst) (v50.snd.snd.fst) (v50.snd.snd.snd.fst) (v50.snd.snd.snd.snd.fst) (v50.snd.snd.snd.snd.snd.fst) with
            | none => none
            | some (Sum.inl v51) =>
             L85_0 n m (v51.fst) (v51.snd.fst) (v51.snd.snd.fst) (v51.snd.snd.snd.fst) (v51.snd.snd.snd.snd.fst) (v51.snd.snd.snd.snd.snd.fst))
          (match J85_6 n (x1) (x2) (x3) ((((x4.getD x6.toNat ((0 : Int), (0 : Int), (0 : Int))).fst, (x4.getD x6.toNat ((0 : Int), (0 : Int), (0 : Int))).snd.fst, (x4.getD x6.toNat ((0 : Int), (0 : Int), (0 : Int))).snd.snd), ())) (Bool.false) (x4) (x5) (x6) with
           | none => none
           | some (Sum.inl v52) =>
            some (Sum.inl (v52.fst, ()))
           | some (Sum.inr (Sum.inl v53)) =>
            match J85_10 n (v53.fst) (v53.snd.fst) (v53.snd.snd.fst) (v53.snd.snd.snd.fst) (v53.snd.snd.snd.snd.fst) (v53.snd.snd.snd.snd.snd.fst) with
            | none => none
            | some (Sum.inl v54) =>
             L85_0 n m (v54.fst) (v54.snd.fst) (v54.snd.snd.fst) (v54.snd.snd.snd.fst) (v54.snd.snd.snd.snd.fst) (v54.snd.snd.snd.snd.snd.fst)))))
       (cond (!x3)
        (match J85_6 n (x1) (x2) (x3) ((((x4.getD x6.toNat ((0 : Int), (0 : Int), (0 : Int))).fst, (x4.getD x6.toNat ((0 : Int), (0 : Int), (0 : Int))).snd.fst, (x4.getD x6.toNat ((0 : Int), (0 : Int), (0 : Int))).snd.snd), ())) ((x4.getD x6.toNat ((0 : Int), (0 : Int), (0 : Int))).fst == (8 : Int)) (x4) (x5) (x6) with
         | none => none
         | some (Sum.inl v55) =>
          some (Sum.inl (v55.fst, ()))
         | some (Sum.inr (Sum.inl v56)) =>
          match J85_10 n (v56.fst) (v56.snd.fst) (v56.snd.snd.fst) (v56.snd.snd.snd.fst) (v56.snd.snd.snd.snd.fst) (v56.snd.snd.snd.snd.snd.fst) with
          | none => none
          | some (Sum.inl v57) =>
           L85_0 n m (v57.fst) (v57.snd.fst) (v57.snd.snd.fst) (v57.snd.snd.snd.fst) (v57.snd.snd.snd.snd.fst) (v57.snd.snd.snd.snd.snd.fst))
        (match J85_6 n (x1) (x2) (x3) ((((x4.getD x6.toNat ((0 : Int), (0 : Int), (0 : Int))).fst, (x4.getD x6.toNat ((0 : Int), (0 : Int), (0 : Int))).snd.fst, (x4.getD x6.toNat ((0 : Int), (0 : Int), (0 : Int))).snd.snd), ())) (Bool.false) (x4) (x5) (x6) with
         | none => none
         | some (Sum.inl v58) =>
          some (Sum.inl (v58.fst, ()))
         | some (Sum.inr (Sum.inl v59)) =>
          match J85_10 n (v59.fst) (v59.snd.fst) (v59.snd.snd.fst) (v59.snd.snd.snd.fst) (v59.snd.snd.snd.snd.fst) (v59.snd.snd.snd.snd.snd.fst) with
          | none => none
          | some (Sum.inl v60) =>
           L85_0 n m (v60.fst) (v60.snd.fst) (v60.snd.snd.fst) (v60.snd.snd.snd.fst) (v60.snd.snd.snd.snd.fst) (v60.snd.snd.snd.snd.snd.fst)))))
     (cond (x3)
      (cond ((x4.getD x6.toNat ((0 : Int), (0 : Int), (0 : Int))).fst == (7 : Int))
       (match J85_6 n (x1) (x2) (x3) ((((x4.getD x6.toNat ((0 : Int), (0 : Int), (0 : Int))).fst, (x4.getD x6.toNat ((0 : Int), (0 : Int), (0 : Int))).snd.fst, (x4.getD x6.toNat ((0 : Int), (0 : Int), (0 : Int))).snd.snd), ())) (Bool.true) (x4) (x5) (x6) with
        | none => none
        | some (Sum.inl v61) =>
         some (Sum.inl (v61.fst, ()))
        | some (Sum.inr (Sum.inl v62)) =>
         match J85_10 n (v62.fst) (v62.snd.fst) (v62.snd.snd.fst) (v62.snd.snd.snd.fst) (v62.snd.snd.snd.snd.fst) (v62.snd.snd.snd.snd.snd.fst) with
         | none => none
         | some (Sum.inl v63) =>
          L85_0 n m (v63.fst) (v63.snd.fst) (v63.snd.snd.fst) (v63.snd.snd.snd.fst) (v63.snd.snd.snd.snd.fst) (v63.snd.snd.snd.snd.snd.fst))
       (cond ((x4.getD x6.toNat ((0 : Int), (0 : Int), (0 : Int))).fst == (9 : Int))
        (match J85_6 n (x1) (x2) (x3) ((((x4.getD x6.toNat ((0 : Int), (0 : Int), (0 : Int))).fst, (x4.getD x6.toNat ((0 : Int), (0 : Int), (0 : Int))).snd.fst, (x4.getD x6.toNat ((0 : Int), (0 : Int), (0 : Int))).snd.snd), ())) (Bool.true) (x4) (x5) (x6) with
         | none => none
         | some (Sum.inl v64) =>
          some (Sum.inl (v64.fst, ()))
         | some (Sum.inr (Sum.inl v65)) =>
          match J85_10 n (v65.fst) (v65.snd.fst) (v65.snd.snd.fst) (v65.snd.snd.snd.fst) (v65.snd.snd.snd.snd.fst) (v65.snd.snd.snd.snd.snd.fst) with
          | none => none
          | some (Sum.inl v66) =>
           L85_0 n m (v66.fst) (v66.snd.fst) (v66.snd.snd.fst) (v66.snd.snd.snd.fst) (v66.snd.snd.snd.snd.fst) (v66.snd.snd.snd.snd.snd.fst))
        (cond (!x3)
         (match J85_6 n (x1) (x2) (x3) ((((x4.getD x6.toNat ((0 : Int), (0 : Int), (0 : Int))).fst, (x4.getD x6.toNat ((0 : Int), (0 : Int), (0 : Int))).snd.fst, (x4.getD x6.toNat ((0 : Int), (0 : Int), (0 : Int))).snd.snd), ())) ((x4.getD x6.toNat ((0 : Int), (0 : Int), (0 : Int))).fst == (8 : Int)) (x4) (x5) (x6) with
          | none => none
          | some (Sum.inl v67) =>
           some (Sum.inl (v67.fst, ()))
          | some (Sum.inr (Sum.inl v68)) =>
           match J85_10 n (v68.fst) (v68.snd.fst) (v68.snd.snd.fst) (v68.snd.snd.snd.fst) (v68.snd.snd.snd.snd.fst) (v68.snd.snd.snd.snd.snd.fst) with
           | none => none
           | some (Sum.inl v69) =>
            L85_0 n m (v69.fst) (v69.snd.fst) (v69.snd.snd.fst) (v69.snd.snd.snd.fst) (v69.snd.snd.snd.snd.fst) (v69.snd.snd.snd.snd.snd.fst))
         (match J85_6 n (x1) (x2) (x3) ((((x4.getD x6.toNat ((0 : Int), (0 : Int), (0 : Int))).fst, (x4.getD x6.toNat ((0 : Int), (0 : Int), (0 : Int))).snd.fst, (x4.getD x6.toNat ((0 : Int), (0 : Int), (0 : Int))).snd.snd), ())) (Bool.false) (x4) (x5) (x6) with
          | none => none
          | some (Sum.inl v70) =>
           some (Sum.inl (v70.fst, ()))
          | some (Sum.inr (Sum.inl v71)) =>
           match J85_10 n (v71.fst) (v71.snd.fst) (v71.snd.snd.fst) (v71.snd.snd.snd.fst) (v71.snd.snd.snd.snd.fst) (v71.snd.snd.snd.snd.snd.fst) with
           | none => none
           | some (Sum.inl v72) =>
            L85_0 n m (v72.fst) (v72.snd.fst) (v72.snd.snd.fst) (v72.snd.snd.snd.fst) (v72.snd.snd.snd.snd.fst) (v72.snd.snd.snd.snd.snd.fst)))))
      (cond (!x3)
       (match J85_6 n (x1) (x2) (x3) ((((x4.getD x6.toNat ((0 : Int), (0 : Int), (0 : Int))).fst, (x4.getD x6.toNat ((0 : Int), (0 : Int), (0 : Int))).snd.fst, (x4.getD x6.toNat ((0 : Int), (0 : Int), (0 : Int))).snd.snd), ())) ((x4.getD x6.toNat ((0 : Int), (0 : Int), (0 : Int))).fst == (8 : Int)) (x4) (x5) (x6) with
        | none => none
        | some (Sum.inl v73) =>
         some (Sum.inl (v73.fst, ()))
        | some (Sum.inr (Sum.inl v74)) =>
         match J85_10 n (v74.fst) (v74.snd.fst) (v74.snd.snd.fst) (v74.snd.snd.snd.fst) (v74.snd.snd.snd.snd.fst) (v74.snd.snd.snd.snd.snd.fst) with
         | none => none
         | some (Sum.inl v75) =>
          L85_0 n m (v75.fst) (v75.snd.fst) (v75.snd.snd.fst) (v75.snd.snd.snd.fst) (v75.snd.snd.snd.snd.fst) (v75.snd.snd.snd.snd.snd.fst))
       (match J85_6 n (x1) (x2) (x3) ((((x4.getD x6.toNat ((0 : Int), (0 : Int), (0 : Int))).fst, (x4.getD x6.toNat ((0 : Int), (0 : Int), (0 : Int))).snd.fst, (x4.getD x6.toNat ((0 : Int), (0 : Int), (0 : Int))).snd.snd), ())) (Bool.false) (x4) (x5) (x6) with
        | none => none
        | some (Sum.inl v76) =>
         some (Sum.inl (v76.fst, ()))
        | some (Sum.inr (Sum.inl v77)) =>
         match J85_10 n (v77.fst) (v77.snd.fst) (v77.snd.snd.fst) (v77.snd.snd.snd.fst) (v77.snd.snd.snd.snd.fst) (v77.snd.snd.snd.snd.snd.fst) with
         | none => none
         | some (Sum.inl v78) =>
          L85_0 n m (v78.fst) (v78.snd.fst) (v78.snd.snd.fst) (v78.snd.snd.snd.fst) (v78.snd.snd.snd.snd.fst) (v78.snd.snd.snd.snd.snd.fst))))
     else none
     else none)
    (some (Sum.inr (Sum.inl (x1, x3, ()))))
def F85 (n : Nat) (a0 : List (Int × Int × Int)) : Option (rdens [.c false (.v false (.rs 52 (.pair (.int .i64) (.pair (.int .i64) (.int .i64)))))] [.c false (.v true .bool)]) :=
  match L85_0 n n (a0) (Bool.false) (Bool.false) (a0) ((↑a0.length : Int)) ((0 : Int)) with
  | none => none
  | some (Sum.inl v79) =>
   some (v79.fst, ())
  | some (Sum.inr (Sum.inl v80)) =>
   cond (!v80.snd.fst)
   (some (Decidable.decide ((↑(List.length v80.fst) : Int) ≤ (7 : Int)), ()))
   (some (Bool.false, ()))
noncomputable def con85 (n : Nat) : Con := conOf [.c false (.v false (.rs 52 (.pair (.int .i64) (.pair (.int .i64) (.int .i64)))))] [.c false (.v true .bool)] fun x => F85 n x.1
noncomputable def tb85 (n : Nat) : Tb := ⟨tiOf Try.prog, conL [(119, con119 n), (120, con120 n)], n, [], 73, lpL [(0, ⟨[(0, (.c false (.v false (.rs 52 (.pair (.int .i64) (.pair (.int .i64) (.int .i64))))))), (3, (.c false (.v true .bool))), (4, (.c false (.v true .bool))), (8, (.c false (.v false (.rs 52 (.pair (.int .i64) (.pair (.int .i64) (.int .i64))))))), (9, (.c false (.v true (.int .i64)))), (10, (.c false (.v true (.int .i64))))], [(.ret, [(2, (.c false (.v true .bool)))]), ((.exit 0), [(0, (.c false (.v false (.rs 52 (.pair (.int .i64) (.pair (.int .i64) (.int .i64))))))), (4, (.c false (.v true .bool)))])], fun m v => L85_0 n m v.1 v.2.1 v.2.2.1 v.2.2.2.1 v.2.2.2.2.1 v.2.2.2.2.2.1⟩)], ctL [(9, ⟨[(0, (.c false (.v false (.rs 52 (.pair (.int .i64) (.pair (.int .i64) (.int .i64))))))), (3, (.c false (.v true .bool))), (4, (.c false (.v true .bool))), (6, (.b 52 [(.v true (.pair (.int .i64) (.pair (.int .i64) (.int .i64))))])), (8, (.c false (.v false (.rs 52 (.pair (.int .i64) (.pair (.int .i64) (.int .i64))))))), (9, (.c false (.v true (.int .i64)))), (10, (.c false (.v true (.int .i64))))], [(.normal, [(0, (.c false (.v false (.rs 52 (.pair (.int .i64) (.pair (.int .i64) (.int .i64))))))), (3, (.c false (.v true .bool))), (4, (.c false (.v true .bool))), (8, (.c false (.v false (.rs 52 (.pair (.int .i64) (.pair (.int .i64) (.int .i64))))))), (9, (.c false (.v true (.int .i64)))), (10, (.c false (.v true (.int .i64))))])], fun v => J85_9 n v.1 v.2.1 v.2.2.1 v.2.2.2.1 v.2.2.2.2.1 v.2.2.2.2.2.1 v.2.2.2.2.2.2.1⟩), (8, ⟨[(0, (.c false (.v false (.rs 52 (.pair (.int .i64) (.pair (.int .i64) (.int .i64))))))), (3, (.c false (.v true .bool))), (4, (.c false (.v true .bool))), (6, (.b 52 [(.v true (.pair (.int .i64) (.pair (.int .i64) (.int .i64))))])), (8, (.c false (.v false (.rs 52 (.pair (.int .i64) (.pair (.int .i64) (.int .i64))))))), (9, (.c false (.v true (.int .i64)))), (10, (.c false (.v true (.int .i64))))], [(.normal, [(0, (.c false (.v false (.rs 52 (.pair (.int .i64) (.pair (.int .i64) (.int .i64))))))), (3, (.c false (.v true .bool))), (4, (.c false (.v true .bool))), (8, (.c false (.v false (.rs 52 (.pair (.int .i64) (.pair (.int .i64) (.int .i64))))))), (9, (.c false (.v true (.int .i64)))), (10, (.c false (.v true (.int .i64))))])], fun v => J85_8 n v.1 v.2.1 v.2.2.1 v.2.2.2.1 v.2.2.2.2.1 v.2.2.2.2.2.1 v.2.2.2.2.2.2.1⟩), (6, ⟨[(0, (.c false (.v false (.rs 52 (.pair (.int .i64) (.pair (.int .i64) (.int .i64))))))), (3, (.c false (.v true .bool))), (4, (.c false (.v true .bool))), (6, (.b 52 [(.v true (.pair (.int .i64) (.pair (.int .i64) (.int .i64))))])), (7, (.c false (.v true .bool))), (8, (.c false (.v false (.rs 52 (.pair (.int .i64) (.pair (.int .i64) (.int .i64))))))), (9, (.c false (.v true (.int .i64)))), (10, (.c false (.v true (.int .i64))))], [(.ret, [(2, (.c false (.v true .bool)))]), (.normal, [(0, (.c false (.v false (.rs 52 (.pair (.int .i64) (.pair (.int .i64) (.int .i64))))))), (3, (.c false (.v true .bool))), (4, (.c false (.v true .bool))), (8, (.c false (.v false (.rs 52 (.pair (.int .i64) (.pair (.int .i64) (.int .i64))))))), (9, (.c false (.v true (.int .i64)))), (10, (.c false (.v true (.int .i64))))])], fun v => J85_6 n v.1 v.2.1 v.2.2.1 v.2.2.2.1 v.2.2.2.2.1 v.2.2.2.2.2.1 v.2.2.2.2.2.2.1 v.2.2.2.2.2.2.2.1⟩), (10, ⟨[(0, (.c false (.v false (.rs 52 (.pair (.int .i64) (.pair (.int .i64) (.int .i64))))))), (3, (.c false (.v true .bool))), (4, (.c false (.v true .bool))), (8, (.c false (.v false (.rs 52 (.pair (.int .i64) (.pair (.int .i64) (.int .i64))))))), (9, (.c false (.v true (.int .i64)))), (10, (.c false (.v true (.int .i64))))], [(.normal, [(0, (.c false (.v false (.rs 52 (.pair (.int .i64) (.pair (.int .i64) (.int .i64))))))), (3, (.c false (.v true .bool))), (4, (.c false (.v true .bool))), (8, (.c false (.v false (.rs 52 (.pair (.int .i64) (.pair (.int .i64) (.int .i64))))))), (9, (.c false (.v true (.int .i64)))), (10, (.c false (.v true (.int .i64))))])], fun v => J85_10 n v.1 v.2.1 v.2.2.1 v.2.2.2.1 v.2.2.2.2.1 v.2.2.2.2.2.1⟩)], [], true⟩
noncomputable def code85 : Code := Try.f85.body.getD .skip
theorem tb85_ok (n : Nat) : (tb85 n).ok Try.prog := tbOk mixed (⟨con119_ok n, ⟨con120_ok n, trivial⟩⟩)
theorem lp85_0 (n : Nat) : LpAt (tb85 n) (loopBody code85 0) 0 := lpAt rfl (fun _ => by kernel_rfl) (fun _ _ => by kernel_rfl)
theorem blocks85 : blocks code85 = [(0, .loop (loopBody code85 0)), (1, blockBody code85 1)] := by kernel_rfl
theorem ct85_10 (n : Nat) : CtOk (tb85 n) (sec code85 6).2 ⟨[(0, (.c false (.v false (.rs 52 (.pair (.int .i64) (.pair (.int .i64) (.int .i64))))))), (3, (.c false (.v true .bool))), (4, (.c false (.v true .bool))), (8, (.c false (.v false (.rs 52 (.pair (.int .i64) (.pair (.int .i64) (.int .i64))))))), (9, (.c false (.v true (.int .i64)))), (10, (.c false (.v true (.int .i64))))], [(.normal, [(0, (.c false (.v false (.rs 52 (.pair (.int .i64) (.pair (.int .i64) (.int .i64))))))), (3, (.c false (.v true .bool))), (4, (.c false (.v true .bool))), (8, (.c false (.v false (.rs 52 (.pair (.int .i64) (.pair (.int .i64) (.int .i64))))))), (9, (.c false (.v true (.int .i64)))), (10, (.c false (.v true (.int .i64))))])], fun v => J85_10 n v.1 v.2.1 v.2.2.1 v.2.2.2.1 v.2.2.2.2.1 v.2.2.2.2.2.1⟩ := fun _ => by kernel_rfl
theorem ct85_6 (n : Nat) : CtOk (tb85 n) (sec code85 8).2 ⟨[(0, (.c false (.v false (.rs 52 (.pair (.int .i64) (.pair (.int .i64) (.int .i64))))))), (3, (.c false (.v true .bool))), (4, (.c false (.v true .bool))), (6, (.b 52 [(.v true (.pair (.int .i64) (.pair (.int .i64) (.int .i64))))])), (7, (.c false (.v true .bool))), (8, (.c false (.v false (.rs 52 (.pair (.int .i64) (.pair (.int .i64) (.int .i64))))))), (9, (.c false (.v true (.int .i64)))), (10, (.c false (.v true (.int .i64))))], [(.ret, [(2, (.c false (.v true .bool)))]), (.normal, [(0, (.c false (.v false (.rs 52 (.pair (.int .i64) (.pair (.int .i64) (.int .i64))))))), (3, (.c false (.v true .bool))), (4, (.c false (.v true .bool))), (8, (.c false (.v false (.rs 52 (.pair (.int .i64) (.pair (.int .i64) (.int .i64))))))), (9, (.c false (.v true (.int .i64)))), (10, (.c false (.v true (.int .i64))))])], fun v => J85_6 n v.1 v.2.1 v.2.2.1 v.2.2.2.1 v.2.2.2.2.1 v.2.2.2.2.2.1 v.2.2.2.2.2.2.1 v.2.2.2.2.2.2.2.1⟩ := fun _ => by kernel_rfl
theorem ct85_8 (n : Nat) : CtOk (tb85 n) (sec code85 9).2 ⟨[(0, (.c false (.v false (.rs 52 (.pair (.int .i64) (.pair (.int .i64) (.int .i64))))))), (3, (.c false (.v true .bool))), (4, (.c false (.v true .bool))), (6, (.b 52 [(.v true (.pair (.int .i64) (.pair (.int .i64) (.int .i64))))])), (8, (.c false (.v false (.rs 52 (.pair (.int .i64) (.pair (.int .i64) (.int .i64))))))), (9, (.c false (.v true (.int .i64)))), (10, (.c false (.v true (.int .i64))))], [(.normal, [(0, (.c false (.v false (.rs 52 (.pair (.int .i64) (.pair (.int .i64) (.int .i64))))))), (3, (.c false (.v true .bool))), (4, (.c false (.v true .bool))), (8, (.c false (.v false (.rs 52 (.pair (.int .i64) (.pair (.int .i64) (.int .i64))))))), (9, (.c false (.v true (.int .i64)))), (10, (.c false (.v true (.int .i64))))])], fun v => J85_8 n v.1 v.2.1 v.2.2.1 v.2.2.2.1 v.2.2.2.2.1 v.2.2.2.2.2.1 v.2.2.2.2.2.2.1⟩ := fun _ => by kernel_rfl
theorem ct85_9 (n : Nat) : CtOk (tb85 n) (sec code85 12).2 ⟨[(0, (.c false (.v false (.rs 52 (.pair (.int .i64) (.pair (.int .i64) (.int .i64))))))), (3, (.c false (.v true .bool))), (4, (.c false (.v true .bool))), (6, (.b 52 [(.v true (.pair (.int .i64) (.pair (.int .i64) (.int .i64))))])), (8, (.c false (.v false (.rs 52 (.pair (.int .i64) (.pair (.int .i64) (.int .i64))))))), (9, (.c false (.v true (.int .i64)))), (10, (.c false (.v true (.int .i64))))], [(.normal, [(0, (.c false (.v false (.rs 52 (.pair (.int .i64) (.pair (.int .i64) (.int .i64))))))), (3, (.c false (.v true .bool))), (4, (.c false (.v true .bool))), (8, (.c false (.v false (.rs 52 (.pair (.int .i64) (.pair (.int .i64) (.int .i64))))))), (9, (.c false (.v true (.int .i64)))), (10, (.c false (.v true (.int .i64))))])], fun v => J85_9 n v.1 v.2.1 v.2.2.1 v.2.2.2.1 v.2.2.2.2.1 v.2.2.2.2.2.1 v.2.2.2.2.2.2.1⟩ := fun _ => by kernel_rfl
theorem secs85 : seconds code85 = [(some 1, (sec code85 0).2), (some 2, (sec code85 1).2), (some 11, (sec code85 2).2), (some 3, (sec code85 3).2), (none, (sec code85 4).2), (some 4, (sec code85 5).2), (some 10, (sec code85 6).2), (some 5, (sec code85 7).2), (some 6, (sec code85 8).2), (some 8, (sec code85 9).2), (none, (sec code85 10).2), (none, (sec code85 11).2), (some 9, (sec code85 12).2), (none, (sec code85 13).2)] := by kernel_rfl
theorem la85 (n : Nat) : LpAll (tb85 n) code85 := lpAll blocks85 (bl_loop (lp85_0 n) (bl_none rfl (bl_nil))) secs85 (cs_none rfl (cs_none rfl (cs_none rfl (cs_none rfl (cs_none rfl (cs_none rfl (cs_one rfl (ct85_10 n) (cs_none rfl (cs_one rfl (ct85_6 n) (cs_one rfl (ct85_8 n) (cs_none rfl (cs_none rfl (cs_one rfl (ct85_9 n) (cs_none rfl (cs_nil))))))))))))))) (by kernel_rfl)
theorem ev85 (n : Nat) (x : pdens [.c false (.v false (.rs 52 (.pair (.int .i64) (.pair (.int .i64) (.int .i64)))))]) : evSig (tb85 n) Try.f85 [.c false (.v false (.rs 52 (.pair (.int .i64) (.pair (.int .i64) (.int .i64)))))] [.c false (.v true .bool)] x = F85 n x.1 := by kernel_rfl
theorem con85_ok (n : Nat) : Con.ok Try.prog 85 (con85 n) := conOf_ok (tb85_ok n) (body_la (by kernel_rfl : Try.f85.body = some code85) (la85 n)) Try.func85 (enters Try.func85 (by kernel_rfl) (by kernel_rfl)) rfl rfl (ev85 n)
/-! ### loop.example/fathomline/impl.ProgOk -/
def J37_15 (n : Nat) (x16 : Int) (x17 : Int) (x18 : List (List (Int × Int × Int))) (x19 : Int) (x20 : Int) (x21 : List (Int × Int × Int)) (x22 : Int) (x23 : Int) : Option (odens [(.normal, [(3, (.c false (.v true (.int .i64)))), (4, (.c false (.v true (.int .i64)))), (14, (.c false (.v false (.rs 50 (.rs 52 (.pair (.int .i64) (.pair (.int .i64) (.int .i64)))))))), (15, (.c false (.v true (.int .i64)))), (16, (.c false (.v true (.int .i64)))), (27, (.c false (.v false (.rs 52 (.pair (.int .i64) (.pair (.int .i64) (.int .i64))))))), (28, (.c false (.v true (.int .i64)))), (29, (.c false (.v true (.int .i64))))])]) :=
    some (Sum.inl (x16, x17, x18, x19, x20, x21, x22, Go.IntKind.i64.wrap (x23 + (1 : Int)), ()))
def L37_2 (n : Nat) : Nat → Int → Int → List (List (Int × Int × Int)) → Int → Int → List (Int × Int × Int) → Int → Int → Option (odens [((.exit 2), [(3, (.c false (.v true (.int .i64)))), (4, (.c false (.v true (.int .i64)))), (14, (.c false (.v false (.rs 50 (.rs 52 (.pair (.int .i64) (.pair (.int .i64) (.int .i64)))))))), (15, (.c false (.v true (.int .i64)))), (16, (.c false (.v true (.int .i64))))])])
  | 0, _, _, _, _, _, _, _, _ => none
  | m + 1, x7, x8, x9, x10, x11, x12, x13, x14 =>
    cond (Decidable.decide (x14 < x13))
    (if (0 : Int) ≤ x14 then
     if x14 < (↑x12.length : Int) then
     (F86 n (((x12.getD x14.toNat ((0 : Int), (0 : Int), (0 : Int))).fst, (x12.getD x14.toNat ((0 : Int), (0 : Int), (0 : Int))).snd.fst, (x12.getD x14.toNat ((0 : Int), (0 : Int), (0 : Int))).snd.snd))).bind fun y15 =>
     cond (y15.fst)
     (match J37_15 n (x7) (Go.IntKind.i64.wrap (x8 + (1 : Int))) (x9) (x10) (x11) (x12) (x13) (x14) with
      | none => none
      | some (Sum.inl v24) =>
       L37_2 n m (v24.fst) (v24.snd.fst) (v24.snd.snd.fst) (v24.snd.snd.snd.fst) (v24.snd.snd.snd.snd.fst) (v24.snd.snd.snd.snd.snd.fst) (v24.snd.snd.snd.snd.snd.snd.fst) (v24.snd.snd.snd.snd.snd.snd.snd.fst))
     (match J37_15 n (x7) (x8) (x9) (x10) (x11) (x12) (x13) (x14) with
      | none => none
      | some (Sum.inl v25) =>
       L37_2 n m (v25.fst) (v25.snd.fst) (v25.snd.snd.fst) (v25.snd.snd.snd.fst) (v25.snd.snd.snd.snd.fst) (v25.snd.snd.snd.snd.snd.fst) (v25.snd.snd.snd.snd.snd.snd.fst) (v25.snd.snd.snd.snd.snd.snd.snd.fst))
     else none
     else none)
    (some (Sum.inl (x7, x8, x9, x10, x11, ())))
def L37_0 (n : Nat) : Nat → Int → Int → List (List (Int × Int × Int)) → Int → Int → Option (odens [(.ret, [(2, (.c false (.v true .bool)))]), ((.exit 0), [(3, (.c false (.v true (.int .i64)))), (4, (.c false (.v true (.int .i64))))])])
  | 0, _, _, _, _, _ => none
  | m + 1, x1, x2, x3, x4, x5 =>
    cond (Decidable.decide (x5 < x4))
    (if (0 : Int) ≤ x5 then
     if x5 < (↑x3.length : Int) then
     (F85 n (x3.getD x5.toNat [])).bind fun y6 =>
     cond (!y6.fst)
     (some (Sum.inl (Bool.false, ())))
     (match L37_2 n n (Go.IntKind.i64.wrap (x1 + (↑(List.length (x3.getD x5.toNat [])) : Int))) (x2) (x3) (x4) (x5) (x3.getD x5.toNat []) ((↑(List.length (x3.getD x5.toNat [])) : Int)) ((0 : Int)) with
      | none => none
      | some (Sum.inl v26) =>
       L37_0 n m (v26.fst) (v26.snd.fst) (v26.snd.snd.fst) (v26.snd.snd.snd.fst) (Go.IntKind.i64.wrap (v26.snd.snd.snd.snd.fst + (1 : Int))))
     else none
     else none)
    (some (Sum.inr (Sum.inl (x1, x2, ()))))
def F37 (n : Nat) (a0 : List (List (Int × Int × Int))) : Option (rdens [.c true (.v false (.rs 50 (.rs 52 (.pair (.int .i64) (.pair (.int .i64) (.int .i64))))))] [.c false (.v true .bool)]) :=
  cond (Decidable.decide ((↑a0.length : Int) > (3 : Int)))
  (some (Bool.false, ()))
  (match L37_0 n n ((0 : Int)) ((0 : Int)) (a0) ((↑a0.length : Int)) ((0 : Int)) with
   | none => none
   | some (Sum.inl v27) =>
    some (v27.fst, ())
   | some (Sum.inr (Sum.inl v28)) =>
    cond (Decidable.decide (v28.fst ≤ (14 : Int)))
    (some (Decidable.decide (v28.snd.fst ≤ (6 : Int)), ()))
    (some (Bool.false, ())))
noncomputable def con37 (n : Nat) : Con := conOf [.c true (.v false (.rs 50 (.rs 52 (.pair (.int .i64) (.pair (.int .i64) (.int .i64))))))] [.c false (.v true .bool)] fun x => F37 n x.1
noncomputable def tb37 (n : Nat) : Tb := ⟨tiOf Try.prog, conL [(85, con85 n), (86, con86 n)], n, [], 45, lpL [(2, ⟨[(3, (.c false (.v true (.int .i64)))), (4, (.c false (.v true (.int .i64)))), (14, (.c false (.v false (.rs 50 (.rs 52 (.pair (.int .i64) (.pair (.int .i64) (.int .i64)))))))), (15, (.c false (.v true (.int .i64)))), (16, (.c false (.v true (.int .i64)))), (27, (.c false (.v false (.rs 52 (.pair (.int .i64) (.pair (.int .i64) (.int .i64))))))), (28, (.c false (.v true (.int .i64)))), (29, (.c false (.v true (.int .i64))))], [((.exit 2), [(3, (.c false (.v true (.int .i64)))), (4, (.c false (.v true (.int .i64)))), (14, (.c false (.v false (.rs 50 (.rs 52 (.pair (.int .i64) (.pair (.int .i64) (.int .i64)))))))), (15, (.c false (.v true (.int .i64)))), (16, (.c false (.v true (.int .i64))))])], fun m v => L37_2 n m v.1 v.2.1 v.2.2.1 v.2.2.2.1 v.2.2.2.2.1 v.2.2.2.2.2.1 v.2.2.2.2.2.2.1 v.2.2.2.2.2.2.2.1⟩), (0, ⟨[(3, (.c false (.v true (.int .i64)))), (4, (.c false (.v true (.int .i64)))), (14, (.c false (.v false (.rs 50 (.rs 52 (.pair (.int .i64) (.pair (.int .i64) (.int .i64)))))))), (15, (.c false (.v true (.int .i64)))), (16, (.c false (.v true (.int .i64))))], [(.ret, [(2, (.c false (.v true .bool)))]), ((.exit 0), [(3, (.c false (.v true (.int .i64)))), (4, (.c false (.v true (.int .i64))))])], fun m v => L37_0 n m v.1 v.2.1 v.2.2.1 v.2.2.2.1 v.2.2.2.2.1⟩)], ctL [(15, ⟨[(3, (.c false (.v true (.int .i64)))), (4, (.c false (.v true (.int .i64)))), (14, (.c false (.v false (.rs 50 (.rs 52 (.pair (.int .i64) (.pair (.int .i64) (.int .i64)))))))), (15, (.c false (.v true (.int .i64)))), (16, (.c false (.v true (.int .i64)))), (27, (.c false (.v false (.rs 52 (.pair (.int .i64) (.pair (.int .i64) (.int .i64))))))), (28, (.c false (.v true (.int .i64)))), (29, (.c false (.v true (.int .i64))))], [(.normal, [(3, (.c false (.v true (.int .i64)))), (4, (.c false (.v true (.int .i64)))), (14, (.c false (.v false (.rs 50 (.rs 52 (.pair (.int .i64) (.pair (.int .i64) (.int .i64)))))))), (15, (.c false (.v true (.int .i64)))), (16, (.c false (.v true (.int .i64)))), (27, (.c false (.v false (.rs 52 (.pair (.int .i64) (.pair (.int .i64) (.int .i64))))))), (28, (.c false (.v true (.int .i64)))), (29, (.c false (.v true (.int .i64))))])], fun v => J37_15 n v.1 v.2.1 v.2.2.1 v.2.2.2.1 v.2.2.2.2.1 v.2.2.2.2.2.1 v.2.2.2.2.2.2.1 v.2.2.2.2.2.2.2.1⟩)], [], true⟩
noncomputable def code37 : Code := Try.f37.body.getD .skip
theorem tb37_ok (n : Nat) : (tb37 n).ok Try.prog := tbOk mixed (⟨con85_ok n, ⟨con86_ok n, trivial⟩⟩)
theorem lp37_2 (n : Nat) : LpAt (tb37 n) (loopBody code37 2) 2 := lpAt rfl (fun _ => by kernel_rfl) (fun _ _ => by kernel_rfl)
theorem lp37_0 (n : Nat) : LpAt (tb37 n) (loopBody code37 0) 0 := lpAt rfl (fun _ => by kernel_rfl) (fun _ _ => by kernel_rfl)
theorem blocks37 : blocks code37 = [(0, .loop (loopBody code37 0)), (1, blockBody code37 1), (2, .loop (loopBody code37 2)), (3, blockBody code37 3)] := by kernel_rfl
theorem ct37_15 (n : Nat) : CtOk (tb37 n) (sec code37 18).2 ⟨[(3, (.c false (.v true (.int .i64)))), (4, (.c false (.v true (.int .i64)))), (14, (.c false (.v false (.rs 50 (.rs 52 (.pair (.int .i64) (.pair (.int .i64) (.int .i64)))))))), (15, (.c false (.v true (.int .i64)))), (16, (.c false (.v true (.int .i64)))), (27, (.c false (.v false (.rs 52 (.pair (.int .i64) (.pair (.int .i64) (.int .i64))))))), (28, (.c false (.v true (.int .i64)))), (29, (.c false (.v true (.int .i64))))], [(.normal, [(3, (.c false (.v true (.int .i64)))), (4, (.c false (.v true (.int .i64)))), (14, (.c false (.v false (.rs 50 (.rs 52 (.pair (.int .i64) (.pair (.int .i64) (.int .i64)))))))), (15, (.c false (.v true (.int .i64)))), (16, (.c false (.v true (.int .i64)))), (27, (.c false (.v false (.rs 52 (.pair (.int .i64) (.pair (.int .i64) (.int .i64))))))), (28, (.c false (.v true (.int .i64)))), (29, (.c false (.v true (.int .i64))))])], fun v => J37_15 n v.1 v.2.1 v.2.2.1 v.2.2.2.1 v.2.2.2.2.1 v.2.2.2.2.2.1 v.2.2.2.2.2.2.1 v.2.2.2.2.2.2.2.1⟩ := fun _ => by kernel_rfl
theorem secs37 : seconds code37 = [(some 1, (sec code37 0).2), (some 3, (sec code37 1).2), (none, (sec code37 2).2), (none, (sec code37 3).2), (some 4, (sec code37 4).2), (some 17, (sec code37 5).2), (some 5, (sec code37 6).2), (none, (sec code37 7).2), (some 6, (sec code37 8).2), (some 16, (sec code37 9).2), (some 7, (sec code37 10).2), (some 9, (sec code37 11).2), (none, (sec code37 12).2), (none, (sec code37 13).2), (some 10, (sec code37 14).2), (some 11, (sec code37 15).2), (none, (sec code37 16).2), (some 12, (sec code37 17).2), (some 15, (sec code37 18).2), (some 13, (sec code37 19).2), (none, (sec code37 20).2), (none, (sec code37 21).2)] := by kernel_rfl
theorem la37 (n : Nat) : LpAll (tb37 n) code37 := lpAll blocks37 (bl_loop (lp37_0 n) (bl_none rfl (bl_loop (lp37_2 n) (bl_none rfl (bl_nil))))) secs37 (cs_none rfl (cs_none rfl (cs_none rfl (cs_none rfl (cs_none rfl (cs_none rfl (cs_none rfl (cs_none rfl (cs_none rfl (cs_none rfl (cs_none rfl (cs_none rfl (cs_none rfl (cs_none rfl (cs_none rfl (cs_none rfl (cs_none rfl (cs_none rfl (cs_one rfl (ct37_15 n) (cs_none rfl (cs_none rfl (cs_none rfl (cs_nil))))))))))))))))))))))) (by kernel_rfl)
theorem ev37 (n : Nat) (x : pdens [.c true (.v false (.rs 50 (.rs 52 (.pair (.int .i64) (.pair (.int .i64) (.int .i64))))))]) : evSig (tb37 n) Try.f37 [.c true (.v false (.rs 50 (.rs 52 (.pair (.int .i64) (.pair (.int .i64) (.int .i64))))))] [.c false (.v true .bool)] x = F37 n x.1 := by kernel_rfl
theorem con37_ok (n : Nat) : Con.ok Try.prog 37 (con37 n) := conOf_ok (tb37_ok n) (body_la (by kernel_rfl : Try.f37.body = some code37) (la37 n)) Try.func37 (enters Try.func37 (by kernel_rfl) (by kernel_rfl)) rfl rfl (ev37 n)
/-! ### loop.example/fathomline/laws.eqDo -/
def F140 (n : Nat) (a0 : Int × Int × Int) (a1 : Int × Int × Int) : Option (rdens [.c true (.v true (.pair (.int .i64) (.pair (.int .i64) (.int .i64)))), .c true (.v true (.pair (.int .i64) (.pair (.int .i64) (.int .i64))))] [.c false (.v true .bool)]) :=
  cond (a0.fst != a1.fst)
  (some (Bool.false, ()))
  (cond (a0.snd.fst != a1.snd.fst)
   (some (Bool.false, ()))
   (cond (a0.snd.snd != a1.snd.snd)
    (some (Bool.false, ()))
    (some (Bool.true, ()))))
noncomputable def con140 (n : Nat) : Con := conOf [.c true (.v true (.pair (.int .i64) (.pair (.int .i64) (.int .i64)))), .c true (.v true (.pair (.int .i64) (.pair (.int .i64) (.int .i64))))] [.c false (.v true .bool)] fun x => F140 n x.1 x.2.1
noncomputable def tb140 (n : Nat) : Tb := ⟨tiOf Try.prog, conL [], n, [], 20, lpL [], ctL [], [], true⟩
noncomputable def code140 : Code := Try.f140.body.getD .skip
theorem tb140_ok (n : Nat) : (tb140 n).ok Try.prog := tbOk mixed (trivial)
theorem blocks140 : blocks code140 = [] := by kernel_rfl
theorem la140 (n : Nat) : LpAll (tb140 n) code140 := lpAll blocks140 (bl_nil) rfl (cs_no fun _ => rfl) (by kernel_rfl)
theorem ev140 (n : Nat) (x : pdens [.c true (.v true (.pair (.int .i64) (.pair (.int .i64) (.int .i64)))), .c true (.v true (.pair (.int .i64) (.pair (.int .i64) (.int .i64))))]) : evSig (tb140 n) Try.f140 [.c true (.v true (.pair (.int .i64) (.pair (.int .i64) (.int .i64)))), .c true (.v true (.pair (.int .i64) (.pair (.int .i64) (.int .i64))))] [.c false (.v true .bool)] x = F140 n x.1 x.2.1 := by kernel_rfl
theorem con140_ok (n : Nat) : Con.ok Try.prog 140 (con140 n) := conOf_ok (tb140_ok n) (body_la (by kernel_rfl : Try.f140.body = some code140) (la140 n)) Try.func140 (enters Try.func140 (by kernel_rfl) (by kernel_rfl)) rfl rfl (ev140 n)
/-! ### loop.example/fathomline/laws.eqDoS -/
def L122_0 (n : Nat) : Nat → List (Int × Int × Int) → List (Int × Int × Int) → Int → Option (odens [(.ret, [(4, (.c false (.v true .bool)))]), ((.exit 0), [])])
  | 0, _, _, _ => none
  | m + 1, x1, x2, x3 =>
    cond (Decidable.decide (x3 < (↑x1.length : Int)))
    (if (0 : Int) ≤ x3 then
     if x3 < (↑x1.length : Int) then
     if (0 : Int) ≤ x3 then
     if x3 < (↑x2.length : Int) then
     (F140 n (((x1.getD x3.toNat ((0 : Int), (0 : Int), (0 : Int))).fst, (x1.getD x3.toNat ((0 : Int), (0 : Int), (0 : Int))).snd.fst, (x1.getD x3.toNat ((0 : Int), (0 : Int), (0 : Int))).snd.snd)) (((x2.getD x3.toNat ((0 : Int), (0 : Int), (0 : Int))).fst, (x2.getD x3.toNat ((0 : Int), (0 : Int), (0 : Int))).snd.fst, (x2.getD x3.toNat ((0 : Int), (0 : Int), (0 : Int))).snd.snd))).bind fun y4 =>
     cond (!y4.fst)
     (some (Sum.inl (Bool.false, ())))
     (L122_0 n m (x1) (x2) (Go.IntKind.i64.wrap (x3 + (1 : Int))))
     else none
     else none
     else none
     else none)
    (some (Sum.inr (Sum.inl (()))))
def F122 (n : Nat) (a0 : List (Int × Int × Int)) (a1 : List (Int × Int × Int)) : Option (rdens [.c false (.v false (.rs 52 (.pair (.int .i64) (.pair (.int .i64) (.int .i64))))), .c false (.v false (.rs 52 (.pair (.int .i64) (.pair (.int .i64) (.int .i64)))))] [.c false (.v true .bool)]) :=
  cond ((↑a0.length : Int) != (↑a1.length : Int))
  (some (Bool.false, ()))
  (match L122_0 n n (a0) (a1) ((0 : Int)) with
   | none => none
   | some (Sum.inl v5) =>
    some (v5.fst, ())
   | some (Sum.inr (Sum.inl v6)) =>
    some (Bool.true, ()))
noncomputable def con122 (n : Nat) : Con := conOf [.c false (.v false (.rs 52 (.pair (.int .i64) (.pair (.int .i64) (.int .i64))))), .c false (.v false (.rs 52 (.pair (.int .i64) (.pair (.int .i64) (.int .i64)))))] [.c false (.v true .bool)] fun x => F122 n x.1 x.2.1
noncomputable def tb122 (n : Nat) : Tb := ⟨tiOf Try.prog, conL [(140, con140 n)], n, [], 27, lpL [(0, ⟨[(0, (.c false (.v false (.rs 52 (.pair (.int .i64) (.pair (.int .i64) (.int .i64))))))), (1, (.c false (.v false (.rs 52 (.pair (.int .i64) (.pair (.int .i64) (.int .i64))))))), (5, (.c false (.v true (.int .i64))))], [(.ret, [(4, (.c false (.v true .bool)))]), ((.exit 0), [])], fun m v => L122_0 n m v.1 v.2.1 v.2.2.1⟩)], ctL [], [], true⟩
noncomputable def code122 : Code := Try.f122.body.getD .skip
theorem tb122_ok (n : Nat) : (tb122 n).ok Try.prog := tbOk mixed (⟨con140_ok n, trivial⟩)
theorem lp122_0 (n : Nat) : LpAt (tb122 n) (loopBody code122 0) 0 := lpAt rfl (fun _ => by kernel_rfl) (fun _ _ => by kernel_rfl)
theorem blocks122 : blocks code122 = [(0, .loop (loopBody code122 0)), (1, blockBody code122 1)] := by kernel_rfl
theorem la122 (n : Nat) : LpAll (tb122 n) code122 := lpAll blocks122 (bl_loop (lp122_0 n) (bl_none rfl (bl_nil))) rfl (cs_no fun _ => rfl) (by kernel_rfl)
theorem ev122 (n : Nat) (x : pdens [.c false (.v false (.rs 52 (.pair (.int .i64) (.pair (.int .i64) (.int .i64))))), .c false (.v false (.rs 52 (.pair (.int .i64) (.pair (.int .i64) (.int .i64)))))]) : evSig (tb122 n) Try.f122 [.c false (.v false (.rs 52 (.pair (.int .i64) (.pair (.int .i64) (.int .i64))))), .c false (.v false (.rs 52 (.pair (.int .i64) (.pair (.int .i64) (.int .i64)))))] [.c false (.v true .bool)] x = F122 n x.1 x.2.1 := by kernel_rfl
theorem con122_ok (n : Nat) : Con.ok Try.prog 122 (con122 n) := conOf_ok (tb122_ok n) (body_la (by kernel_rfl : Try.f122.body = some code122) (la122 n)) Try.func122 (enters Try.func122 (by kernel_rfl) (by kernel_rfl)) rfl rfl (ev122 n)
/-! ### loop.example/fathomline/laws.eqDoSS -/
def L87_0 (n : Nat) : Nat → List (List (Int × Int × Int)) → List (List (Int × Int × Int)) → Int → Option (odens [(.ret, [(4, (.c false (.v true .bool)))]), ((.exit 0), [])])
  | 0, _, _, _ => none
  | m + 1, x1, x2, x3 =>
    cond (Decidable.decide (x3 < (↑x1.length : Int)))
    (if (0 : Int) ≤ x3 then
     if x3 < (↑x1.length : Int) then
     if (0 : Int) ≤ x3 then
     if x3 < (↑x2.length : Int) then
     (F122 n (x1.getD x3.toNat []) (x2.getD x3.toNat [])).bind fun y4 =>
     cond (!y4.fst)
     (some (Sum.inl (Bool.false, ())))
     (L87_0 n m (x1) (x2) (Go.IntKind.i64.wrap (x3 + (1 : Int))))
     else none
     else none
     else none
     else none)
    (some (Sum.inr (Sum.inl (()))))
def F87 (n : Nat) (a0 : List (List (Int × Int × Int))) (a1 : List (List (Int × Int × Int))) : Option (rdens [.c false (.v false (.rs 50 (.rs 52 (.pair (.int .i64) (.pair (.int .i64) (.int .i64)))))), .c false (.v false (.rs 50 (.rs 52 (.pair (.int .i64) (.pair (.int .i64) (.int .i64))))))] [.c false (.v true .bool)]) :=
  cond ((↑a0.length : Int) != (↑a1.length : Int))
  (some (Bool.false, ()))
  (match L87_0 n n (a0) (a1) ((0 : Int)) with
   | none => none
   | some (Sum.inl v5) =>
    some (v5.fst, ())
   | some (Sum.inr (Sum.inl v6)) =>
    some (Bool.true, ()))
noncomputable def con87 (n : Nat) : Con := conOf [.c false (.v false (.rs 50 (.rs 52 (.pair (.int .i64) (.pair (.int .i64) (.int .i64)))))), .c false (.v false (.rs 50 (.rs 52 (.pair (.int .i64) (.pair (.int .i64) (.int .i64))))))] [.c false (.v true .bool)] fun x => F87 n x.1 x.2.1
noncomputable def tb87 (n : Nat) : Tb := ⟨tiOf Try.prog, conL [(122, con122 n)], n, [], 27, lpL [(0, ⟨[(0, (.c false (.v false (.rs 50 (.rs 52 (.pair (.int .i64) (.pair (.int .i64) (.int .i64)))))))), (1, (.c false (.v false (.rs 50 (.rs 52 (.pair (.int .i64) (.pair (.int .i64) (.int .i64)))))))), (5, (.c false (.v true (.int .i64))))], [(.ret, [(4, (.c false (.v true .bool)))]), ((.exit 0), [])], fun m v => L87_0 n m v.1 v.2.1 v.2.2.1⟩)], ctL [], [], true⟩
noncomputable def code87 : Code := Try.f87.body.getD .skip
theorem tb87_ok (n : Nat) : (tb87 n).ok Try.prog := tbOk mixed (⟨con122_ok n, trivial⟩)
theorem lp87_0 (n : Nat) : LpAt (tb87 n) (loopBody code87 0) 0 := lpAt rfl (fun _ => by kernel_rfl) (fun _ _ => by kernel_rfl)
theorem blocks87 : blocks code87 = [(0, .loop (loopBody code87 0)), (1, blockBody code87 1)] := by kernel_rfl
theorem la87 (n : Nat) : LpAll (tb87 n) code87 := lpAll blocks87 (bl_loop (lp87_0 n) (bl_none rfl (bl_nil))) rfl (cs_no fun _ => rfl) (by kernel_rfl)
theorem ev87 (n : Nat) (x : pdens [.c false (.v false (.rs 50 (.rs 52 (.pair (.int .i64) (.pair (.int .i64) (.int .i64)))))), .c false (.v false (.rs 50 (.rs 52 (.pair (.int .i64) (.pair (.int .i64) (.int .i64))))))]) : evSig (tb87 n) Try.f87 [.c false (.v false (.rs 50 (.rs 52 (.pair (.int .i64) (.pair (.int .i64) (.int .i64)))))), .c false (.v false (.rs 50 (.rs 52 (.pair (.int .i64) (.pair (.int .i64) (.int .i64))))))] [.c false (.v true .bool)] x = F87 n x.1 x.2.1 := by kernel_rfl
theorem con87_ok (n : Nat) : Con.ok Try.prog 87 (con87 n) := conOf_ok (tb87_ok n) (body_la (by kernel_rfl : Try.f87.body = some code87) (la87 n)) Try.func87 (enters Try.func87 (by kernel_rfl) (by kernel_rfl)) rfl rfl (ev87 n)
/-! ### loop.example/fathomline/laws.eqProg -/
def F38 (n : Nat) (a0 : List (List (Int × Int × Int))) (a1 : List (List (Int × Int × Int))) : Option (rdens [.c true (.v false (.rs 50 (.rs 52 (.pair (.int .i64) (.pair (.int .i64) (.int .i64)))))), .c true (.v false (.rs 50 (.rs 52 (.pair (.int .i64) (.pair (.int .i64) (.int .i64))))))] [.c false (.v true .bool)]) :=
  (F87 n (a0) (a1)).bind fun y1 =>
  cond (!y1.fst)
  (some (Bool.false, ()))
  (some (Bool.true, ()))
noncomputable def con38 (n : Nat) : Con := conOf [.c true (.v false (.rs 50 (.rs 52 (.pair (.int .i64) (.pair (.int .i64) (.int .i64)))))), .c true (.v false (.rs 50 (.rs 52 (.pair (.int .i64) (.pair (.int .i64) (.int .i64))))))] [.c false (.v true .bool)] fun x => F38 n x.1 x.2.1
noncomputable def tb38 (n : Nat) : Tb := ⟨tiOf Try.prog, conL [(87, con87 n)], n, [], 11, lpL [], ctL [], [], true⟩
noncomputable def code38 : Code := Try.f38.body.getD .skip
theorem tb38_ok (n : Nat) : (tb38 n).ok Try.prog := tbOk mixed (⟨con87_ok n, trivial⟩)
theorem blocks38 : blocks code38 = [] := by kernel_rfl
theorem la38 (n : Nat) : LpAll (tb38 n) code38 := lpAll blocks38 (bl_nil) rfl (cs_no fun _ => rfl) (by kernel_rfl)
theorem ev38 (n : Nat) (x : pdens [.c true (.v false (.rs 50 (.rs 52 (.pair (.int .i64) (.pair (.int .i64) (.int .i64)))))), .c true (.v false (.rs 50 (.rs 52 (.pair (.int .i64) (.pair (.int .i64) (.int .i64))))))]) : evSig (tb38 n) Try.f38 [.c true (.v false (.rs 50 (.rs 52 (.pair (.int .i64) (.pair (.int .i64) (.int .i64)))))), .c true (.v false (.rs 50 (.rs 52 (.pair (.int .i64) (.pair (.int .i64) (.int .i64))))))] [.c false (.v true .bool)] x = F38 n x.1 x.2.1 := by kernel_rfl
theorem con38_ok (n : Nat) : Con.ok Try.prog 38 (con38 n) := conOf_ok (tb38_ok n) (body_la (by kernel_rfl : Try.f38.body = some code38) (la38 n)) Try.func38 (enters Try.func38 (by kernel_rfl) (by kernel_rfl)) rfl rfl (ev38 n)
end Go.Proofs.Ytaehbfaldofmbaa.Ev
