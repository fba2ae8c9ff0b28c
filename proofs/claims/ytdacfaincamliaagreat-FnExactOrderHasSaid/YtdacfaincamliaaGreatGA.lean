/- Plain functions that the loaded code comes to, and that it does. Conditions: none. -/
import Derived.Test.YtdacfaincamliaaGreatGM
namespace Go.Proofs.YtdacfaincamliaaGreat.Ev
open Go Go.Proofs
/-! ### loop.example/fathomline/laws.szDoS -/
def F32 (n : Nat) (a0 : List (Int × Int × Int)) (a1 : Int) : Option (rdens [.c false (.v false (.rs 89 (.pair (.int .i64) (.pair (.int .i64) (.int .i64))))), .c false (.v true (.int .i64))] [.c false (.v true (.int .i64))]) :=
  cond (Decidable.decide (Go.IntKind.i64.wrap (a1 - (↑a0.length : Int)) < (0 : Int)))
  (some ((-1 : Int), ()))
  (some (Go.IntKind.i64.wrap (a1 - (↑a0.length : Int)), ()))
noncomputable def con32 (n : Nat) : Con := conOf [.c false (.v false (.rs 89 (.pair (.int .i64) (.pair (.int .i64) (.int .i64))))), .c false (.v true (.int .i64))] [.c false (.v true (.int .i64))] fun x => F32 n x.1 x.2.1
noncomputable def tb32 (n : Nat) : Tb := ⟨tiOf Tryz.prog, conL [], n, [], 12, lpL [], ctL [], [], true⟩
noncomputable def code32 : Code := Tryz.f32.body.getD .skip
theorem tb32_ok (n : Nat) : (tb32 n).ok Tryz.prog := tbOk mixed (trivial)
theorem blocks32 : blocks code32 = [] := by kernel_rfl
theorem la32 (n : Nat) : LpAll (tb32 n) code32 := lpAll blocks32 (bl_nil) rfl (cs_no fun _ => rfl) (by kernel_rfl)
theorem ev32 (n : Nat) (x : pdens [.c false (.v false (.rs 89 (.pair (.int .i64) (.pair (.int .i64) (.int .i64))))), .c false (.v true (.int .i64))]) : evSig (tb32 n) Tryz.f32 [.c false (.v false (.rs 89 (.pair (.int .i64) (.pair (.int .i64) (.int .i64))))), .c false (.v true (.int .i64))] [.c false (.v true (.int .i64))] x = F32 n x.1 x.2.1 := by kernel_rfl
theorem con32_ok (n : Nat) : Con.ok Tryz.prog 32 (con32 n) := conOf_ok (tb32_ok n) (body_la (by kernel_rfl : Tryz.f32.body = some code32) (la32 n)) Tryz.func32 (enters Tryz.func32 (by kernel_rfl) (by kernel_rfl)) rfl rfl (ev32 n)
/-! ### loop.example/fathomline/laws.szDoSS -/
def L12_0 (n : Nat) : Nat → List (List (Int × Int × Int)) → Int → Int → Option (odens [(.ret, [(4, (.c false (.v true (.int .i64))))]), ((.exit 0), [(1, (.c false (.v true (.int .i64))))])])
  | 0, _, _, _ => none
  | m + 1, x1, x2, x3 =>
    cond (Decidable.decide (x3 < (↑x1.length : Int)))
    (if (0 : Int) ≤ x3 then
     if x3 < (↑x1.length : Int) then
     (F32 n (x1.getD x3.toNat []) (x2)).bind fun y4 =>
     cond (Decidable.decide (y4.fst < (0 : Int)))
     (some (Sum.inl ((-1 : Int), ())))
     (L12_0 n m (x1) (y4.fst) (Go.IntKind.i64.wrap (x3 + (1 : Int))))
     else none
     else none)
    (some (Sum.inr (Sum.inl (x2, ()))))
def F12 (n : Nat) (a0 : List (List (Int × Int × Int))) (a1 : Int) : Option (rdens [.c false (.v false (.rs 66 (.rs 89 (.pair (.int .i64) (.pair (.int .i64) (.int .i64)))))), .c false (.v true (.int .i64))] [.c false (.v true (.int .i64))]) :=
  cond (Decidable.decide (Go.IntKind.i64.wrap (a1 - (↑a0.length : Int)) < (0 : Int)))
  (some ((-1 : Int), ()))
  (match L12_0 n n (a0) (Go.IntKind.i64.wrap (a1 - (↑a0.length : Int))) ((0 : Int)) with
   | none => none
   | some (Sum.inl v5) =>
    some (v5.fst, ())
   | some (Sum.inr (Sum.inl v6)) =>
    some (v6.fst, ()))
noncomputable def con12 (n : Nat) : Con := conOf [.c false (.v false (.rs 66 (.rs 89 (.pair (.int .i64) (.pair (.int .i64) (.int .i64)))))), .c false (.v true (.int .i64))] [.c false (.v true (.int .i64))] fun x => F12 n x.1 x.2.1
noncomputable def tb12 (n : Nat) : Tb := ⟨tiOf Tryz.prog, conL [(32, con32 n)], n, [], 27, lpL [(0, ⟨[(0, (.c false (.v false (.rs 66 (.rs 89 (.pair (.int .i64) (.pair (.int .i64) (.int .i64)))))))), (1, (.c false (.v true (.int .i64)))), (5, (.c false (.v true (.int .i64))))], [(.ret, [(4, (.c false (.v true (.int .i64))))]), ((.exit 0), [(1, (.c false (.v true (.int .i64))))])], fun m v => L12_0 n m v.1 v.2.1 v.2.2.1⟩)], ctL [], [], true⟩
noncomputable def code12 : Code := Tryz.f12.body.getD .skip
theorem tb12_ok (n : Nat) : (tb12 n).ok Tryz.prog := tbOk mixed (⟨con32_ok n, trivial⟩)
theorem lp12_0 (n : Nat) : LpAt (tb12 n) (loopBody code12 0) 0 := lpAt rfl (fun _ => by kernel_rfl) (fun _ _ => by kernel_rfl)
theorem blocks12 : blocks code12 = [(0, .loop (loopBody code12 0)), (1, blockBody code12 1)] := by kernel_rfl
theorem la12 (n : Nat) : LpAll (tb12 n) code12 := lpAll blocks12 (bl_loop (lp12_0 n) (bl_none rfl (bl_nil))) rfl (cs_no fun _ => rfl) (by kernel_rfl)
theorem ev12 (n : Nat) (x : pdens [.c false (.v false (.rs 66 (.rs 89 (.pair (.int .i64) (.pair (.int .i64) (.int .i64)))))), .c false (.v true (.int .i64))]) : evSig (tb12 n) Tryz.f12 [.c false (.v false (.rs 66 (.rs 89 (.pair (.int .i64) (.pair (.int .i64) (.int .i64)))))), .c false (.v true (.int .i64))] [.c false (.v true (.int .i64))] x = F12 n x.1 x.2.1 := by kernel_rfl
theorem con12_ok (n : Nat) : Con.ok Tryz.prog 12 (con12 n) := conOf_ok (tb12_ok n) (body_la (by kernel_rfl : Tryz.f12.body = some code12) (la12 n)) Tryz.func12 (enters Tryz.func12 (by kernel_rfl) (by kernel_rfl)) rfl rfl (ev12 n)
/-! ### loop.example/fathomline/laws.szProg -/
def F4 (n : Nat) (a0 : List (List (Int × Int × Int))) (a1 : Int) : Option (rdens [.c true (.v false (.rs 66 (.rs 89 (.pair (.int .i64) (.pair (.int .i64) (.int .i64)))))), .c false (.v true (.int .i64))] [.c false (.v true (.int .i64))]) :=
  (F12 n (a0) (a1)).bind fun y1 =>
  cond (Decidable.decide (y1.fst < (0 : Int)))
  (some ((-1 : Int), ()))
  (some (y1.fst, ()))
noncomputable def con4 (n : Nat) : Con := conOf [.c true (.v false (.rs 66 (.rs 89 (.pair (.int .i64) (.pair (.int .i64) (.int .i64)))))), .c false (.v true (.int .i64))] [.c false (.v true (.int .i64))] fun x => F4 n x.1 x.2.1
noncomputable def tb4 (n : Nat) : Tb := ⟨tiOf Tryz.prog, conL [(12, con12 n)], n, [], 12, lpL [], ctL [], [], true⟩
noncomputable def code4 : Code := Tryz.f4.body.getD .skip
theorem tb4_ok (n : Nat) : (tb4 n).ok Tryz.prog := tbOk mixed (⟨con12_ok n, trivial⟩)
theorem blocks4 : blocks code4 = [] := by kernel_rfl
theorem la4 (n : Nat) : LpAll (tb4 n) code4 := lpAll blocks4 (bl_nil) rfl (cs_no fun _ => rfl) (by kernel_rfl)
theorem ev4 (n : Nat) (x : pdens [.c true (.v false (.rs 66 (.rs 89 (.pair (.int .i64) (.pair (.int .i64) (.int .i64)))))), .c false (.v true (.int .i64))]) : evSig (tb4 n) Tryz.f4 [.c true (.v false (.rs 66 (.rs 89 (.pair (.int .i64) (.pair (.int .i64) (.int .i64)))))), .c false (.v true (.int .i64))] [.c false (.v true (.int .i64))] x = F4 n x.1 x.2.1 := by kernel_rfl
theorem con4_ok (n : Nat) : Con.ok Tryz.prog 4 (con4 n) := conOf_ok (tb4_ok n) (body_la (by kernel_rfl : Tryz.f4.body = some code4) (la4 n)) Tryz.func4 (enters Tryz.func4 (by kernel_rfl) (by kernel_rfl)) rfl rfl (ev4 n)
/-! ### loop.example/fathomline/laws.toDo -/
def F64 (n : Nat) (a0 : Int × Int × Int) : Option (rdens [.c true (.v true (.pair (.int .i64) (.pair (.int .i64) (.int .i64))))] [.c true (.v true (.pair (.int .i64) (.pair (.int .i64) (.int .i64))))]) :=
  some ((a0.fst, a0.snd.fst, a0.snd.snd), ())
noncomputable def con64 (n : Nat) : Con := conOf [.c true (.v true (.pair (.int .i64) (.pair (.int .i64) (.int .i64))))] [.c true (.v true (.pair (.int .i64) (.pair (.int .i64) (.int .i64))))] fun x => F64 n x.1
noncomputable def tb64 (n : Nat) : Tb := ⟨tiOf Tryz.prog, conL [], n, [], 14, lpL [], ctL [], [], true⟩
noncomputable def code64 : Code := Tryz.f64.body.getD .skip
theorem tb64_ok (n : Nat) : (tb64 n).ok Tryz.prog := tbOk mixed (trivial)
theorem blocks64 : blocks code64 = [] := by kernel_rfl
theorem la64 (n : Nat) : LpAll (tb64 n) code64 := lpAll blocks64 (bl_nil) rfl (cs_no fun _ => rfl) (by kernel_rfl)
theorem ev64 (n : Nat) (x : pdens [.c true (.v true (.pair (.int .i64) (.pair (.int .i64) (.int .i64))))]) : evSig (tb64 n) Tryz.f64 [.c true (.v true (.pair (.int .i64) (.pair (.int .i64) (.int .i64))))] [.c true (.v true (.pair (.int .i64) (.pair (.int .i64) (.int .i64))))] x = F64 n x.1 := by kernel_rfl
theorem con64_ok (n : Nat) : Con.ok Tryz.prog 64 (con64 n) := conOf_ok (tb64_ok n) (body_la (by kernel_rfl : Tryz.f64.body = some code64) (la64 n)) Tryz.func64 (enters Tryz.func64 (by kernel_rfl) (by kernel_rfl)) rfl rfl (ev64 n)
/-! ### loop.example/fathomline/laws.toDoS -/
def L46_0 (n : Nat) : Nat → List (Int × Int × Int) → List (Int × Int × Int) → Int → Option (odens [((.exit 0), [(3, (.c false (.r 72 (.pair (.int .i64) (.pair (.int .i64) (.int .i64))))))])])
  | 0, _, _, _ => none
  | m + 1, x1, x2, x3 =>
    cond (Decidable.decide (x3 < (↑x1.length : Int)))
    (if (0 : Int) ≤ x3 then
     if x3 < (↑x1.length : Int) then
     (F64 n (((x1.getD x3.toNat ((0 : Int), (0 : Int), (0 : Int))).fst, (x1.getD x3.toNat ((0 : Int), (0 : Int), (0 : Int))).snd.fst, (x1.getD x3.toNat ((0 : Int), (0 : Int), (0 : Int))).snd.snd))).bind fun y4 =>
     if (0 : Int) ≤ x3 then
     if x3 < (↑x2.length : Int) then
     if x3.toNat < x2.length then
     L46_0 n m (x1) (x2.set x3.toNat (y4.fst.fst, y4.fst.snd.fst, y4.fst.snd.snd)) (Go.IntKind.i64.wrap (x3 + (1 : Int)))
     else none
     else none
     else none
     else none
     else none)
    (some (Sum.inl (x2, ())))
def F46 (n : Nat) (a0 : List (Int × Int × Int)) : Option (rdens [.c false (.v false (.rs 89 (.pair (.int .i64) (.pair (.int .i64) (.int .i64)))))] [.c false (.r 72 (.pair (.int .i64) (.pair (.int .i64) (.int .i64))))]) :=
  if (↑a0.length : Int) = (↑a0.length : Int) then
  if (↑a0.length : Int).toNat * (24 : Nat) ≤ (140737488355328 : Nat) then
  match L46_0 n n (a0) (List.replicate (↑a0.length : Int).toNat ((0 : Int), (0 : Int), (0 : Int))) ((0 : Int)) with
  | none => none
  | some (Sum.inl v5) =>
   some (v5.fst, ())
  else none
  else none
noncomputable def con46 (n : Nat) : Con := conOf [.c false (.v false (.rs 89 (.pair (.int .i64) (.pair (.int .i64) (.int .i64)))))] [.c false (.r 72 (.pair (.int .i64) (.pair (.int .i64) (.int .i64))))] fun x => F46 n x.1
noncomputable def tb46 (n : Nat) : Tb := ⟨tiOf Tryz.prog, conL [(64, con64 n)], n, [], 23, lpL [(0, ⟨[(0, (.c false (.v false (.rs 89 (.pair (.int .i64) (.pair (.int .i64) (.int .i64))))))), (3, (.c false (.r 72 (.pair (.int .i64) (.pair (.int .i64) (.int .i64)))))), (4, (.c false (.v true (.int .i64))))], [((.exit 0), [(3, (.c false (.r 72 (.pair (.int .i64) (.pair (.int .i64) (.int .i64))))))])], fun m v => L46_0 n m v.1 v.2.1 v.2.2.1⟩)], ctL [], [], true⟩
noncomputable def code46 : Code := Tryz.f46.body.getD .skip
theorem tb46_ok (n : Nat) : (tb46 n).ok Tryz.prog := tbOk mixed (⟨con64_ok n, trivial⟩)
theorem lp46_0 (n : Nat) : LpAt (tb46 n) (loopBody code46 0) 0 := lpAt rfl (fun _ => by kernel_rfl) (fun _ _ => by kernel_rfl)
theorem blocks46 : blocks code46 = [(0, .loop (loopBody code46 0)), (1, blockBody code46 1)] := by kernel_rfl
theorem la46 (n : Nat) : LpAll (tb46 n) code46 := lpAll blocks46 (bl_loop (lp46_0 n) (bl_none rfl (bl_nil))) rfl (cs_no fun _ => rfl) (by kernel_rfl)
theorem ev46 (n : Nat) (x : pdens [.c false (.v false (.rs 89 (.pair (.int .i64) (.pair (.int .i64) (.int .i64)))))]) : evSig (tb46 n) Tryz.f46 [.c false (.v false (.rs 89 (.pair (.int .i64) (.pair (.int .i64) (.int .i64)))))] [.c false (.r 72 (.pair (.int .i64) (.pair (.int .i64) (.int .i64))))] x = F46 n x.1 := by kernel_rfl
theorem con46_ok (n : Nat) : Con.ok Tryz.prog 46 (con46 n) := conOf_ok (tb46_ok n) (body_la (by kernel_rfl : Tryz.f46.body = some code46) (la46 n)) Tryz.func46 (enters Tryz.func46 (by kernel_rfl) (by kernel_rfl)) rfl rfl (ev46 n)
/-! ### loop.example/fathomline/laws.toDoSS -/
def L21_0 (n : Nat) : Nat → List (List (Int × Int × Int)) → List (List (Int × Int × Int)) → Int → Option (odens [((.exit 0), [(3, (.c false (.o (.rs 57 (.rs 72 (.pair (.int .i64) (.pair (.int .i64) (.int .i64))))))))])])
  | 0, _, _, _ => none
  | m + 1, x1, x2, x3 =>
    cond (Decidable.decide (x3 < (↑x1.length : Int)))
    (if (0 : Int) ≤ x3 then
     if x3 < (↑x1.length : Int) then
     (F46 n (x1.getD x3.toNat [])).bind fun y4 =>
     if (0 : Int) ≤ x3 then
     if x3 < (↑x2.length : Int) then
     if x3.toNat < x2.length then
     if (List.take x3.toNat x2).length = x3.toNat then
     L21_0 n m (x1) (List.take x3.toNat x2 ++ y4.fst :: List.drop (x3.toNat + (1 : Nat)) x2) (Go.IntKind.i64.wrap (x3 + (1 : Int)))
     else none
     else none
     else none
     else none
     else none
     else none)
    (some (Sum.inl (x2, ())))
def F21 (n : Nat) (a0 : List (List (Int × Int × Int))) : Option (rdens [.c false (.v false (.rs 66 (.rs 89 (.pair (.int .i64) (.pair (.int .i64) (.int .i64))))))] [.c false (.o (.rs 57 (.rs 72 (.pair (.int .i64) (.pair (.int .i64) (.int .i64))))))]) :=
  if (↑a0.length : Int) = (↑a0.length : Int) then
  if (↑a0.length : Int).toNat * (24 : Nat) ≤ (140737488355328 : Nat) then
  match L21_0 n n (a0) (List.replicate (↑a0.length : Int).toNat []) ((0 : Int)) with
  | none => none
  | some (Sum.inl v5) =>
   some (v5.fst, ())
  else none
  else none
noncomputable def con21 (n : Nat) : Con := conOf [.c false (.v false (.rs 66 (.rs 89 (.pair (.int .i64) (.pair (.int .i64) (.int .i64))))))] [.c false (.o (.rs 57 (.rs 72 (.pair (.int .i64) (.pair (.int .i64) (.int .i64))))))] fun x => F21 n x.1
noncomputable def tb21 (n : Nat) : Tb := ⟨tiOf Tryz.prog, conL [(46, con46 n)], n, [], 23, lpL [(0, ⟨[(0, (.c false (.v false (.rs 66 (.rs 89 (.pair (.int .i64) (.pair (.int .i64) (.int .i64)))))))), (3, (.c false (.o (.rs 57 (.rs 72 (.pair (.int .i64) (.pair (.int .i64) (.int .i64)))))))), (4, (.c false (.v true (.int .i64))))], [((.exit 0), [(3, (.c false (.o (.rs 57 (.rs 72 (.pair (.int .i64) (.pair (.int .i64) (.int .i64))))))))])], fun m v => L21_0 n m v.1 v.2.1 v.2.2.1⟩)], ctL [], [], true⟩
noncomputable def code21 : Code := Tryz.f21.body.getD .skip
theorem tb21_ok (n : Nat) : (tb21 n).ok Tryz.prog := tbOk mixed (⟨con46_ok n, trivial⟩)
theorem lp21_0 (n : Nat) : LpAt (tb21 n) (loopBody code21 0) 0 := lpAt rfl (fun _ => by kernel_rfl) (fun _ _ => by kernel_rfl)
theorem blocks21 : blocks code21 = [(0, .loop (loopBody code21 0)), (1, blockBody code21 1)] := by kernel_rfl
theorem la21 (n : Nat) : LpAll (tb21 n) code21 := lpAll blocks21 (bl_loop (lp21_0 n) (bl_none rfl (bl_nil))) rfl (cs_no fun _ => rfl) (by kernel_rfl)
theorem ev21 (n : Nat) (x : pdens [.c false (.v false (.rs 66 (.rs 89 (.pair (.int .i64) (.pair (.int .i64) (.int .i64))))))]) : evSig (tb21 n) Tryz.f21 [.c false (.v false (.rs 66 (.rs 89 (.pair (.int .i64) (.pair (.int .i64) (.int .i64))))))] [.c false (.o (.rs 57 (.rs 72 (.pair (.int .i64) (.pair (.int .i64) (.int .i64))))))] x = F21 n x.1 := by kernel_rfl
theorem con21_ok (n : Nat) : Con.ok Tryz.prog 21 (con21 n) := conOf_ok (tb21_ok n) (body_la (by kernel_rfl : Tryz.f21.body = some code21) (la21 n)) Tryz.func21 (enters Tryz.func21 (by kernel_rfl) (by kernel_rfl)) rfl rfl (ev21 n)
/-! ### loop.example/fathomline/laws.toProg -/
def F7 (n : Nat) (a0 : List (List (Int × Int × Int))) : Option (rdens [.c true (.v false (.rs 66 (.rs 89 (.pair (.int .i64) (.pair (.int .i64) (.int .i64))))))] [.c true (.o (.rs 57 (.rs 72 (.pair (.int .i64) (.pair (.int .i64) (.int .i64))))))]) :=
  (F21 n (a0)).bind fun y1 =>
  some (y1.fst, ())
noncomputable def con7 (n : Nat) : Con := conOf [.c true (.v false (.rs 66 (.rs 89 (.pair (.int .i64) (.pair (.int .i64) (.int .i64))))))] [.c true (.o (.rs 57 (.rs 72 (.pair (.int .i64) (.pair (.int .i64) (.int .i64))))))] fun x => F7 n x.1
noncomputable def tb7 (n : Nat) : Tb := ⟨tiOf Tryz.prog, conL [(21, con21 n)], n, [], 9, lpL [], ctL [], [], true⟩
noncomputable def code7 : Code := Tryz.f7.body.getD .skip
theorem tb7_ok (n : Nat) : (tb7 n).ok Tryz.prog := tbOk mixed (⟨con21_ok n, trivial⟩)
theorem blocks7 : blocks code7 = [] := by kernel_rfl
theorem la7 (n : Nat) : LpAll (tb7 n) code7 := lpAll blocks7 (bl_nil) rfl (cs_no fun _ => rfl) (by kernel_rfl)
theorem ev7 (n : Nat) (x : pdens [.c true (.v false (.rs 66 (.rs 89 (.pair (.int .i64) (.pair (.int .i64) (.int .i64))))))]) : evSig (tb7 n) Tryz.f7 [.c true (.v false (.rs 66 (.rs 89 (.pair (.int .i64) (.pair (.int .i64) (.int .i64))))))] [.c true (.o (.rs 57 (.rs 72 (.pair (.int .i64) (.pair (.int .i64) (.int .i64))))))] x = F7 n x.1 := by kernel_rfl
theorem con7_ok (n : Nat) : Con.ok Tryz.prog 7 (con7 n) := conOf_ok (tb7_ok n) (body_la (by kernel_rfl : Tryz.f7.body = some code7) (la7 n)) Tryz.func7 (enters Tryz.func7 (by kernel_rfl) (by kernel_rfl)) rfl rfl (ev7 n)
/-! ### loop.example/fathomline/spec.l1Reads -/
def F37 (n : Nat) (a0 : Int × Int × Int) : Option (rdens [.c true (.v true (.pair (.int .i64) (.pair (.int .i64) (.int .i64))))] [.c false (.v true .bool)]) :=
  cond (a0.fst == (2 : Int))
  (some (Bool.true, ()))
  (some (a0.fst == (5 : Int), ()))
noncomputable def con37 (n : Nat) : Con := conOf [.c true (.v true (.pair (.int .i64) (.pair (.int .i64) (.int .i64))))] [.c false (.v true .bool)] fun x => F37 n x.1
noncomputable def tb37 (n : Nat) : Tb := ⟨tiOf Tryz.prog, conL [], n, [], 11, lpL [], ctL [], [], true⟩
noncomputable def code37 : Code := Tryz.f37.body.getD .skip
theorem tb37_ok (n : Nat) : (tb37 n).ok Tryz.prog := tbOk mixed (trivial)
theorem blocks37 : blocks code37 = [] := by kernel_rfl
theorem la37 (n : Nat) : LpAll (tb37 n) code37 := lpAll blocks37 (bl_nil) rfl (cs_no fun _ => rfl) (by kernel_rfl)
theorem ev37 (n : Nat) (x : pdens [.c true (.v true (.pair (.int .i64) (.pair (.int .i64) (.int .i64))))]) : evSig (tb37 n) Tryz.f37 [.c true (.v true (.pair (.int .i64) (.pair (.int .i64) (.int .i64))))] [.c false (.v true .bool)] x = F37 n x.1 := by kernel_rfl
theorem con37_ok (n : Nat) : Con.ok Tryz.prog 37 (con37 n) := conOf_ok (tb37_ok n) (body_la (by kernel_rfl : Tryz.f37.body = some code37) (la37 n)) Tryz.func37 (enters Tryz.func37 (by kernel_rfl) (by kernel_rfl)) rfl rfl (ev37 n)
/-! ### loop.example/fathomline/spec.l1Writes -/
def F39 (n : Nat) (a0 : Int × Int × Int) : Option (rdens [.c true (.v true (.pair (.int .i64) (.pair (.int .i64) (.int .i64))))] [.c false (.v true .bool)]) :=
  cond (a0.fst == (1 : Int))
  (some (Bool.true, ()))
  (cond (a0.fst == (3 : Int))
   (some (Bool.true, ()))
   (some (a0.fst == (6 : Int), ())))
noncomputable def con39 (n : Nat) : Con := conOf [.c true (.v true (.pair (.int .i64) (.pair (.int .i64) (.int .i64))))] [.c false (.v true .bool)] fun x => F39 n x.1
noncomputable def tb39 (n : Nat) : Tb := ⟨tiOf Tryz.prog, conL [], n, [], 16, lpL [], ctL [], [], true⟩
noncomputable def code39 : Code := Tryz.f39.body.getD .skip
theorem tb39_ok (n : Nat) : (tb39 n).ok Tryz.prog := tbOk mixed (trivial)
theorem blocks39 : blocks code39 = [] := by kernel_rfl
theorem la39 (n : Nat) : LpAll (tb39 n) code39 := lpAll blocks39 (bl_nil) rfl (cs_no fun _ => rfl) (by kernel_rfl)
theorem ev39 (n : Nat) (x : pdens [.c true (.v true (.pair (.int .i64) (.pair (.int .i64) (.int .i64))))]) : evSig (tb39 n) Tryz.f39 [.c true (.v true (.pair (.int .i64) (.pair (.int .i64) (.int .i64))))] [.c false (.v true .bool)] x = F39 n x.1 := by kernel_rfl
theorem con39_ok (n : Nat) : Con.ok Tryz.prog 39 (con39 n) := conOf_ok (tb39_ok n) (body_la (by kernel_rfl : Tryz.f39.body = some code39) (la39 n)) Tryz.func39 (enters Tryz.func39 (by kernel_rfl) (by kernel_rfl)) rfl rfl (ev39 n)
/-! ### loop.example/fathomline/spec.l6In -/
def F16 (n : Nat) (a0 : Int) (a1 : Int) (a2 : Int) : Option (rdens [.c false (.v true (.int .i64)), .c false (.v true (.int .i64)), .c false (.v true (.int .i64))] [.c false (.v true .bool)]) :=
  cond (Decidable.decide (a0 ≥ a1))
  (some (Decidable.decide (a0 ≤ a2), ()))
  (some (Bool.false, ()))
noncomputable def con16 (n : Nat) : Con := conOf [.c false (.v true (.int .i64)), .c false (.v true (.int .i64)), .c false (.v true (.int .i64))] [.c false (.v true .bool)] fun x => F16 n x.1 x.2.1 x.2.2.1
noncomputable def tb16 (n : Nat) : Tb := ⟨tiOf Tryz.prog, conL [], n, [], 15, lpL [], ctL [], [], true⟩
noncomputable def code16 : Code := Tryz.f16.body.getD .skip
theorem tb16_ok (n : Nat) : (tb16 n).ok Tryz.prog := tbOk mixed (trivial)
theorem blocks16 : blocks code16 = [] := by kernel_rfl
theorem la16 (n : Nat) : LpAll (tb16 n) code16 := lpAll blocks16 (bl_nil) rfl (cs_no fun _ => rfl) (by kernel_rfl)
theorem ev16 (n : Nat) (x : pdens [.c false (.v true (.int .i64)), .c false (.v true (.int .i64)), .c false (.v true (.int .i64))]) : evSig (tb16 n) Tryz.f16 [.c false (.v true (.int .i64)), .c false (.v true (.int .i64)), .c false (.v true (.int .i64))] [.c false (.v true .bool)] x = F16 n x.1 x.2.1 x.2.2.1 := by kernel_rfl
theorem con16_ok (n : Nat) : Con.ok Tryz.prog 16 (con16 n) := conOf_ok (tb16_ok n) (body_la (by kernel_rfl : Tryz.f16.body = some code16) (la16 n)) Tryz.func16 (enters Tryz.func16 (by kernel_rfl) (by kernel_rfl)) rfl rfl (ev16 n)
/-! ### loop.example/fathomline/spec.l1Do -/
def J73_3 (n : Nat) (x4 : (Int × Int × Int) × Unit) (x5 : Bool) (x6 : Bool) : Option (odens [(.ret, [(2, (.c false (.v true .bool)))])]) :=
    (F16 n (x4.fst.fst) ((1 : Int)) ((9 : Int))).bind fun y7 =>
    cond (y7.fst)
    (cond (x6)
     ((F16 n (x4.fst.snd.fst) ((0 : Int)) ((2 : Int))).bind fun y8 =>
      cond (y8.fst)
      (cond (x5)
       ((F16 n (x4.fst.snd.snd) ((1 : Int)) ((3 : Int))).bind fun y9 =>
        cond (y9.fst)
        (some (Sum.inl (Bool.true, ())))
        (cond (!x5)
         (some (Sum.inl (x4.fst.snd.snd == (0 : Int), ())))
         (some (Sum.inl (Bool.false, ())))))
       (cond (!x5)
        (some (Sum.inl (x4.fst.snd.snd == (0 : Int), ())))
        (some (Sum.inl (Bool.false, ())))))
      (cond (!x6)
       (cond (x4.fst.snd.fst == (0 : Int))
        (cond (x5)
         ((F16 n (x4.fst.snd.snd) ((1 : Int)) ((3 : Int))).bind fun y10 =>
          cond (y10.fst)
          (some (Sum.inl (Bool.true, ())))
          (cond (!x5)
           (some (Sum.inl (x4.fst.snd.snd == (0 : Int), ())))
           (some (Sum.inl (Bool.false, ())))))
         (cond (!x5)
          (some (Sum.inl (x4.fst.snd.snd == (0 : Int), ())))
          (some (Sum.inl (Bool.false, ())))))
        (some (Sum.inl (Bool.false, ()))))
       (some (Sum.inl (Bool.false, ())))))
     (cond (!x6)
      (cond (x4.fst.snd.fst == (0 : Int))
       (cond (x5)
        ((F16 n (x4.fst.snd.snd) ((1 : Int)) ((3 : Int))).bind fun y11 =>
         cond (y11.fst)
         (some (Sum.inl (Bool.true, ())))
         (cond (!x5)
          (some (Sum.inl (x4.fst.snd.snd == (0 : Int), ())))
          (some (Sum.inl (Bool.false, ())))))
        (cond (!x5)
         (some (Sum.inl (x4.fst.snd.snd == (0 : Int), ())))
         (some (Sum.inl (Bool.false, ())))))
       (some (Sum.inl (Bool.false, ()))))
      (some (Sum.inl (Bool.false, ())))))
    (some (Sum.inl (Bool.false, ())))
def J73_2 (n : Nat) (x1 : (Int × Int × Int) × Unit) (x2 : Bool) : Option (odens [(.ret, [(2, (.c false (.v true .bool)))])]) :=
    (F37 n ((x1.fst.fst, x1.fst.snd.fst, x1.fst.snd.snd))).bind fun y3 =>
    cond (y3.fst)
    (match J73_3 n (((x1.fst.fst, x1.fst.snd.fst, x1.fst.snd.snd), ())) (x2) (Bool.true) with
     | none => none
     | some (Sum.inl v12) =>
      some (Sum.inl (v12.fst, ())))
    ((F39 n ((x1.fst.fst, x1.fst.snd.fst, x1.fst.snd.snd))).bind fun y13 =>
     match J73_3 n (((x1.fst.fst, x1.fst.snd.fst, x1.fst.snd.snd), ())) (x2) (y13.fst) with
     | none => none
     | some (Sum.inl v14) =>
      some (Sum.inl (v14.fst, ())))
def F73 (n : Nat) (a0 : Int × Int × Int) : Option (rdens [.c true (.v true (.pair (.int .i64) (.pair (.int .i64) (.int .i64))))] [.c false (.v true .bool)]) :=
  cond (a0.fst == (1 : Int))
  (match J73_2 n (((a0.fst, a0.snd.fst, a0.snd.snd), ())) (Bool.true) with
   | none => none
   | some (Sum.inl v15) =>
    some (v15.fst, ()))
  (match J73_2 n (((a0.fst, a0.snd.fst, a0.snd.snd), ())) (a0.fst == (6 : Int)) with
   | none => none
   | some (Sum.inl v16) =>
    some (v16.fst, ()))
noncomputable def con73 (n : Nat) : Con := conOf [.c true (.v true (.pair (.int .i64) (.pair (.int .i64) (.int .i64))))] [.c false (.v true .bool)] fun x => F73 n x.1
noncomputable def tb73 (n : Nat) : Tb := ⟨tiOf Tryz.prog, conL [(37, con37 n), (39, con39 n), (16, con16 n)], n, [], 56, lpL [], ctL [(3, ⟨[(1, (.b 72 [(.v true (.pair (.int .i64) (.pair (.int .i64) (.int .i64))))])), (3, (.c false (.v true .bool))), (4, (.c false (.v true .bool)))], [(.ret, [(2, (.c false (.v true .bool)))])], fun v => J73_3 n v.1 v.2.1 v.2.2.1⟩), (2, ⟨[(1, (.b 72 [(.v true (.pair (.int .i64) (.pair (.int .i64) (.int .i64))))])), (3, (.c false (.v true .bool)))], [(.ret, [(2, (.c false (.v true .bool)))])], fun v => J73_2 n v.1 v.2.1⟩)], [], true⟩
noncomputable def code73 : Code := Tryz.f73.body.getD .skip
theorem tb73_ok (n : Nat) : (tb73 n).ok Tryz.prog := tbOk mixed (⟨con37_ok n, ⟨con39_ok n, ⟨con16_ok n, trivial⟩⟩⟩)
theorem blocks73 : blocks code73 = [] := by kernel_rfl
theorem ct73_2 (n : Nat) : CtOk (tb73 n) (sec code73 1).2 ⟨[(1, (.b 72 [(.v true (.pair (.int .i64) (.pair (.int .i64) (.int .i64))))])), (3, (.c false (.v true .bool)))], [(.ret, [(2, (.c false (.v true .bool)))])], fun v => J73_2 n v.1 v.2.1⟩ := fun _ => by kernel_rfl
theorem ct73_3 (n : Nat) : CtOk (tb73 n) (sec code73 2).2 ⟨[(1, (.b 72 [(.v true (.pair (.int .i64) (.pair (.int .i64) (.int .i64))))])), (3, (.c false (.v true .bool))), (4, (.c false (.v true .bool)))], [(.ret, [(2, (.c false (.v true .bool)))])], fun v => J73_3 n v.1 v.2.1 v.2.2.1⟩ := fun _ => by kernel_rfl
theorem secs73 : seconds code73 = [(some 1, (sec code73 0).2), (some 2, (sec code73 1).2), (some 3, (sec code73 2).2), (none, (sec code73 3).2)] := by kernel_rfl
theorem la73 (n : Nat) : LpAll (tb73 n) code73 := lpAll blocks73 (bl_nil) secs73 (cs_none rfl (cs_one rfl (ct73_2 n) (cs_one rfl (ct73_3 n) (cs_none rfl (cs_nil))))) (by kernel_rfl)
theorem ev73 (n : Nat) (x : pdens [.c true (.v true (.pair (.int .i64) (.pair (.int .i64) (.int .i64))))]) : evSig (tb73 n) Tryz.f73 [.c true (.v true (.pair (.int .i64) (.pair (.int .i64) (.int .i64))))] [.c false (.v true .bool)] x = F73 n x.1 := by kernel_rfl
theorem con73_ok (n : Nat) : Con.ok Tryz.prog 73 (con73 n) := conOf_ok (tb73_ok n) (body_la (by kernel_rfl : Tryz.f73.body = some code73) (la73 n)) Tryz.func73 (enters Tryz.func73 (by kernel_rfl) (by kernel_rfl)) rfl rfl (ev73 n)
/-! ### loop.example/fathomline/spec.l1Thread -/
def J56_12 (n : Nat) (x11 : List (Int × Int × Int)) (x12 : Bool) (x13 : Bool) (x14 : Int) (x15 : (Int × Int × Int) × Unit) : Option (odens [(.normal, [(0, (.c false (.v false (.rs 72 (.pair (.int .i64) (.pair (.int .i64) (.int .i64))))))), (3, (.c false (.v true .bool))), (4, (.c false (.v true .bool))), (5, (.c false (.v true (.int .i64))))])]) :=
    cond (x15.fst.fst == (7 : Int))
    (some (Sum.inl (x11, x12, Bool.true, x14, ())))
    (cond (x15.fst.fst == (8 : Int))
     (some (Sum.inl (x11, x12, Bool.false, x14, ())))
     (some (Sum.inl (x11, x12, x13, x14, ()))))
def J56_11 (n : Nat) (x6 : List (Int × Int × Int)) (x7 : Bool) (x8 : Bool) (x9 : Int) (x10 : (Int × Int × Int) × Unit) : Option (odens [(.normal, [(0, (.c false (.v false (.rs 72 (.pair (.int .i64) (.pair (.int .i64) (.int .i64))))))), (3, (.c false (.v true .bool))), (4, (.c false (.v true .bool))), (5, (.c false (.v true (.int .i64))))])]) :=
    cond (x7)
    (match J56_12 n (x6) (Bool.true) (x8) (x9) (((x10.fst.fst, x10.fst.snd.fst, x10.fst.snd.snd), ())) with
     | none => none
     | some (Sum.inl v16) =>
      some (Sum.inl (v16.fst, v16.snd.fst, v16.snd.snd.fst, v16.snd.snd.snd.fst, ())))
    ((F37 n ((x10.fst.fst, x10.fst.snd.fst, x10.fst.snd.snd))).bind fun y17 =>
     match J56_12 n (x6) (y17.fst) (x8) (x9) (((x10.fst.fst, x10.fst.snd.fst, x10.fst.snd.snd), ())) with
     | none => none
     | some (Sum.inl v18) =>
      some (Sum.inl (v18.fst, v18.snd.fst, v18.snd.snd.fst, v18.snd.snd.snd.fst, ())))
def J56_7 (n : Nat) (x20 : List (Int × Int × Int)) (x21 : Bool) (x22 : Bool) (x23 : Int) : Option (odens [(.normal, [(0, (.c false (.v false (.rs 72 (.pair (.int .i64) (.pair (.int .i64) (.int .i64))))))), (3, (.c false (.v true .bool))), (4, (.c false (.v true .bool))), (5, (.c false (.v true (.int .i64))))])]) :=
    some (Sum.inl (x20, x21, x22, Go.IntKind.i64.wrap (x23 + (1 : Int)), ()))
def L56_0 (n : Nat) : Nat → List (Int × Int × Int) → Bool → Bool → Int → Option (odens [(.ret, [(2, (.c false (.v true .bool)))]), ((.exit 0), [(4, (.c false (.v true .bool)))])])
  | 0, _, _, _, _ => none
  | m + 1, x1, x2, x3, x4 =>
    cond (Decidable.decide (x4 < (↑x1.length : Int)))
    (if (0 : Int) ≤ x4 then
     if x4 < (↑x1.length : Int) then
     (F73 n (((x1.getD x4.toNat ((0 : Int), (0 : Int), (0 : Int))).fst, (x1.getD x4.toNat ((0 : Int), (0 : Int), (0 : Int))).snd.fst, (x1.getD x4.toNat ((0 : Int), (0 : Int), (0 : Int))).snd.snd))).bind fun y5 =>
     cond (!y5.fst)
     (some (Sum.inl (Bool.false, ())))
     (cond ((x1.getD x4.toNat ((0 : Int), (0 : Int), (0 : Int))).fst == (3 : Int))
      (cond (!x2)
       (some (Sum.inl (Bool.false, ())))
       (cond ((x1.getD x4.toNat ((0 : Int), (0 : Int), (0 : Int))).fst == (7 : Int))
        (cond (x3)
         (some (Sum.inl (Bool.false, ())))
         (cond ((x1.getD x4.toNat ((0 : Int), (0 : Int), (0 : Int))).fst == (8 : Int))
          (cond (!x3)
           (some (Sum.inl (Bool.false, ())))
           (cond ((x1.getD x4.toNat ((0 : Int), (0 : Int), (0 : Int))).fst == (9 : Int))
            (cond (x3)
             (some (Sum.inl (Bool.false, ())))
             (match J56_11 n (x1) (x2) (x3) (x4) ((((x1.getD x4.toNat ((0 : Int), (0 : Int), (0 : Int))).fst, (x1.getD x4.toNat ((0 : Int), (0 : Int), (0 : Int))).snd.fst, (x1.getD x4.toNat ((0 : Int), (0 : Int), (0 : Int))).snd.snd), ())) with
              | none => none
              | some (Sum.inl v19) =>
               match J56_7 n (v19.fst) (v19.snd.fst) (v19.snd.snd.fst) (v19.snd.snd.snd.fst) with
               | none => none
               | some (Sum.inl v24) =>
                L56_0 n m (v24.fst) (v24.snd.fst) (v24.snd.snd.fst) (v24.snd.snd.snd.fst)))
            (match J56_11 n (x1) (x2) (x3) (x4) ((((x1.getD x4.toNat ((0 : Int), (0 : Int), (0 : Int))).fst, (x1.getD x4.toNat ((0 : Int), (0 : Int), (0 : Int))).snd.fst, (x1.getD x4.toNat ((0 : Int), (0 : Int), (0 : Int))).snd.snd), ())) with
             | none => none
             | some (Sum.inl v25) =>
              match J56_7 n (v25.fst) (v25.snd.fst) (v25.snd.snd.fst) (v25.snd.snd.snd.fst) with
              | none => none
              | some (Sum.inl v26) =>
               L56_0 n m (v26.fst) (v26.snd.fst) (v26.snd.snd.fst) (v26.snd.snd.snd.fst))))
          (cond ((x1.getD x4.toNat ((0 : Int), (0 : Int), (0 : Int))).fst == (9 : Int))
           (cond (x3)
            (some (Sum.inl (Bool.false, ())))
            (match J56_11 n (x1) (x2) (x3) (x4) ((((x1.getD x4.toNat ((0 : Int), (0 : Int), (0 : Int))).fst, (x1.getD x4.toNat ((0 : Int), (0 : Int), (0 : Int))).snd.fst, (x1.getD x4.toNat ((0 : Int), (0 : Int), (0 : Int))).snd.snd), ())) with
             | none => none
             | some (Sum.inl v27) =>
              match J56_7 n (v27.fst) (v27.snd.fst) (v27.snd.snd.fst) (v27.snd.snd.snd.fst) with
              | none => none
              | some (Sum.inl v28) =>
               L56_0 n m (v28.fst) (v28.snd.fst) (v28.snd.snd.fst) (v28.snd.snd.snd.fst)))
           (match J56_11 n (x1) (x2) (x3) (x4) ((((x1.getD x4.toNat ((0 : Int), (0 : Int), (0 : Int))).fst, (x1.getD x4.toNat ((0 : Int), (0 : Int), (0 : Int))).snd.fst, (x1.getD x4.toNat ((0 : Int), (0 : Int), (0 : Int))).snd.snd), ())) with
            | none => none
            | some (Sum.inl v29) =>
             match J56_7 n (v29.fst) (v29.snd.fst) (v29.snd.snd.fst) (v29.snd.snd.snd.fst) with
             | none => none
             | some (Sum.inl v30) =>
              L56_0 n m (v30.fst) (v30.snd.fst) (v30.snd.snd.fst) (v30.snd.snd.snd.fst)))))
        (cond ((x1.getD x4.toNat ((0 : Int), (0 : Int), (0 : Int))).fst == (8 : Int))
         (cond (!x3)
          (some (Sum.inl (Bool.false, ())))
          (cond ((x1.getD x4.toNat ((0 : Int), (0 : Int), (0 : Int))).fst == (9 : Int))
           (cond (x3)
            (some (Sum.inl (Bool.false, ())))
            (match J56_11 n (x1) (x2) (x3) (x4) ((((x1.getD x4.toNat ((0 : Int), (0 : Int), (0 : Int))).fst, (x1.getD x4.toNat ((0 : Int), (0 : Int), (0 : Int))).snd.fst, (x1.getD x4.toNat ((0 : Int), (0 : Int), (0 : Int))).snd.snd), ())) with
             | none => none
             | some (Sum.inl v31) =>
              match J56_7 n (v31.fst) (v31.snd.fst) (v31.snd.snd.fst) (v31.snd.snd.snd.fst) with
              | none => none
              | some (Sum.inl v32) =>
               L56_0 n m (v32.fst) (v32.snd.fst) (v32.snd.snd.fst) (v32.snd.snd.snd.fst)))
           (match J56_11 n (x1) (x2) (x3) (x4) ((((x1.getD x4.toNat ((0 : Int), (0 : Int), (0 : Int))).fst, (x1.getD x4.toNat ((0 : Int), (0 : Int), (0 : Int))).snd.fst, (x1.getD x4.toNat ((0 : Int), (0 : Int), (0 : Int))).snd.snd), ())) with
            | none => none
            | some (Sum.inl v33) =>
             match J56_7 n (v33.fst) (v33.snd.fst) (v33.snd.snd.fst) (v33.snd.snd.snd.fst) with
             | none => none
             | some (Sum.inl v34) =>
              L56_0 n m (v34.fst) (v34.snd.fst) (v34.snd.snd.fst) (v34.snd.snd.snd.fst))))
         (cond ((x1.getD x4.toNat ((0 : Int), (0 : Int), (0 : Int))).fst == (9 : Int))
          (cond (x3)
           (some (Sum.inl (Bool.false, ())))
           (match J56_11 n (x1) (x2) (x3) (x4) ((((x1.getD x4.toNat ((0 : Int), (0 : Int), (0 : Int))).fst, (x1.getD x4.toNat ((0 : Int), (0 : Int), (0 : Int))).snd.fst, (x1.getD x4.toNat ((0 : Int), (0 : Int), (0 : Int))).snd.snd), ())) with
            | none => none
            | some (Sum.inl v35) =>
             match J56_7 n (v35.fst) (v35.snd.fst) (v35.snd.snd.fst) (v35.snd.snd.snd.fst) with
             | none => none
             | some (Sum.inl v36) =>
              L56_0 n m (v36.fst) (v36.snd.fst) (v36.snd.snd.fst) (v36.snd.snd.snd.fst)))
          (match J56_11 n (x1) (x2) (x3) (x4) ((((x1.getD x4.toNat ((0 : Int), (0 : Int), (0 : Int))).fst, (x1.getD x4.toNat ((0 : Int), (0 : Int), (0 : Int))).snd.fst, (x1.getD x4.toNat ((0 : Int), (0 : Int), (0 : Int))).snd.snd), ())) with
           | none => none
           | some (Sum.inl v37) =>
            match J56_7 n (v37.fst) (v37.snd.fst) (v37.snd.snd.fst) (v37.snd.snd.snd.fst) with
            | none => none
            | some (Sum.inl v38) =>
             L56_0 n m (v38.fst) (v38.snd.fst) (v38.snd.snd.fst) (v38.snd.snd.snd.fst))))))
      (cond ((x1.getD x4.toNat ((0 : Int), (0 : Int), (0 : Int))).fst == (7 : Int))
       (cond (x3)
        (some (Sum.inl (Bool.false, ())))
        (cond ((x1.getD x4.toNat ((0 : Int), (0 : Int), (0 : Int))).fst == (8 : Int))
         (cond (!x3)
          (some (Sum.inl (Bool.false, ())))
          (cond ((x1.getD x4.toNat ((0 : Int), (0 : Int), (0 : Int))).fst == (9 : Int))
           (cond (x3)
            (some (Sum.inl (Bool.false, ())))
            (match J56_11 n (x1) (x2) (x3) (x4) ((((x1.getD x4.toNat ((0 : Int), (0 : Int), (0 : Int))).fst, (x1.getD x4.toNat ((0 : Int), (0 : Int), (0 : Int))).snd.fst, (x1.getD x4.toNat ((0 : Int), (0 : Int), (0 : Int))).snd.snd), ())) with
             | none => none
             | some (Sum.inl v39) =>
              match J56_7 n (v39.fst) (v39.snd.fst) (v39.snd.snd.fst) (v39.snd.snd.snd.fst) with
              | none => none
              | some (Sum.inl v40) =>
               L56_0 n m (v40.fst) (v40.snd.fst) (v40.snd.snd.fst) (v40.snd.snd.snd.fst)))
           (match J56_11 n (x1) (x2) (x3) (x4) ((((x1.getD x4.toNat ((0 : Int), (0 : Int), (0 : Int))).fst, (x1.getD x4.toNat ((0 : Int), (0 : Int), (0 : Int))).snd.fst, (x1.getD x4.toNat ((0 : Int), (0 : Int), (0 : Int))).snd.snd), ())) with
            | none => none
            | some (Sum.inl v41) =>
             match J56_7 n (v41.fst) (v41.snd.fst) (v41.snd.snd.fst) (v41.snd.snd.snd.fst) with
             | none => none
             | some (Sum.inl v42) =>
              L56_0 n m (v42.fst) (v42.snd.fst) (v42.snd.snd.fst) (v42.snd.snd.snd.fst))))
         (cond ((x1.getD x4.toNat ((0 : Int), (0 : Int), (0 : Int))).fst == (9 : Int))
          (cond (x3)
           (some (Sum.inl (Bool.false, ())))
           (match J56_11 n (x1) (x2) (x3) (x4) ((((x1.getD x4.toNat ((0 : Int), (0 : Int), (0 : Int))).fst, (x1.getD x4.toNat ((0 : Int), (0 : Int), (0 : Int))).snd.fst, (x1.getD x4.toNat ((0 : Int), (0 : Int), (0 : Int))).snd.snd), ())) with
            | none => none
            | some (Sum.inl v43) =>
             match J56_7 n (v43.fst) (v43.snd.fst) (v43.snd.snd.fst) (v43.snd.snd.snd.fst) with
             | none => none
             | some (Sum.inl v44) =>
              L56_0 n m (v44.fst) (v44.snd.fst) (v44.snd.snd.fst) (v44.snd.snd.snd.fst)))
          (match J56_11 n (x1) (x2) (x3) (x4) ((((x1.getD x4.toNat ((0 : Int), (0 : Int), (0 : Int))).fst, (x1.getD x4.toNat ((0 : Int), (0 : Int), (0 : Int))).snd.fst, (x1.getD x4.toNat ((0 : Int), (0 : Int), (0 : Int))).snd.snd), ())) with
           | none => none
           | some (Sum.inl v45) =>
            match J56_7 n (v45.fst) (v45.snd.fst) (v45.snd.snd.fst) (v45.snd.snd.snd.fst) with
            | none => none
            | some (Sum.inl v46) =>
             L56_0 n m (v46.fst) (v46.snd.fst) (v46.snd.snd.fst) (v46.snd.snd.snd.fst)))))
       (cond ((x1.getD x4.toNat ((0 : Int), (0 : Int), (0 : Int))).fst == (8 : Int))
        (cond (!x3)
         (some (Sum.inl (Bool.false, ())))
         (cond ((x1.getD x4.toNat ((0 : Int), (0 : Int), (0 : Int))).fst == (9 : Int))
          (cond (x3)
           (some (Sum.inl (Bool.false, ())))
           (match J56_11 n (x1) (x2) (x3) (x4) ((((x1.getD x4.toNat ((0 : Int), (0 : Int), (0 : Int))).fst, (x1.getD x4.toNat ((0 : Int), (0 : Int), (0 : Int))).snd.fst, (x1.getD x4.toNat ((0 : Int), (0 : Int), (0 : Int))).snd.snd), ())) with
            | none => none
            | some (Sum.inl v47) =>
             match J56_7 n (v47.fst) (v47.snd.fst) (v47.snd.snd.fst) (v47.snd.snd.snd.fst) with
             | none => none
             | some (Sum.inl v48) =>
              L56_0 n m (v48.fst) (v48.snd.fst) (v48.snd.snd.fst) (v48.snd.snd.snd.fst)))
          (match J56_11 n (x1) (x2) (x3) (x4) ((((x1.getD x4.toNat ((0 : Int), (0 : Int), (0 : Int))).fst, (x1.getD x4.toNat ((0 : Int), (0 : Int), (0 : Int))).snd.fst, (x1.getD x4.toNat ((0 : Int), (0 : Int), (0 : Int))).snd.snd), ())) with
           | none => none
           | some (Sum.inl v49) =>
            match J56_7 n (v49.fst) (v49.snd.fst) (v49.snd.snd.fst) (v49.snd.snd.snd.fst) with
            | none => none
            | some (Sum.inl v50) =>
             L56_0 n m (v50.fst) (v50.snd.fst) (v50.snd.snd.fst) (v50.snd.snd.snd.fst))))
        (cond ((x1.getD x4.toNat ((0 : Int), (0 : Int), (0 : Int))).fst == (9 : Int))
         (cond (x3)
          (some (Sum.inl (Bool.false, ())))
          (match J56_11 n (x1) (x2) (x3) (x4) ((((x1.getD x4.toNat ((0 : Int), (0 : Int), (0 : Int))).fst, (x1.getD x4.toNat ((0 : Int), (0 : Int), (0 : Int))).snd.fst, (x1.getD x4.toNat ((0 : Int), (0 : Int), (0 : Int))).snd.snd), ())) with
           | none => none
           | some (Sum.inl v51) =>
            match J56_7 n (v51.fst) (v51.snd.fst) (v51.snd.snd.fst) (v51.snd.snd.snd.fst) with
            | none => none
            | some (Sum.inl v52) =>
             L56_0 n m (v52.fst) (v52.snd.fst) (v52.snd.snd.fst) (v52.snd.snd.snd.fst)))
         (match J56_11 n (x1) (x2) (x3) (x4) ((((x1.getD x4.toNat ((0 : Int), (0 : Int), (0 : Int))).fst, (x1.getD x4.toNat ((0 : Int), (0 : Int), (0 : Int))).snd.fst, (x1.getD x4.toNat ((0 : Int), (0 : Int), (0 : Int))).snd.snd), ())) with
          | none => none
          | some (Sum.inl v53) =>
           match J56_7 n (v53.fst) (v53.snd.fst) (v53.snd.snd.fst) (v53.snd.snd.snd.fst) with
           | none => none
           | some (Sum.inl v54) =>
            L56_0 n m (v54.fst) (v54.snd.fst) (v54.snd.snd.fst) (v54.snd.snd.snd.fst))))))
     else none
     else none)
    (some (Sum.inr (Sum.inl (x3, ()))))
def F56 (n : Nat) (a0 : List (Int × Int × Int)) : Option (rdens [.c false (.v false (.rs 72 (.pair (.int .i64) (.pair (.int .i64) (.int .i64)))))] [.c false (.v true .bool)]) :=
  cond (Decidable.decide ((↑a0.length : Int) > (7 : Int)))
  (some (Bool.false, ()))
  (match L56_0 n n (a0) (Bool.false) (Bool.false) ((0 : Int)) with
   | none => none
   | some (Sum.inl v55) =>
    some (v55.fst, ())
   | some (Sum.inr (Sum.inl v56)) =>
    some (!v56.fst, ()))
noncomputable def con56 (n : Nat) : Con := conOf [.c false (.v false (.rs 72 (.pair (.int .i64) (.pair (.int .i64) (.int .i64)))))] [.c false (.v true .bool)] fun x => F56 n x.1
noncomputable def tb56 (n : Nat) : Tb := ⟨tiOf Tryz.prog, conL [(73, con73 n), (37, con37 n)], n, [], 70, lpL [(0, ⟨[(0, (.c false (.v false (.rs 72 (.pair (.int .i64) (.pair (.int .i64) (.int .i64))))))), (3, (.c false (.v true .bool))), (4, (.c false (.v true .bool))), (5, (.c false (.v true (.int .i64))))], [(.ret, [(2, (.c false (.v true .bool)))]), ((.exit 0), [(4, (.c false (.v true .bool)))])], fun m v => L56_0 n m v.1 v.2.1 v.2.2.1 v.2.2.2.1⟩)], ctL [(12, ⟨[(0, (.c false (.v false (.rs 72 (.pair (.int .i64) (.pair (.int .i64) (.int .i64))))))), (3, (.c false (.v true .bool))), (4, (.c false (.v true .bool))), (5, (.c false (.v true (.int .i64)))), (6, (.b 72 [(.v true (.pair (.int .i64) (.pair (.int .i64) (.int .i64))))]))], [(.normal, [(0, (.c false (.v false (.rs 72 (.pair (.int .i64) (.pair (.int .i64) (.int .i64))))))), (3, (.c false (.v true .bool))), (4, (.c false (.v true .bool))), (5, (.c false (.v true (.int .i64))))])], fun v => J56_12 n v.1 v.2.1 v.2.2.1 v.2.2.2.1 v.2.2.2.2.1⟩), (11, ⟨[(0, (.c false (.v false (.rs 72 (.pair (.int .i64) (.pair (.int .i64) (.int .i64))))))), (3, (.c false (.v true .bool))), (4, (.c false (.v true .bool))), (5, (.c false (.v true (.int .i64)))), (6, (.b 72 [(.v true (.pair (.int .i64) (.pair (.int .i64) (.int .i64))))]))], [(.normal, [(0, (.c false (.v false (.rs 72 (.pair (.int .i64) (.pair (.int .i64) (.int .i64))))))), (3, (.c false (.v true .bool))), (4, (.c false (.v true .bool))), (5, (.c false (.v true (.int .i64))))])], fun v => J56_11 n v.1 v.2.1 v.2.2.1 v.2.2.2.1 v.2.2.2.2.1⟩), (7, ⟨[(0, (.c false (.v false (.rs 72 (.pair (.int .i64) (.pair (.int .i64) (.int .i64))))))), (3, (.c false (.v true .bool))), (4, (.c false (.v true .bool))), (5, (.c false (.v true (.int .i64))))], [(.normal, [(0, (.c false (.v false (.rs 72 (.pair (.int .i64) (.pair (.int .i64) (.int .i64))))))), (3, (.c false (.v true .bool))), (4, (.c false (.v true .bool))), (5, (.c false (.v true (.int .i64))))])], fun v => J56_7 n v.1 v.2.1 v.2.2.1 v.2.2.2.1⟩)], [], true⟩
noncomputable def code56 : Code := Tryz.f56.body.getD .skip
theorem tb56_ok (n : Nat) : (tb56 n).ok Tryz.prog := tbOk mixed (⟨con73_ok n, ⟨con37_ok n, trivial⟩⟩)
theorem lp56_0 (n : Nat) : LpAt (tb56 n) (loopBody code56 0) 0 := lpAt rfl (fun _ => by kernel_rfl) (fun _ _ => by kernel_rfl)
theorem blocks56 : blocks code56 = [(0, .loop (loopBody code56 0)), (1, blockBody code56 1), (2, blockBody code56 2)] := by kernel_rfl
theorem ct56_7 (n : Nat) : CtOk (tb56 n) (sec code56 10).2 ⟨[(0, (.c false (.v false (.rs 72 (.pair (.int .i64) (.pair (.int .i64) (.int .i64))))))), (3, (.c false (.v true .bool))), (4, (.c false (.v true .bool))), (5, (.c false (.v true (.int .i64))))], [(.normal, [(0, (.c false (.v false (.rs 72 (.pair (.int .i64) (.pair (.int .i64) (.int .i64))))))), (3, (.c false (.v true .bool))), (4, (.c false (.v true .bool))), (5, (.c false (.v true (.int .i64))))])], fun v => J56_7 n v.1 v.2.1 v.2.2.1 v.2.2.2.1⟩ := fun _ => by kernel_rfl
theorem ct56_11 (n : Nat) : CtOk (tb56 n) (sec code56 12).2 ⟨[(0, (.c false (.v false (.rs 72 (.pair (.int .i64) (.pair (.int .i64) (.int .i64))))))), (3, (.c false (.v true .bool))), (4, (.c false (.v true .bool))), (5, (.c false (.v true (.int .i64)))), (6, (.b 72 [(.v true (.pair (.int .i64) (.pair (.int .i64) (.int .i64))))]))], [(.normal, [(0, (.c false (.v false (.rs 72 (.pair (.int .i64) (.pair (.int .i64) (.int .i64))))))), (3, (.c false (.v true .bool))), (4, (.c false (.v true .bool))), (5, (.c false (.v true (.int .i64))))])], fun v => J56_11 n v.1 v.2.1 v.2.2.1 v.2.2.2.1 v.2.2.2.2.1⟩ := fun _ => by kernel_rfl
theorem ct56_12 (n : Nat) : CtOk (tb56 n) (sec code56 15).2 ⟨[(0, (.c false (.v false (.rs 72 (.pair (.int .i64) (.pair (.int .i64) (.int .i64))))))), (3, (.c false (.v true .bool))), (4, (.c false (.v true .bool))), (5, (.c false (.v true (.int .i64)))), (6, (.b 72 [(.v true (.pair (.int .i64) (.pair (.int .i64) (.int .i64))))]))], [(.normal, [(0, (.c false (.v false (.rs 72 (.pair (.int .i64) (.pair (.int .i64) (.int .i64))))))), (3, (.c false (.v true .bool))), (4, (.c false (.v true .bool))), (5, (.c false (.v true (.int .i64))))])], fun v => J56_12 n v.1 v.2.1 v.2.2.1 v.2.2.2.1 v.2.2.2.2.1⟩ := fun _ => by kernel_rfl
theorem secs56 : seconds code56 = [(some 1, (sec code56 0).2), (some 3, (sec code56 1).2), (none, (sec code56 2).2), (none, (sec code56 3).2), (some 4, (sec code56 4).2), (some 5, (sec code56 5).2), (some 17, (sec code56 6).2), (some 6, (sec code56 7).2), (some 8, (sec code56 8).2), (none, (sec code56 9).2), (some 7, (sec code56 10).2), (some 9, (sec code56 11).2), (some 11, (sec code56 12).2), (none, (sec code56 13).2), (none, (sec code56 14).2), (some 12, (sec code56 15).2), (some 13, (sec code56 16).2), (none, (sec code56 17).2), (none, (sec code56 18).2), (none, (sec code56 19).2)] := by kernel_rfl
theorem la56 (n : Nat) : LpAll (tb56 n) code56 := lpAll blocks56 (bl_loop (lp56_0 n) (bl_none rfl (bl_none rfl (bl_nil)))) secs56 (cs_none rfl (cs_none rfl (cs_none rfl (cs_none rfl (cs_none rfl (cs_none rfl (cs_none rfl (cs_none rfl (cs_none rfl (cs_none rfl (cs_one rfl (ct56_7 n) (cs_none rfl (cs_one rfl (ct56_11 n) (cs_none rfl (cs_none rfl (cs_one rfl (ct56_12 n) (cs_none rfl (cs_none rfl (cs_none rfl (cs_none rfl (cs_nil))))))))))))))))))))) (by kernel_rfl)
theorem ev56 (n : Nat) (x : pdens [.c false (.v false (.rs 72 (.pair (.int .i64) (.pair (.int .i64) (.int .i64)))))]) : evSig (tb56 n) Tryz.f56 [.c false (.v false (.rs 72 (.pair (.int .i64) (.pair (.int .i64) (.int .i64)))))] [.c false (.v true .bool)] x = F56 n x.1 := by kernel_rfl
theorem con56_ok (n : Nat) : Con.ok Tryz.prog 56 (con56 n) := conOf_ok (tb56_ok n) (body_la (by kernel_rfl : Tryz.f56.body = some code56) (la56 n)) Tryz.func56 (enters Tryz.func56 (by kernel_rfl) (by kernel_rfl)) rfl rfl (ev56 n)
/-! ### loop.example/fathomline/spec.ProgOk -/
def J33_13 (n : Nat) (x12 : List (List (Int × Int × Int)) × Unit) (x13 : Int) (x14 : Int) (x15 : Int) (x16 : Int) : Option (odens [(.normal, [(1, (.b 34 [(.v false (.rs 57 (.rs 72 (.pair (.int .i64) (.pair (.int .i64) (.int .i64))))))])), (3, (.c false (.v true (.int .i64)))), (4, (.c false (.v true (.int .i64)))), (5, (.c false (.v true (.int .i64)))), (6, (.c false (.v true (.int .i64))))])]) :=
    some (Sum.inl ((x12.fst, ()), x13, x14, x15, Go.IntKind.i64.wrap (x16 + (1 : Int)), ()))
def L33_2 (n : Nat) : Nat → List (List (Int × Int × Int)) × Unit → Int → Int → Int → Int → Option (odens [((.exit 2), [(1, (.b 34 [(.v false (.rs 57 (.rs 72 (.pair (.int .i64) (.pair (.int .i64) (.int .i64))))))])), (3, (.c false (.v true (.int .i64)))), (4, (.c false (.v true (.int .i64)))), (5, (.c false (.v true (.int .i64))))])])
  | 0, _, _, _, _, _ => none
  | m + 1, x6, x7, x8, x9, x10 =>
    if (0 : Int) ≤ x9 then
    if x9 < (↑(List.length x6.fst) : Int) then
    cond (Decidable.decide (x10 < (↑(List.length (List.getD x6.fst x9.toNat [])) : Int)))
    (if (0 : Int) ≤ x9 then
     if x9 < (↑(List.length x6.fst) : Int) then
     if (0 : Int) ≤ x10 then
     if x10 < (↑(List.length (List.getD x6.fst x9.toNat [])) : Int) then
     (F37 n (((List.getD (List.getD x6.fst x9.toNat []) x10.toNat ((0 : Int), (0 : Int), (0 : Int))).fst, (List.getD (List.getD x6.fst x9.toNat []) x10.toNat ((0 : Int), (0 : Int), (0 : Int))).snd.fst, (List.getD (List.getD x6.fst x9.toNat []) x10.toNat ((0 : Int), (0 : Int), (0 : Int))).snd.snd))).bind fun y11 =>
     cond (y11.fst)
     (match J33_13 n ((x6.fst, ())) (x7) (Go.IntKind.i64.wrap (x8 + (1 : Int))) (x9) (x10) with
      | none => none
      | some (Sum.inl v17) =>
       L33_2 n m ((v17.fst.fst, ())) (v17.snd.fst) (v17.snd.snd.fst) (v17.snd.snd.snd.fst) (v17.snd.snd.snd.snd.fst))
     (if (0 : Int) ≤ x9 then
      if x9 < (↑(List.length x6.fst) : Int) then
      if (0 : Int) ≤ x10 then
      if x10 < (↑(List.length (List.getD x6.fst x9.toNat [])) : Int) then
      (F39 n (((List.getD (List.getD x6.fst x9.toNat []) x10.toNat ((0 : Int), (0 : Int), (0 : Int))).fst, (List.getD (List.getD x6.fst x9.toNat []) x10.toNat ((0 : Int), (0 : Int), (0 : Int))).snd.fst, (List.getD (List.getD x6.fst x9.toNat []) x10.toNat ((0 : Int), (0 : Int), (0 : Int))).snd.snd))).bind fun y18 =>
      cond (y18.fst)
      (match J33_13 n ((x6.fst, ())) (x7) (Go.IntKind.i64.wrap (x8 + (1 : Int))) (x9) (x10) with
       | none => none
       | some (Sum.inl v19) =>
        L33_2 n m ((v19.fst.fst, ())) (v19.snd.fst) (v19.snd.snd.fst) (v19.snd.snd.snd.fst) (v19.snd.snd.snd.snd.fst))
      (match J33_13 n ((x6.fst, ())) (x7) (x8) (x9) (x10) with
       | none => none
       | some (Sum.inl v20) =>
        L33_2 n m ((v20.fst.fst, ())) (v20.snd.fst) (v20.snd.snd.fst) (v20.snd.snd.snd.fst) (v20.snd.snd.snd.snd.fst))
      else none
      else none
      else none
      else none)
     else none
     else none
     else none
     else none)
    (some (Sum.inl ((x6.fst, ()), x7, x8, x9, ())))
    else none
    else none
def L33_0 (n : Nat) : Nat → List (List (Int × Int × Int)) × Unit → Int → Int → Int → Option (odens [(.ret, [(2, (.c false (.v true .bool)))]), ((.exit 0), [(3, (.c false (.v true (.int .i64)))), (4, (.c false (.v true (.int .i64))))])])
  | 0, _, _, _, _ => none
  | m + 1, x1, x2, x3, x4 =>
    cond (Decidable.decide (x4 < (↑(List.length x1.fst) : Int)))
    (if (0 : Int) ≤ x4 then
     if x4 < (↑(List.length x1.fst) : Int) then
     (F56 n (List.getD x1.fst x4.toNat [])).bind fun y5 =>
     cond (!y5.fst)
     (some (Sum.inl (Bool.false, ())))
     (if (0 : Int) ≤ x4 then
      if x4 < (↑(List.length x1.fst) : Int) then
      match L33_2 n n ((x1.fst, ())) (Go.IntKind.i64.wrap (x2 + (↑(List.length (List.getD x1.fst x4.toNat [])) : Int))) (x3) (x4) ((0 : Int)) with
      | none => none
      | some (Sum.inl v21) =>
       L33_0 n m ((v21.fst.fst, ())) (v21.snd.fst) (v21.snd.snd.fst) (Go.IntKind.i64.wrap (v21.snd.snd.snd.fst + (1 : Int)))
      else none
      else none)
     else none
     else none)
    (some (Sum.inr (Sum.inl (x2, x3, ()))))
def F33 (n : Nat) (a0 : List (List (Int × Int × Int))) : Option (rdens [.c true (.v false (.rs 57 (.rs 72 (.pair (.int .i64) (.pair (.int .i64) (.int .i64))))))] [.c false (.v true .bool)]) :=
  cond (Decidable.decide ((↑a0.length : Int) > (3 : Int)))
  (some (Bool.false, ()))
  (match L33_0 n n ((a0, ())) ((0 : Int)) ((0 : Int)) ((0 : Int)) with
   | none => none
   | some (Sum.inl v22) =>
    some (v22.fst, ())
   | some (Sum.inr (Sum.inl v23)) =>
    cond (Decidable.decide (v23.fst ≤ (14 : Int)))
    (some (Decidable.decide (v23.snd.fst ≤ (6 : Int)), ()))
    (some (Bool.false, ())))
noncomputable def con33 (n : Nat) : Con := conOf [.c true (.v false (.rs 57 (.rs 72 (.pair (.int .i64) (.pair (.int .i64) (.int .i64))))))] [.c false (.v true .bool)] fun x => F33 n x.1
noncomputable def tb33 (n : Nat) : Tb := ⟨tiOf Tryz.prog, conL [(56, con56 n), (37, con37 n), (39, con39 n)], n, [], 71, lpL [(2, ⟨[(1, (.b 34 [(.v false (.rs 57 (.rs 72 (.pair (.int .i64) (.pair (.int .i64) (.int .i64))))))])), (3, (.c false (.v true (.int .i64)))), (4, (.c false (.v true (.int .i64)))), (5, (.c false (.v true (.int .i64)))), (6, (.c false (.v true (.int .i64))))], [((.exit 2), [(1, (.b 34 [(.v false (.rs 57 (.rs 72 (.pair (.int .i64) (.pair (.int .i64) (.int .i64))))))])), (3, (.c false (.v true (.int .i64)))), (4, (.c false (.v true (.int .i64)))), (5, (.c false (.v true (.int .i64))))])], fun m v => L33_2 n m v.1 v.2.1 v.2.2.1 v.2.2.2.1 v.2.2.2.2.1⟩), (0, ⟨[(1, (.b 34 [(.v false (.rs 57 (.rs 72 (.pair (.int .i64) (.pair (.int .i64) (.int .i64))))))])), (3, (.c false (.v true (.int .i64)))), (4, (.c false (.v true (.int .i64)))), (5, (.c false (.v true (.int .i64))))], [(.ret, [(2, (.c false (.v true .bool)))]), ((.exit 0), [(3, (.c false (.v true (.int .i64)))), (4, (.c false (.v true (.int .i64))))])], fun m v => L33_0 n m v.1 v.2.1 v.2.2.1 v.2.2.2.1⟩)], ctL [(13, ⟨[(1, (.b 34 [(.v false (.rs 57 (.rs 72 (.pair (.int .i64) (.pair (.int .i64) (.int .i64))))))])), (3, (.c false (.v true (.int .i64)))), (4, (.c false (.v true (.int .i64)))), (5, (.c false (.v true (.int .i64)))), (6, (.c false (.v true (.int .i64))))], [(.normal, [(1, (.b 34 [(.v false (.rs 57 (.rs 72 (.pair (.int .i64) (.pair (.int .i64) (.int .i64))))))])), (3, (.c false (.v true (.int .i64)))), (4, (.c false (.v true (.int .i64)))), (5, (.c false (.v true (.int .i64)))), (6, (.c false (.v true (.int .i64))))])], fun v => J33_13 n v.1 v.2.1 v.2.2.1 v.2.2.2.1 v.2.2.2.2.1⟩)], [], true⟩
noncomputable def code33 : Code := Tryz.f33.body.getD .skip
theorem tb33_ok (n : Nat) : (tb33 n).ok Tryz.prog := tbOk mixed (⟨con56_ok n, ⟨con37_ok n, ⟨con39_ok n, trivial⟩⟩⟩)
theorem lp33_2 (n : Nat) : LpAt (tb33 n) (loopBody code33 2) 2 := lpAt rfl (fun _ => by kernel_rfl) (fun _ _ => by kernel_rfl)
theorem lp33_0 (n : Nat) : LpAt (tb33 n) (loopBody code33 0) 0 := lpAt rfl (fun _ => by kernel_rfl) (fun _ _ => by kernel_rfl)
theorem blocks33 : blocks code33 = [(0, .loop (loopBody code33 0)), (1, blockBody code33 1), (2, .loop (loopBody code33 2)), (3, blockBody code33 3)] := by kernel_rfl
theorem ct33_13 (n : Nat) : CtOk (tb33 n) (sec code33 18).2 ⟨[(1, (.b 34 [(.v false (.rs 57 (.rs 72 (.pair (.int .i64) (.pair (.int .i64) (.int .i64))))))])), (3, (.c false (.v true (.int .i64)))), (4, (.c false (.v true (.int .i64)))), (5, (.c false (.v true (.int .i64)))), (6, (.c false (.v true (.int .i64))))], [(.normal, [(1, (.b 34 [(.v false (.rs 57 (.rs 72 (.pair (.int .i64) (.pair (.int .i64) (.int .i64))))))])), (3, (.c false (.v true (.int .i64)))), (4, (.c false (.v true (.int .i64)))), (5, (.c false (.v true (.int .i64)))), (6, (.c false (.v true (.int .i64))))])], fun v => J33_13 n v.1 v.2.1 v.2.2.1 v.2.2.2.1 v.2.2.2.2.1⟩ := fun _ => by kernel_rfl
theorem secs33 : seconds code33 = [(some 1, (sec code33 0).2), (some 3, (sec code33 1).2), (none, (sec code33 2).2), (none, (sec code33 3).2), (some 4, (sec code33 4).2), (some 5, (sec code33 5).2), (some 16, (sec code33 6).2), (some 6, (sec code33 7).2), (some 8, (sec code33 8).2), (none, (sec code33 9).2), (some 7, (sec code33 10).2), (some 10, (sec code33 11).2), (none, (sec code33 12).2), (none, (sec code33 13).2), (some 11, (sec code33 14).2), (some 12, (sec code33 15).2), (some 14, (sec code33 16).2), (none, (sec code33 17).2), (some 13, (sec code33 18).2), (none, (sec code33 19).2), (none, (sec code33 20).2)] := by kernel_rfl
theorem la33 (n : Nat) : LpAll (tb33 n) code33 := lpAll blocks33 (bl_loop (lp33_0 n) (bl_none rfl (bl_loop (lp33_2 n) (bl_none rfl (bl_nil))))) secs33 (cs_none rfl (cs_none rfl (cs_none rfl (cs_none rfl (cs_none rfl (cs_none rfl (cs_none rfl (cs_none rfl (cs_none rfl (cs_none rfl (cs_none rfl (cs_none rfl (cs_none rfl (cs_none rfl (cs_none rfl (cs_none rfl (cs_none rfl (cs_none rfl (cs_one rfl (ct33_13 n) (cs_none rfl (cs_none rfl (cs_nil)))))))))))))))))))))) (by kernel_rfl)
theorem ev33 (n : Nat) (x : pdens [.c true (.v false (.rs 57 (.rs 72 (.pair (.int .i64) (.pair (.int .i64) (.int .i64))))))]) : evSig (tb33 n) Tryz.f33 [.c true (.v false (.rs 57 (.rs 72 (.pair (.int .i64) (.pair (.int .i64) (.int .i64))))))] [.c false (.v true .bool)] x = F33 n x.1 := by kernel_rfl
theorem con33_ok (n : Nat) : Con.ok Tryz.prog 33 (con33 n) := conOf_ok (tb33_ok n) (body_la (by kernel_rfl : Tryz.f33.body = some code33) (la33 n)) Tryz.func33 (enters Tryz.func33 (by kernel_rfl) (by kernel_rfl)) rfl rfl (ev33 n)
/-! ### (loop.example/fathomline/impl.Do).reads -/
def F53 (n : Nat) (a0 : Int × Int × Int) : Option (rdens [.c true (.v true (.pair (.int .i64) (.pair (.int .i64) (.int .i64))))] [.c false (.v true .bool)]) :=
  cond (a0.fst == (2 : Int))
  (some (Bool.true, ()))
  (some (a0.fst == (5 : Int), ()))
noncomputable def con53 (n : Nat) : Con := conOf [.c true (.v true (.pair (.int .i64) (.pair (.int .i64) (.int .i64))))] [.c false (.v true .bool)] fun x => F53 n x.1
noncomputable def tb53 (n : Nat) : Tb := ⟨tiOf Tryz.prog, conL [], n, [], 11, lpL [], ctL [], [], true⟩
noncomputable def code53 : Code := Tryz.f53.body.getD .skip
theorem tb53_ok (n : Nat) : (tb53 n).ok Tryz.prog := tbOk mixed (trivial)
theorem blocks53 : blocks code53 = [] := by kernel_rfl
theorem la53 (n : Nat) : LpAll (tb53 n) code53 := lpAll blocks53 (bl_nil) rfl (cs_no fun _ => rfl) (by kernel_rfl)
theorem ev53 (n : Nat) (x : pdens [.c true (.v true (.pair (.int .i64) (.pair (.int .i64) (.int .i64))))]) : evSig (tb53 n) Tryz.f53 [.c true (.v true (.pair (.int .i64) (.pair (.int .i64) (.int .i64))))] [.c false (.v true .bool)] x = F53 n x.1 := by kernel_rfl
theorem con53_ok (n : Nat) : Con.ok Tryz.prog 53 (con53 n) := conOf_ok (tb53_ok n) (body_la (by kernel_rfl : Tryz.f53.body = some code53) (la53 n)) Tryz.func53 (enters Tryz.func53 (by kernel_rfl) (by kernel_rfl)) rfl rfl (ev53 n)
/-! ### (loop.example/fathomline/impl.Do).writes -/
def F52 (n : Nat) (a0 : Int × Int × Int) : Option (rdens [.c true (.v true (.pair (.int .i64) (.pair (.int .i64) (.int .i64))))] [.c false (.v true .bool)]) :=
  cond (a0.fst == (1 : Int))
  (some (Bool.true, ()))
  (cond (a0.fst == (3 : Int))
   (some (Bool.true, ()))
   (some (a0.fst == (6 : Int), ())))
noncomputable def con52 (n : Nat) : Con := conOf [.c true (.v true (.pair (.int .i64) (.pair (.int .i64) (.int .i64))))] [.c false (.v true .bool)] fun x => F52 n x.1
noncomputable def tb52 (n : Nat) : Tb := ⟨tiOf Tryz.prog, conL [], n, [], 16, lpL [], ctL [], [], true⟩
noncomputable def code52 : Code := Tryz.f52.body.getD .skip
theorem tb52_ok (n : Nat) : (tb52 n).ok Tryz.prog := tbOk mixed (trivial)
theorem blocks52 : blocks code52 = [] := by kernel_rfl
theorem la52 (n : Nat) : LpAll (tb52 n) code52 := lpAll blocks52 (bl_nil) rfl (cs_no fun _ => rfl) (by kernel_rfl)
theorem ev52 (n : Nat) (x : pdens [.c true (.v true (.pair (.int .i64) (.pair (.int .i64) (.int .i64))))]) : evSig (tb52 n) Tryz.f52 [.c true (.v true (.pair (.int .i64) (.pair (.int .i64) (.int .i64))))] [.c false (.v true .bool)] x = F52 n x.1 := by kernel_rfl
theorem con52_ok (n : Nat) : Con.ok Tryz.prog 52 (con52 n) := conOf_ok (tb52_ok n) (body_la (by kernel_rfl : Tryz.f52.body = some code52) (la52 n)) Tryz.func52 (enters Tryz.func52 (by kernel_rfl) (by kernel_rfl)) rfl rfl (ev52 n)
/-! ### (loop.example/fathomline/impl.Do).uses -/
def F66 (n : Nat) (a0 : Int × Int × Int) : Option (rdens [.c true (.v true (.pair (.int .i64) (.pair (.int .i64) (.int .i64))))] [.c false (.v true .bool)]) :=
  (F53 n ((a0.fst, a0.snd.fst, a0.snd.snd))).bind fun y1 =>
  cond (y1.fst)
  (some (Bool.true, ()))
  ((F52 n ((a0.fst, a0.snd.fst, a0.snd.snd))).bind fun y2 =>
   some (y2.fst, ()))
noncomputable def con66 (n : Nat) : Con := conOf [.c true (.v true (.pair (.int .i64) (.pair (.int .i64) (.int .i64))))] [.c false (.v true .bool)] fun x => F66 n x.1
noncomputable def tb66 (n : Nat) : Tb := ⟨tiOf Tryz.prog, conL [(53, con53 n), (52, con52 n)], n, [], 9, lpL [], ctL [], [], true⟩
noncomputable def code66 : Code := Tryz.f66.body.getD .skip
theorem tb66_ok (n : Nat) : (tb66 n).ok Tryz.prog := tbOk mixed (⟨con53_ok n, ⟨con52_ok n, trivial⟩⟩)
theorem blocks66 : blocks code66 = [] := by kernel_rfl
theorem la66 (n : Nat) : LpAll (tb66 n) code66 := lpAll blocks66 (bl_nil) rfl (cs_no fun _ => rfl) (by kernel_rfl)
theorem ev66 (n : Nat) (x : pdens [.c true (.v true (.pair (.int .i64) (.pair (.int .i64) (.int .i64))))]) : evSig (tb66 n) Tryz.f66 [.c true (.v true (.pair (.int .i64) (.pair (.int .i64) (.int .i64))))] [.c false (.v true .bool)] x = F66 n x.1 := by kernel_rfl
theorem con66_ok (n : Nat) : Con.ok Tryz.prog 66 (con66 n) := conOf_ok (tb66_ok n) (body_la (by kernel_rfl : Tryz.f66.body = some code66) (la66 n)) Tryz.func66 (enters Tryz.func66 (by kernel_rfl) (by kernel_rfl)) rfl rfl (ev66 n)
/-! ### loop.example/fathomline/impl.in -/
def F27 (n : Nat) (a0 : Int) (a1 : Int) (a2 : Int) : Option (rdens [.c false (.v true (.int .i64)), .c false (.v true (.int .i64)), .c false (.v true (.int .i64))] [.c false (.v true .bool)]) :=
  cond (Decidable.decide (a0 ≥ a1))
  (some (Decidable.decide (a0 ≤ a2), ()))
  (some (Bool.false, ()))
noncomputable def con27 (n : Nat) : Con := conOf [.c false (.v true (.int .i64)), .c false (.v true (.int .i64)), .c false (.v true (.int .i64))] [.c false (.v true .bool)] fun x => F27 n x.1 x.2.1 x.2.2.1
noncomputable def tb27 (n : Nat) : Tb := ⟨tiOf Tryz.prog, conL [], n, [], 15, lpL [], ctL [], [], true⟩
noncomputable def code27 : Code := Tryz.f27.body.getD .skip
theorem tb27_ok (n : Nat) : (tb27 n).ok Tryz.prog := tbOk mixed (trivial)
theorem blocks27 : blocks code27 = [] := by kernel_rfl
theorem la27 (n : Nat) : LpAll (tb27 n) code27 := lpAll blocks27 (bl_nil) rfl (cs_no fun _ => rfl) (by kernel_rfl)
theorem ev27 (n : Nat) (x : pdens [.c false (.v true (.int .i64)), .c false (.v true (.int .i64)), .c false (.v true (.int .i64))]) : evSig (tb27 n) Tryz.f27 [.c false (.v true (.int .i64)), .c false (.v true (.int .i64)), .c false (.v true (.int .i64))] [.c false (.v true .bool)] x = F27 n x.1 x.2.1 x.2.2.1 := by kernel_rfl
theorem con27_ok (n : Nat) : Con.ok Tryz.prog 27 (con27 n) := conOf_ok (tb27_ok n) (body_la (by kernel_rfl : Tryz.f27.body = some code27) (la27 n)) Tryz.func27 (enters Tryz.func27 (by kernel_rfl) (by kernel_rfl)) rfl rfl (ev27 n)
/-! ### (loop.example/fathomline/impl.Do).valued -/
def F80 (n : Nat) (a0 : Int × Int × Int) : Option (rdens [.c true (.v true (.pair (.int .i64) (.pair (.int .i64) (.int .i64))))] [.c false (.v true .bool)]) :=
  cond (a0.fst == (1 : Int))
  (some (Bool.true, ()))
  (some (a0.fst == (6 : Int), ()))
noncomputable def con80 (n : Nat) : Con := conOf [.c true (.v true (.pair (.int .i64) (.pair (.int .i64) (.int .i64))))] [.c false (.v true .bool)] fun x => F80 n x.1
noncomputable def tb80 (n : Nat) : Tb := ⟨tiOf Tryz.prog, conL [], n, [], 11, lpL [], ctL [], [], true⟩
noncomputable def code80 : Code := Tryz.f80.body.getD .skip
theorem tb80_ok (n : Nat) : (tb80 n).ok Tryz.prog := tbOk mixed (trivial)
theorem blocks80 : blocks code80 = [] := by kernel_rfl
theorem la80 (n : Nat) : LpAll (tb80 n) code80 := lpAll blocks80 (bl_nil) rfl (cs_no fun _ => rfl) (by kernel_rfl)
theorem ev80 (n : Nat) (x : pdens [.c true (.v true (.pair (.int .i64) (.pair (.int .i64) (.int .i64))))]) : evSig (tb80 n) Tryz.f80 [.c true (.v true (.pair (.int .i64) (.pair (.int .i64) (.int .i64))))] [.c false (.v true .bool)] x = F80 n x.1 := by kernel_rfl
theorem con80_ok (n : Nat) : Con.ok Tryz.prog 80 (con80 n) := conOf_ok (tb80_ok n) (body_la (by kernel_rfl : Tryz.f80.body = some code80) (la80 n)) Tryz.func80 (enters Tryz.func80 (by kernel_rfl) (by kernel_rfl)) rfl rfl (ev80 n)
/-! ### (loop.example/fathomline/impl.Do).formed -/
def J74_5 (n : Nat) (x5 : (Int × Int × Int) × Unit) (x6 : Bool) (x7 : Bool) : Option (odens [(.ret, [(2, (.c false (.v true .bool)))])]) :=
    (F27 n (x5.fst.fst) ((1 : Int)) ((9 : Int))).bind fun y8 =>
    cond (y8.fst)
    (cond (x6)
     (some (Sum.inl (x7, ())))
     (some (Sum.inl (Bool.false, ()))))
    (some (Sum.inl (Bool.false, ())))
def J74_2 (n : Nat) (x1 : (Int × Int × Int) × Unit) (x2 : Bool) : Option (odens [(.ret, [(2, (.c false (.v true .bool)))])]) :=
    (F80 n ((x1.fst.fst, x1.fst.snd.fst, x1.fst.snd.snd))).bind fun y3 =>
    cond (y3.fst)
    ((F27 n (x1.fst.snd.snd) ((1 : Int)) ((3 : Int))).bind fun y4 =>
     match J74_5 n (((x1.fst.fst, x1.fst.snd.fst, x1.fst.snd.snd), ())) (x2) (y4.fst) with
     | none => none
     | some (Sum.inl v9) =>
      some (Sum.inl (v9.fst, ())))
    (match J74_5 n (((x1.fst.fst, x1.fst.snd.fst, x1.fst.snd.snd), ())) (x2) (x1.fst.snd.snd == (0 : Int)) with
     | none => none
     | some (Sum.inl v10) =>
      some (Sum.inl (v10.fst, ())))
def F74 (n : Nat) (a0 : Int × Int × Int) : Option (rdens [.c true (.v true (.pair (.int .i64) (.pair (.int .i64) (.int .i64))))] [.c false (.v true .bool)]) :=
  cond (a0.snd.fst == (0 : Int))
  (match J74_2 n (((a0.fst, a0.snd.fst, a0.snd.snd), ())) (Bool.true) with
   | none => none
   | some (Sum.inl v11) =>
    some (v11.fst, ()))
  ((F66 n ((a0.fst, a0.snd.fst, a0.snd.snd))).bind fun y12 =>
   cond (y12.fst)
   ((F27 n (a0.snd.fst) ((0 : Int)) ((2 : Int))).bind fun y13 =>
    match J74_2 n (((a0.fst, a0.snd.fst, a0.snd.snd), ())) (y13.fst) with
    | none => none
    | some (Sum.inl v14) =>
     some (v14.fst, ()))
   (match J74_2 n (((a0.fst, a0.snd.fst, a0.snd.snd), ())) (Bool.false) with
    | none => none
    | some (Sum.inl v15) =>
     some (v15.fst, ())))
noncomputable def con74 (n : Nat) : Con := conOf [.c true (.v true (.pair (.int .i64) (.pair (.int .i64) (.int .i64))))] [.c false (.v true .bool)] fun x => F74 n x.1
noncomputable def tb74 (n : Nat) : Tb := ⟨tiOf Tryz.prog, conL [(66, con66 n), (27, con27 n), (80, con80 n)], n, [], 34, lpL [], ctL [(5, ⟨[(1, (.b 72 [(.v true (.pair (.int .i64) (.pair (.int .i64) (.int .i64))))])), (3, (.c false (.v true .bool))), (4, (.c false (.v true .bool)))], [(.ret, [(2, (.c false (.v true .bool)))])], fun v => J74_5 n v.1 v.2.1 v.2.2.1⟩), (2, ⟨[(1, (.b 72 [(.v true (.pair (.int .i64) (.pair (.int .i64) (.int .i64))))])), (3, (.c false (.v true .bool)))], [(.ret, [(2, (.c false (.v true .bool)))])], fun v => J74_2 n v.1 v.2.1⟩)], [], true⟩
noncomputable def code74 : Code := Tryz.f74.body.getD .skip
theorem tb74_ok (n : Nat) : (tb74 n).ok Tryz.prog := tbOk mixed (⟨con66_ok n, ⟨con27_ok n, ⟨con80_ok n, trivial⟩⟩⟩)
theorem blocks74 : blocks code74 = [] := by kernel_rfl
theorem ct74_2 (n : Nat) : CtOk (tb74 n) (sec code74 1).2 ⟨[(1, (.b 72 [(.v true (.pair (.int .i64) (.pair (.int .i64) (.int .i64))))])), (3, (.c false (.v true .bool)))], [(.ret, [(2, (.c false (.v true .bool)))])], fun v => J74_2 n v.1 v.2.1⟩ := fun _ => by kernel_rfl
theorem ct74_5 (n : Nat) : CtOk (tb74 n) (sec code74 3).2 ⟨[(1, (.b 72 [(.v true (.pair (.int .i64) (.pair (.int .i64) (.int .i64))))])), (3, (.c false (.v true .bool))), (4, (.c false (.v true .bool)))], [(.ret, [(2, (.c false (.v true .bool)))])], fun v => J74_5 n v.1 v.2.1 v.2.2.1⟩ := fun _ => by kernel_rfl
theorem secs74 : seconds code74 = [(some 1, (sec code74 0).2), (some 2, (sec code74 1).2), (some 3, (sec code74 2).2), (some 5, (sec code74 3).2), (none, (sec code74 4).2), (none, (sec code74 5).2)] := by kernel_rfl
theorem la74 (n : Nat) : LpAll (tb74 n) code74 := lpAll blocks74 (bl_nil) secs74 (cs_none rfl (cs_one rfl (ct74_2 n) (cs_none rfl (cs_one rfl (ct74_5 n) (cs_none rfl (cs_none rfl (cs_nil))))))) (by kernel_rfl)
theorem ev74 (n : Nat) (x : pdens [.c true (.v true (.pair (.int .i64) (.pair (.int .i64) (.int .i64))))]) : evSig (tb74 n) Tryz.f74 [.c true (.v true (.pair (.int .i64) (.pair (.int .i64) (.int .i64))))] [.c false (.v true .bool)] x = F74 n x.1 := by kernel_rfl
theorem con74_ok (n : Nat) : Con.ok Tryz.prog 74 (con74 n) := conOf_ok (tb74_ok n) (body_la (by kernel_rfl : Tryz.f74.body = some code74) (la74 n)) Tryz.func74 (enters Tryz.func74 (by kernel_rfl) (by kernel_rfl)) rfl rfl (ev74 n)
/-! ### loop.example/fathomline/impl.threadOk -/
def J65_9 (n : Nat) (x23 : List (Int × Int × Int)) (x24 : Bool) (x25 : Bool) (x26 : (Int × Int × Int) × Unit) (x27 : List (Int × Int × Int)) (x28 : Int) (x29 : Int) : Option (odens [(.normal, [(0, (.c false (.v false (.rs 72 (.pair (.int .i64) (.pair (.int .i64) (.int .i64))))))), (3, (.c false (.v true .bool))), (4, (.c false (.v true .bool))), (8, (.c false (.v false (.rs 72 (.pair (.int .i64) (.pair (.int .i64) (.int .i64))))))), (9, (.c false (.v true (.int .i64)))), (10, (.c false (.v true (.int .i64))))])]) :=
    cond (x26.fst.fst == (7 : Int))
    (some (Sum.inl (x23, x24, Bool.true, x27, x28, x29, ())))
    (cond (x25)
     (some (Sum.inl (x23, x24, x26.fst.fst != (8 : Int), x27, x28, x29, ())))
     (some (Sum.inl (x23, x24, Bool.false, x27, x28, x29, ()))))
def J65_8 (n : Nat) (x16 : List (Int × Int × Int)) (x17 : Bool) (x18 : Bool) (x19 : (Int × Int × Int) × Unit) (x20 : List (Int × Int × Int)) (x21 : Int) (x22 : Int) : Option (odens [(.normal, [(0, (.c false (.v false (.rs 72 (.pair (.int .i64) (.pair (.int .i64) (.int .i64))))))), (3, (.c false (.v true .bool))), (4, (.c false (.v true .bool))), (8, (.c false (.v false (.rs 72 (.pair (.int .i64) (.pair (.int .i64) (.int .i64))))))), (9, (.c false (.v true (.int .i64)))), (10, (.c false (.v true (.int .i64))))])]) :=
    cond (x17)
    (match J65_9 n (x16) (Bool.true) (x18) (((x19.fst.fst, x19.fst.snd.fst, x19.fst.snd.snd), ())) (x20) (x21) (x22) with
     | none => none
     | some (Sum.inl v30) =>
      some (Sum.inl (v30.fst, v30.snd.fst, v30.snd.snd.fst, v30.snd.snd.snd.fst, v30.snd.snd.snd.snd.fst, v30.snd.snd.snd.snd.snd.fst, ())))
    ((F53 n ((x19.fst.fst, x19.fst.snd.fst, x19.fst.snd.snd))).bind fun y31 =>
     match J65_9 n (x16) (y31.fst) (x18) (((x19.fst.fst, x19.fst.snd.fst, x19.fst.snd.snd), ())) (x20) (x21) (x22) with
     | none => none
     | some (Sum.inl v32) =>
      some (Sum.inl (v32.fst, v32.snd.fst, v32.snd.snd.fst, v32.snd.snd.snd.fst, v32.snd.snd.snd.snd.fst, v32.snd.snd.snd.snd.snd.fst, ())))
def J65_6 (n : Nat) (x7 : List (Int × Int × Int)) (x8 : Bool) (x9 : Bool) (x10 : (Int × Int × Int) × Unit) (x11 : Bool) (x12 : List (Int × Int × Int)) (x13 : Int) (x14 : Int) : Option (odens [(.ret, [(2, (.c false (.v true .bool)))]), (.normal, [(0, (.c false (.v false (.rs 72 (.pair (.int .i64) (.pair (.int .i64) (.int .i64))))))), (3, (.c false (.v true .bool))), (4, (.c false (.v true .bool))), (8, (.c false (.v false (.rs 72 (.pair (.int .i64) (.pair (.int .i64) (.int .i64))))))), (9, (.c false (.v true (.int .i64)))), (10, (.c false (.v true (.int .i64))))])]) :=
    (F74 n ((x10.fst.fst, x10.fst.snd.fst, x10.fst.snd.snd))).bind fun y15 =>
    cond (!y15.fst)
    (some (Sum.inl (Bool.false, ())))
    (cond (x11)
     (some (Sum.inl (Bool.false, ())))
     (match J65_8 n (x7) (x8) (x9) (((x10.fst.fst, x10.fst.snd.fst, x10.fst.snd.snd), ())) (x12) (x13) (x14) with
      | none => none
      | some (Sum.inl v33) =>
       some (Sum.inr (Sum.inl (v33.fst, v33.snd.fst, v33.snd.snd.fst, v33.snd.snd.snd.fst, v33.snd.snd.snd.snd.fst, v33.snd.snd.snd.snd.snd.fst, ())))))
def J65_10 (n : Nat) (x36 : List (Int × Int × Int)) (x37 : Bool) (x38 : Bool) (x39 : List (Int × Int × Int)) (x40 : Int) (x41 : Int) : Option (odens [(.normal, [(0, (.c false (.v false (.rs 72 (.pair (.int .i64) (.pair (.int .i64) (.int .i64))))))), (3, (.c false (.v true .bool))), (4, (.c false (.v true .bool))), (8, (.c false (.v false (.rs 72 (.pair (.int .i64) (.pair (.int .i64) (.int .i64))))))), (9, (.c false (.v true (.int .i64)))), (10, (.c false (.v true (.int .i64))))])]) :=
    some (Sum.inl (x36, x37, x38, x39, x40, Go.IntKind.i64.wrap (x41 + (1 : Int)), ()))
def L65_0 (n : Nat) : Nat → List (Int × Int × Int) → Bool → Bool → List (Int × Int × Int) → Int → Int → Option (odens [(.ret, [(2, (.c false (.v true .bool)))]), ((.exit 0), [(0, (.c false (.v false (.rs 72 (.pair (.int .i64) (.pair (.int .i64) (.int .i64))))))), (4, (.c false (.v true .bool)))])])
  | 0, _, _, _, _, _, _ => none
  | m + 1, x1, x2, x3, x4, x5, x6 =>
    cond (Decidable.decide (x6 < x5))
    (if (0 : Int) ≤ x6 then
     if x6 < (↑x4.length : Int) then
     cond ((x4.getD x6.toNat ((0 : Int), (0 : Int), (0 : Int))).fst == (3 : Int))
     (cond (!x2)
      (match J65_6 n (x1) (x2) (x3) ((((x4.getD x6.toNat ((0 : Int), (0 : Int), (0 : Int))).fst, (x4.getD x6.toNat ((0 : Int), (0 : Int), (0 : Int))).snd.fst, (x4.getD x6.toNat ((0 : Int), (0 : Int), (0 : Int))).snd.snd), ())) (Bool.true) (x4) (x5) (x6) with
       | none => none
       | some (Sum.inl v34) =>
        some (Sum.inl (v34.fst, ()))
       | some (Sum.inr (Sum.inl v35)) =>
        match J65_10 n (v35.fst) (v35.snd.fst) (v35.snd.snd.fst) (v35.snd.snd.snd.fst) (v35.snd.snd.snd.snd.fst) (v35.snd.snd.snd.snd.snd.fst) with
        | none => none
        | some (Sum.inl v42) =>
         L65_0 n m (v42.fst) (v42.snd.fst) (v42.snd.snd.fst) (v42.snd.snd.snd.fst) (v42.snd.snd.snd.snd.fst) (v42.snd.snd.snd.snd.snd.fst))
      (cond (x3)
       (cond ((x4.getD x6.toNat ((0 : Int), (0 : Int), (0 : Int))).fst == (7 : Int))
        (match J65_6 n (x1) (x2) (x3) ((((x4.getD x6.toNat ((0 : Int), (0 : Int), (0 : Int))).fst, (x4.getD x6.toNat ((0 : Int), (0 : Int), (0 : Int))).snd.fst, (x4.getD x6.toNat ((0 : Int), (0 : Int), (0 : Int))).snd.snd), ())) (Bool.true) (x4) (x5) (x6) with
         | none => none
         | some (Sum.inl v43) =>
          some (Sum.inl (v43.fst, ()))
         | some (Sum.inr (Sum.inl v44)) =>
          match J65_10 n (v44.fst) (v44.snd.fst) (v44.snd.snd.fst) (v44.snd.snd.snd.fst) (v44.snd.snd.snd.snd.fst) (v44.snd.snd.snd.snd.snd.fst) with
          | none => none
          | some (Sum.inl v45) =>
           L65_0 n m (v45.fst) (v45.snd.fst) (v45.snd.snd.fst) (v45.snd.snd.snd.fst) (v45.snd.snd.snd.snd.fst) (v45.snd.snd.snd.snd.snd.fst))
        (cond ((x4.getD x6.toNat ((0 : Int), (0 : Int), (0 : Int))).fst == (9 : Int))
         (match J65_6 n (x1) (x2) (x3) ((((x4.getD x6.toNat ((0 : Int), (0 : Int), (0 : Int))).fst, (x4.getD x6.toNat ((0 : Int), (0 : Int), (0 : Int))).snd.fst, (x4.getD x6.toNat ((0 : Int), (0 : Int), (0 : Int))).snd.snd), ())) (Bool.true) (x4) (x5) (x6) with
          | none => none
          | some (Sum.inl v46) =>
           some (Sum.inl (v46.fst, ()))
          | some (Sum.inr (Sum.inl v47)) =>
           match J65_10 n (v47.fst) (v47.snd.fst) (v47.snd.snd.fst) (v47.snd.snd.snd.fst) (v47.snd.snd.snd.snd.fst) (v47.snd.snd.snd.snd.snd.fst) with
           | none => none
           | some (Sum.inl v48) =>
            L65_0 n m (v48.fst) (v48.snd.fst) (v48.snd.snd.fst) (v48.snd.snd.snd.fst) (v48.snd.snd.snd.snd.fst) (v48.snd.snd.snd.snd.snd.fst))
         (cond (!x3)
          (match J65_6 n (x1) (x2) (x3) ((((x4.getD x6.toNat ((0 : Int), (0 : Int), (0 : Int))).fst, (x4.getD x6.toNat ((0 : Int), (0 : Int), (0 : Int))).snd.fst, (x4.getD x6.toNat ((0 : Int), (0 : Int), (0 : Int))).snd.snd), ())) ((x4.getD x6.toNat ((0 : Int), (0 : Int), (0 : Int))).fst == (8 : Int)) (x4) (x5) (x6) with
           | none => none
           | some (Sum.inl v49) =>
            some (Sum.inl (v49.fst, ()))
           | some (Sum.inr (Sum.inl v50)) =>
            match J65_10 n (v50.fst) (v50.snd.fst) (v50.snd.snd.fst) (v50.snd.snd.snd.fst) (v50.snd.snd.snd.snd.fst) (v50.snd.snd.snd.snd.snd.fst) with
            | none => none
            | some (Sum.inl v51) =>
             L65_0 n m (v51.fst) (v51.snd.fst) (v51.snd.snd.fst) (v51.snd.snd.snd.fst) (v51.snd.snd.snd.snd.fst) (v51.snd.snd.snd.snd.snd.fst))
          (match J65_6 n (x1) (x2) (x3) ((((x4.getD x6.toNat ((0 : Int), (0 : Int), (0 : Int))).fst, (x4.getD x6.toNat ((0 : Int), (0 : Int), (0 : Int))).snd.fst, (x4.getD x6.toNat ((0 : Int), (0 : Int), (0 : Int))).snd.snd), ())) (Bool.false) (x4) (x5) (x6) with
           | none => none
           | some (Sum.inl v52) =>
            some (Sum.inl (v52.fst, ()))
           | some (Sum.inr (Sum.inl v53)) =>
            match J65_10 n (v53.fst) (v53.snd.fst) (v53.snd.snd.fst) (v53.snd.snd.snd.fst) (v53.snd.snd.snd.snd.fst) (v53.snd.snd.snd.snd.snd.fst) with
            | none => none
            | some (Sum.inl v54) =>
             L65_0 n m (v54.fst) (v54.snd.fst) (v54.snd.snd.fst) (v54.snd.snd.snd.fst) (v54.snd.snd.snd.snd.fst) (v54.snd.snd.snd.snd.snd.fst)))))
       (cond (!x3)
        (match J65_6 n (x1) (x2) (x3) ((((x4.getD x6.toNat ((0 : Int), (0 : Int), (0 : Int))).fst, (x4.getD x6.toNat ((0 : Int), (0 : Int), (0 : Int))).snd.fst, (x4.getD x6.toNat ((0 : Int), (0 : Int), (0 : Int))).snd.snd), ())) ((x4.getD x6.toNat ((0 : Int), (0 : Int), (0 : Int))).fst == (8 : Int)) (x4) (x5) (x6) with
         | none => none
         | some (Sum.inl v55) =>
          some (Sum.inl (v55.fst, ()))
         | some (Sum.inr (Sum.inl v56)) =>
          match J65_10 n (v56.fst) (v56.snd.fst) (v56.snd.snd.fst) (v56.snd.snd.snd.fst) (v56.snd.snd.snd.snd.fst) (v56.snd.snd.snd.snd.snd.fst) with
          | none => none
          | some (Sum.inl v57) =>
           L65_0 n m (v57.fst) (v57.snd.fst) (v57.snd.snd.fst) (v57.snd.snd.snd.fst) (v57.snd.snd.snd.snd.fst) (v57.snd.snd.snd.snd.snd.fst))
        (match J65_6 n (x1) (x2) (x3) ((((x4.getD x6.toNat ((0 : Int), (0 : Int), (0 : Int))).fst, (x4.getD x6.toNat ((0 : Int), (0 : Int), (0 : Int))).snd.fst, (x4.getD x6.toNat ((0 : Int), (0 : Int), (0 : Int))).snd.snd), ())) (Bool.false) (x4) (x5) (x6) with
         | none => none
         | some (Sum.inl v58) =>
          some (Sum.inl (v58.fst, ()))
         | some (Sum.inr (Sum.inl v59)) =>
          match J65_10 n (v59.fst) (v59.snd.fst) (v59.snd.snd.fst) (v59.snd.snd.snd.fst) (v59.snd.snd.snd.snd.fst) (v59.snd.snd.snd.snd.snd.fst) with
          | none => none
          | some (Sum.inl v60) =>
           L65_0 n m (v60.fst) (v60.snd.fst) (v60.snd.snd.fst) (v60.snd.snd.snd.fst) (v60.snd.snd.snd.snd.fst) (v60.snd.snd.snd.snd.snd.fst)))))
     (cond (x3)
      (cond ((x4.getD x6.toNat ((0 : Int), (0 : Int), (0 : Int))).fst == (7 : Int))
       (match J65_6 n (x1) (x2) (x3) ((((x4.getD x6.toNat ((0 : Int), (0 : Int), (0 : Int))).fst, (x4.getD x6.toNat ((0 : Int), (0 : Int), (0 : Int))).snd.fst, (x4.getD x6.toNat ((0 : Int), (0 : Int), (0 : Int))).snd.snd), ())) (Bool.true) (x4) (x5) (x6) with
        | none => none
        | some (Sum.inl v61) =>
         some (Sum.inl (v61.fst, ()))
        | some (Sum.inr (Sum.inl v62)) =>
         match J65_10 n (v62.fst) (v62.snd.fst) (v62.snd.snd.fst) (v62.snd.snd.snd.fst) (v62.snd.snd.snd.snd.fst) (v62.snd.snd.snd.snd.snd.fst) with
         | none => none
         | some (Sum.inl v63) =>
          L65_0 n m (v63.fst) (v63.snd.fst) (v63.snd.snd.fst) (v63.snd.snd.snd.fst) (v63.snd.snd.snd.snd.fst) (v63.snd.snd.snd.snd.snd.fst))
       (cond ((x4.getD x6.toNat ((0 : Int), (0 : Int), (0 : Int))).fst == (9 : Int))
        (match J65_6 n (x1) (x2) (x3) ((((x4.getD x6.toNat ((0 : Int), (0 : Int), (0 : Int))).fst, (x4.getD x6.toNat ((0 : Int), (0 : Int), (0 : Int))).snd.fst, (x4.getD x6.toNat ((0 : Int), (0 : Int), (0 : Int))).snd.snd), ())) (Bool.true) (x4) (x5) (x6) with
         | none => none
         | some (Sum.inl v64) =>
          some (Sum.inl (v64.fst, ()))
         | some (Sum.inr (Sum.inl v65)) =>
          match J65_10 n (v65.fst) (v65.snd.fst) (v65.snd.snd.fst) (v65.snd.snd.snd.fst) (v65.snd.snd.snd.snd.fst) (v65.snd.snd.snd.snd.snd.fst) with
          | none => none
          | some (Sum.inl v66) =>
           L65_0 n m (v66.fst) (v66.snd.fst) (v66.snd.snd.fst) (v66.snd.snd.snd.fst) (v66.snd.snd.snd.snd.fst) (v66.snd.snd.snd.snd.snd.fst))
        (cond (!x3)
         (match J65_6 n (x1) (x2) (x3) ((((x4.getD x6.toNat ((0 : Int), (0 : Int), (0 : Int))).fst, (x4.getD x6.toNat ((0 : Int), (0 : Int), (0 : Int))).snd.fst, (x4.getD x6.toNat ((0 : Int), (0 : Int), (0 : Int))).snd.snd), ())) ((x4.getD x6.toNat ((0 : Int), (0 : Int), (0 : Int))).fst == (8 : Int)) (x4) (x5) (x6) with
          | none => none
          | some (Sum.inl v67) =>
           some (Sum.inl (v67.fst, ()))
          | some (Sum.inr (Sum.inl v68)) =>
           match J65_10 n (v68.fst) (v68.snd.fst) (v68.snd.snd.fst) (v68.snd.snd.snd.fst) (v68.snd.snd.snd.snd.fst) (v68.snd.snd.snd.snd.snd.fst) with
           | none => none
           | some (Sum.inl v69) =>
            L65_0 n m (v69.fst) (v69.snd.fst) (v69.snd.snd.fst) (v69.snd.snd.snd.fst) (v69.snd.snd.snd.snd.fst) (v69.snd.snd.snd.snd.snd.fst))
         (match J65_6 n (x1) (x2) (x3) ((((x4.getD x6.toNat ((0 : Int), (0 : Int), (0 : Int))).fst, (x4.getD x6.toNat ((0 : Int), (0 : Int), (0 : Int))).snd.fst, (x4.getD x6.toNat ((0 : Int), (0 : Int), (0 : Int))).snd.snd), ())) (Bool.false) (x4) (x5) (x6) with
          | none => none
          | some (Sum.inl v70) =>
           some (Sum.inl (v70.fst, ()))
          | some (Sum.inr (Sum.inl v71)) =>
           match J65_10 n (v71.fst) (v71.snd.fst) (v71.snd.snd.fst) (v71.snd.snd.snd.fst) (v71.snd.snd.snd.snd.fst) (v71.snd.snd.snd.snd.snd.fst) with
           | none => none
           | some (Sum.inl v72) =>
            L65_0 n m (v72.fst) (v72.snd.fst) (v72.snd.snd.fst) (v72.snd.snd.snd.fst) (v72.snd.snd.snd.snd.fst) (v72.snd.snd.snd.snd.snd.fst)))))
      (cond (!x3)
       (match J65_6 n (x1) (x2) (x3) ((((x4.getD x6.toNat ((0 : Int), (0 : Int), (0 : Int))).fst, (x4.getD x6.toNat ((0 : Int), (0 : Int), (0 : Int))).snd.fst, (x4.getD x6.toNat ((0 : Int), (0 : Int), (0 : Int))).snd.snd), ())) ((x4.getD x6.toNat ((0 : Int), (0 : Int), (0 : Int))).fst == (8 : Int)) (x4) (x5) (x6) with
        | none => none
        | some (Sum.inl v73) =>
         some (Sum.inl (v73.fst, ()))
        | some (Sum.inr (Sum.inl v74)) =>
         match J65_10 n (v74.fst) (v74.snd.fst) (v74.snd.snd.fst) (v74.snd.snd.snd.fst) (v74.snd.snd.snd.snd.fst) (v74.snd.snd.snd.snd.snd.fst) with
         | none => none
         | some (Sum.inl v75) =>
          L65_0 n m (v75.fst) (v75.snd.fst) (v75.snd.snd.fst) (v75.snd.snd.snd.fst) (v75.snd.snd.snd.snd.fst) (v75.snd.snd.snd.snd.snd.fst))
       (match J65_6 n (x1) (x2) (x3) ((((x4.getD x6.toNat ((0 : Int), (0 : Int), (0 : Int))).fst, (x4.getD x6.toNat ((0 : Int), (0 : Int), (0 : Int))).snd.fst, (x4.getD x6.toNat ((0 : Int), (0 : Int), (0 : Int))).snd.snd), ())) (Bool.false) (x4) (x5) (x6) with
        | none => none
        | some (Sum.inl v76) =>
         some (Sum.inl (v76.fst, ()))
        | some (Sum.inr (Sum.inl v77)) =>
         match J65_10 n (v77.fst) (v77.snd.fst) (v77.snd.snd.fst) (v77.snd.snd.snd.fst) (v77.snd.snd.snd.snd.fst) (v77.snd.snd.snd.snd.snd.fst) with
         | none => none
         | some (Sum.inl v78) =>
          L65_0 n m (v78.fst) (v78.snd.fst) (v78.snd.snd.fst) (v78.snd.snd.snd.fst) (v78.snd.snd.snd.snd.fst) (v78.snd.snd.snd.snd.snd.fst))))
     else none
     else none)
    (some (Sum.inr (Sum.inl (x1, x3, ()))))
def F65 (n : Nat) (a0 : List (Int × Int × Int)) : Option (rdens [.c false (.v false (.rs 72 (.pair (.int .i64) (.pair (.int .i64) (.int .i64)))))] [.c false (.v true .bool)]) :=
  match L65_0 n n (a0) (Bool.false) (Bool.false) (a0) ((↑a0.length : Int)) ((0 : Int)) with
  | none => none
  | some (Sum.inl v79) =>
   some (v79.fst, ())
  | some (Sum.inr (Sum.inl v80)) =>
   cond (!v80.snd.fst)
   (some (Decidable.decide ((↑(List.length v80.fst) : Int) ≤ (7 : Int)), ()))
   (some (Bool.false, ()))
noncomputable def con65 (n : Nat) : Con := conOf [.c false (.v false (.rs 72 (.pair (.int .i64) (.pair (.int .i64) (.int .i64)))))] [.c false (.v true .bool)] fun x => F65 n x.1
noncomputable def tb65 (n : Nat) : Tb := ⟨tiOf Tryz.prog, conL [(74, con74 n), (53, con53 n)], n, [], 73, lpL [(0, ⟨[(0, (.c false (.v false (.rs 72 (.pair (.int .i64) (.pair (.int .i64) (.int .i64))))))), (3, (.c false (.v true .bool))), (4, (.c false (.v true .bool))), (8, (.c false (.v false (.rs 72 (.pair (.int .i64) (.pair (.int .i64) (.int .i64))))))), (9, (.c false (.v true (.int .i64)))), (10, (.c false (.v true (.int .i64))))], [(.ret, [(2, (.c false (.v true .bool)))]), ((.exit 0), [(0, (.c false (.v false (.rs 72 (.pair (.int .i64) (.pair (.int .i64) (.int .i64))))))), (4, (.c false (.v true .bool)))])], fun m v => L65_0 n m v.1 v.2.1 v.2.2.1 v.2.2.2.1 v.2.2.2.2.1 v.2.2.2.2.2.1⟩)], ctL [(9, ⟨[(0, (.c false (.v false (.rs 72 (.pair (.int .i64) (.pair (.int .i64) (.int .i64))))))), (3, (.c false (.v true .bool))), (4, (.c false (.v true .bool))), (6, (.b 72 [(.v true (.pair (.int .i64) (.pair (.int .i64) (.int .i64))))])), (8, (.c false (.v false (.rs 72 (.pair (.int .i64) (.pair (.int .i64) (.int .i64))))))), (9, (.c false (.v true (.int .i64)))), (10, (.c false (.v true (.int .i64))))], [(.normal, [(0, (.c false (.v false (.rs 72 (.pair (.int .i64) (.pair (.int .i64) (.int .i64))))))), (3, (.c false (.v true .bool))), (4, (.c false (.v true .bool))), (8, (.c false (.v false (.rs 72 (.pair (.int .i64) (.pair (.int .i64) (.int .i64))))))), (9, (.c false (.v true (.int .i64)))), (10, (.c false (.v true (.int .i64))))])], fun v => J65_9 n v.1 v.2.1 v.2.2.1 v.2.2.2.1 v.2.2.2.2.1 v.2.2.2.2.2.1 v.2.2.2.2.2.2.1⟩), (8, ⟨[(0, (.c false (.v false (.rs 72 (.pair (.int .i64) (.pair (.int .i64) (.int .i64))))))), (3, (.c false (.v true .bool))), (4, (.c false (.v true .bool))), (6, (.b 72 [(.v true (.pair (.int .i64) (.pair (.int .i64) (.int .i64))))])), (8, (.c false (.v false (.rs 72 (.pair (.int .i64) (.pair (.int .i64) (.int .i64))))))), (9, (.c false (.v true (.int .i64)))), (10, (.c false (.v true (.int .i64))))], [(.normal, [(0, (.c false (.v false (.rs 72 (.pair (.int .i64) (.pair (.int .i64) (.int .i64))))))), (3, (.c false (.v true .bool))), (4, (.c false (.v true .bool))), (8, (.c false (.v false (.rs 72 (.pair (.int .i64) (.pair (.int .i64) (.int .i64))))))), (9, (.c false (.v true (.int .i64)))), (10, (.c false (.v true (.int .i64))))])], fun v => J65_8 n v.1 v.2.1 v.2.2.1 v.2.2.2.1 v.2.2.2.2.1 v.2.2.2.2.2.1 v.2.2.2.2.2.2.1⟩), (6, ⟨[(0, (.c false (.v false (.rs 72 (.pair (.int .i64) (.pair (.int .i64) (.int .i64))))))), (3, (.c false (.v true .bool))), (4, (.c false (.v true .bool))), (6, (.b 72 [(.v true (.pair (.int .i64) (.pair (.int .i64) (.int .i64))))])), (7, (.c false (.v true .bool))), (8, (.c false (.v false (.rs 72 (.pair (.int .i64) (.pair (.int .i64) (.int .i64))))))), (9, (.c false (.v true (.int .i64)))), (10, (.c false (.v true (.int .i64))))], [(.ret, [(2, (.c false (.v true .bool)))]), (.normal, [(0, (.c false (.v false (.rs 72 (.pair (.int .i64) (.pair (.int .i64) (.int .i64))))))), (3, (.c false (.v true .bool))), (4, (.c false (.v true .bool))), (8, (.c false (.v false (.rs 72 (.pair (.int .i64) (.pair (.int .i64) (.int .i64))))))), (9, (.c false (.v true (.int .i64)))), (10, (.c false (.v true (.int .i64))))])], fun v => J65_6 n v.1 v.2.1 v.2.2.1 v.2.2.2.1 v.2.2.2.2.1 v.2.2.2.2.2.1 v.2.2.2.2.2.2.1 v.2.2.2.2.2.2.2.1⟩), (10, ⟨[(0, (.c false (.v false (.rs 72 (.pair (.int .i64) (.pair (.int .i64) (.int .i64))))))), (3, (.c false (.v true .bool))), (4, (.c false (.v true .bool))), (8, (.c false (.v false (.rs 72 (.pair (.int .i64) (.pair (.int .i64) (.int .i64))))))), (9, (.c false (.v true (.int .i64)))), (10, (.c false (.v true (.int .i64))))], [(.normal, [(0, (.c false (.v false (.rs 72 (.pair (.int .i64) (.pair (.int .i64) (.int .i64))))))), (3, (.c false (.v true .bool))), (4, (.c false (.v true .bool))), (8, (.c false (.v false (.rs 72 (.pair (.int .i64) (.pair (.int .i64) (.int .i64))))))), (9, (.c false (.v true (.int .i64)))), (10, (.c false (.v true (.int .i64))))])], fun v => J65_10 n v.1 v.2.1 v.2.2.1 v.2.2.2.1 v.2.2.2.2.1 v.2.2.2.2.2.1⟩)], [], true⟩
noncomputable def code65 : Code := Tryz.f65.body.getD .skip
theorem tb65_ok (n : Nat) : (tb65 n).ok Tryz.prog := tbOk mixed (⟨con74_ok n, ⟨con53_ok n, trivial⟩⟩)
theorem lp65_0 (n : Nat) : LpAt (tb65 n) (loopBody code65 0) 0 := lpAt rfl (fun _ => by kernel_rfl) (fun _ _ => by kernel_rfl)
theorem blocks65 : blocks code65 = [(0, .loop (loopBody code65 0)), (1, blockBody code65 1)] := by kernel_rfl
theorem ct65_10 (n : Nat) : CtOk (tb65 n) (sec code65 6).2 ⟨[(0, (.c false (.v false (.rs 72 (.pair (.int .i64) (.pair (.int .i64) (.int .i64))))))), (3, (.c false (.v true .bool))), (4, (.c false (.v true .bool))), (8, (.c false (.v false (.rs 72 (.pair (.int .i64) (.pair (.int .i64) (.int .i64))))))), (9, (.c false (.v true (.int .i64)))), (10, (.c false (.v true (.int .i64))))], [(.normal, [(0, (.c false (.v false (.rs 72 (.pair (.int .i64) (.pair (.int .i64) (.int .i64))))))), (3, (.c false (.v true .bool))), (4, (.c false (.v true .bool))), (8, (.c false (.v false (.rs 72 (.pair (.int .i64) (.pair (.int .i64) (.int .i64))))))), (9, (.c false (.v true (.int .i64)))), (10, (.c false (.v true (.int .i64))))])], fun v => J65_10 n v.1 v.2.1 v.2.2.1 v.2.2.2.1 v.2.2.2.2.1 v.2.2.2.2.2.1⟩ := fun _ => by kernel_rfl
theorem ct65_6 (n : Nat) : CtOk (tb65 n) (sec code65 8).2 ⟨[(0, (.c false (.v false (.rs 72 (.pair (.int .i64) (.pair (.int .i64) (.int .i64))))))), (3, (.c false (.v true .bool))), (4, (.c false (.v true .bool))), (6, (.b 72 [(.v true (.pair (.int .i64) (.pair (.int .i64) (.int .i64))))])), (7, (.c false (.v true .bool))), (8, (.c false (.v false (.rs 72 (.pair (.int .i64) (.pair (.int .i64) (.int .i64))))))), (9, (.c false (.v true (.int .i64)))), (10, (.c false (.v true (.int .i64))))], [(.ret, [(2, (.c false (.v true .bool)))]), (.normal, [(0, (.c false (.v false (.rs 72 (.pair (.int .i64) (.pair (.int .i64) (.int .i64))))))), (3, (.c false (.v true .bool))), (4, (.c false (.v true .bool))), (8, (.c false (.v false (.rs 72 (.pair (.int .i64) (.pair (.int .i64) (.int .i64))))))), (9, (.c false (.v true (.int .i64)))), (10, (.c false (.v true (.int .i64))))])], fun v => J65_6 n v.1 v.2.1 v.2.2.1 v.2.2.2.1 v.2.2.2.2.1 v.2.2.2.2.2.1 v.2.2.2.2.2.2.1 v.2.2.2.2.2.2.2.1⟩ := fun _ => by kernel_rfl
theorem ct65_8 (n : Nat) : CtOk (tb65 n) (sec code65 9).2 ⟨[(0, (.c false (.v false (.rs 72 (.pair (.int .i64) (.pair (.int .i64) (.int .i64))))))), (3, (.c false (.v true .bool))), (4, (.c false (.v true .bool))), (6, (.b 72 [(.v true (.pair (.int .i64) (.pair (.int .i64) (.int .i64))))])), (8, (.c false (.v false (.rs 72 (.pair (.int .i64) (.pair (.int .i64) (.int .i64))))))), (9, (.c false (.v true (.int .i64)))), (10, (.c false (.v true (.int .i64))))], [(.normal, [(0, (.c false (.v false (.rs 72 (.pair (.int .i64) (.pair (.int .i64) (.int .i64))))))), (3, (.c false (.v true .bool))), (4, (.c false (.v true .bool))), (8, (.c false (.v false (.rs 72 (.pair (.int .i64) (.pair (.int .i64) (.int .i64))))))), (9, (.c false (.v true (.int .i64)))), (10, (.c false (.v true (.int .i64))))])], fun v => J65_8 n v.1 v.2.1 v.2.2.1 v.2.2.2.1 v.2.2.2.2.1 v.2.2.2.2.2.1 v.2.2.2.2.2.2.1⟩ := fun _ => by kernel_rfl
theorem ct65_9 (n : Nat) : CtOk (tb65 n) (sec code65 12).2 ⟨[(0, (.c false (.v false (.rs 72 (.pair (.int .i64) (.pair (.int .i64) (.int .i64))))))), (3, (.c false (.v true .bool))), (4, (.c false (.v true .bool))), (6, (.b 72 [(.v true (.pair (.int .i64) (.pair (.int .i64) (.int .i64))))])), (8, (.c false (.v false (.rs 72 (.pair (.int .i64) (.pair (.int .i64) (.int .i64))))))), (9, (.c false (.v true (.int .i64)))), (10, (.c false (.v true (.int .i64))))], [(.normal, [(0, (.c false (.v false (.rs 72 (.pair (.int .i64) (.pair (.int .i64) (.int .i64))))))), (3, (.c false (.v true .bool))), (4, (.c false (.v true .bool))), (8, (.c false (.v false (.rs 72 (.pair (.int .i64) (.pair (.int .i64) (.int .i64))))))), (9, (.c false (.v true (.int .i64)))), (10, (.c false (.v true (.int .i64))))])], fun v => J65_9 n v.1 v.2.1 v.2.2.1 v.2.2.2.1 v.2.2.2.2.1 v.2.2.2.2.2.1 v.2.2.2.2.2.2.1⟩ := fun _ => by kernel_rfl
theorem secs65 : seconds code65 = [(some 1, (sec code65 0).2), (some 2, (sec code65 1).2), (some 11, (sec code65 2).2), (some 3, (sec code65 3).2), (none, (sec code65 4).2), (some 4, (sec code65 5).2), (some 10, (sec code65 6).2), (some 5, (sec code65 7).2), (some 6, (sec code65 8).2), (some 8, (sec code65 9).2), (none, (sec code65 10).2), (none, (sec code65 11).2), (some 9, (sec code65 12).2), (none, (sec code65 13).2)] := by kernel_rfl
theorem la65 (n : Nat) : LpAll (tb65 n) code65 := lpAll blocks65 (bl_loop (lp65_0 n) (bl_none rfl (bl_nil))) secs65 (cs_none rfl (cs_none rfl (cs_none rfl (cs_none rfl (cs_none rfl (cs_none rfl (cs_one rfl (ct65_10 n) (cs_none rfl (cs_one rfl (ct65_6 n) (cs_one rfl (ct65_8 n) (cs_none rfl (cs_none rfl (cs_one rfl (ct65_9 n) (cs_none rfl (cs_nil))))))))))))))) (by kernel_rfl)
theorem ev65 (n : Nat) (x : pdens [.c false (.v false (.rs 72 (.pair (.int .i64) (.pair (.int .i64) (.int .i64)))))]) : evSig (tb65 n) Tryz.f65 [.c false (.v false (.rs 72 (.pair (.int .i64) (.pair (.int .i64) (.int .i64)))))] [.c false (.v true .bool)] x = F65 n x.1 := by kernel_rfl
theorem con65_ok (n : Nat) : Con.ok Tryz.prog 65 (con65 n) := conOf_ok (tb65_ok n) (body_la (by kernel_rfl : Tryz.f65.body = some code65) (la65 n)) Tryz.func65 (enters Tryz.func65 (by kernel_rfl) (by kernel_rfl)) rfl rfl (ev65 n)
/-! ### loop.example/fathomline/impl.ProgOk -/
def J47_15 (n : Nat) (x16 : Int) (x17 : Int) (x18 : List (List (Int × Int × Int))) (x19 : Int) (x20 : Int) (x21 : List (Int × Int × Int)) (x22 : Int) (x23 : Int) : Option (odens [(.normal, [(3, (.c false (.v true (.int .i64)))), (4, (.c false (.v true (.int .i64)))), (14, (.c false (.v false (.rs 57 (.rs 72 (.pair (.int .i64) (.pair (.int .i64) (.int .i64)))))))), (15, (.c false (.v true (.int .i64)))), (16, (.c false (.v true (.int .i64)))), (27, (.c false (.v false (.rs 72 (.pair (.int .i64) (.pair (.int .i64) (.int .i64))))))), (28, (.c false (.v true (.int .i64)))), (29, (.c false (.v true (.int .i64))))])]) :=
    some (Sum.inl (x16, x17, x18, x19, x20, x21, x22, Go.IntKind.i64.wrap (x23 + (1 : Int)), ()))
def L47_2 (n : Nat) : Nat → Int → Int → List (List (Int × Int × Int)) → Int → Int → List (Int × Int × Int) → Int → Int → Option (odens [((.exit 2), [(3, (.c false (.v true (.int .i64)))), (4, (.c false (.v true (.int .i64)))), (14, (.c false (.v false (.rs 57 (.rs 72 (.pair (.int .i64) (.pair (.int .i64) (.int .i64)))))))), (15, (.c false (.v true (.int .i64)))), (16, (.c false (.v true (.int .i64))))])])
  | 0, _, _, _, _, _, _, _, _ => none
  | m + 1, x7, x8, x9, x10, x11, x12, x13, x14 =>
    cond (Decidable.decide (x14 < x13))
    (if (0 : Int) ≤ x14 then
     if x14 < (↑x12.length : Int) then
     (F66 n (((x12.getD x14.toNat ((0 : Int), (0 : Int), (0 : Int))).fst, (x12.getD x14.toNat ((0 : Int), (0 : Int), (0 : Int))).snd.fst, (x12.getD x14.toNat ((0 : Int), (0 : Int), (0 : Int))).snd.snd))).bind fun y15 =>
     cond (y15.fst)
     (match J47_15 n (x7) (Go.IntKind.i64.wrap (x8 + (1 : Int))) (x9) (x10) (x11) (x12) (x13) (x14) with
      | none => none
      | some (Sum.inl v24) =>
       L47_2 n m (v24.fst) (v24.snd.fst) (v24.snd.snd.fst) (v24.snd.snd.snd.fst) (v24.snd.snd.snd.snd.fst) (v24.snd.snd.snd.snd.snd.fst) (v24.snd.snd.snd.snd.snd.snd.fst) (v24.snd.snd.snd.snd.snd.snd.snd.fst))
     (match J47_15 n (x7) (x8) (x9) (x10) (x11) (x12) (x13) (x14) with
      | none => none
      | some (Sum.inl v25) =>
       L47_2 n m (v25.fst) (v25.snd.fst) (v25.snd.snd.fst) (v25.snd.snd.snd.fst) (v25.snd.snd.snd.snd.fst) (v25.snd.snd.snd.snd.snd.fst) (v25.snd.snd.snd.snd.snd.snd.fst) (v25.snd.snd.snd.snd.snd.snd.snd.fst))
     else none
     else none)
    (some (Sum.inl (x7, x8, x9, x10, x11, ())))
def L47_0 (n : Nat) : Nat → Int → Int → List (List (Int × Int × Int)) → Int → Int → Option (odens [(.ret, [(2, (.c false (.v true .bool)))]), ((.exit 0), [(3, (.c false (.v true (.int .i64)))), (4, (.c false (.v true (.int .i64))))])])
  | 0, _, _, _, _, _ => none
  | m + 1, x1, x2, x3, x4, x5 =>
    cond (Decidable.decide (x5 < x4))
    (if (0 : Int) ≤ x5 then
     if x5 < (↑x3.length : Int) then
     (F65 n (x3.getD x5.toNat [])).bind fun y6 =>
     cond (!y6.fst)
     (some (Sum.inl (Bool.false, ())))
     (match L47_2 n n (Go.IntKind.i64.wrap (x1 + (↑(List.length (x3.getD x5.toNat [])) : Int))) (x2) (x3) (x4) (x5) (x3.getD x5.toNat []) ((↑(List.length (x3.getD x5.toNat [])) : Int)) ((0 : Int)) with
      | none => none
      | some (Sum.inl v26) =>
       L47_0 n m (v26.fst) (v26.snd.fst) (v26.snd.snd.fst) (v26.snd.snd.snd.fst) (Go.IntKind.i64.wrap (v26.snd.snd.snd.snd.fst + (1 : Int))))
     else none
     else none)
    (some (Sum.inr (Sum.inl (x1, x2, ()))))
def F47 (n : Nat) (a0 : List (List (Int × Int × Int))) : Option (rdens [.c true (.v false (.rs 57 (.rs 72 (.pair (.int .i64) (.pair (.int .i64) (.int .i64))))))] [.c false (.v true .bool)]) :=
  cond (Decidable.decide ((↑a0.length : Int) > (3 : Int)))
  (some (Bool.false, ()))
  (match L47_0 n n ((0 : Int)) ((0 : Int)) (a0) ((↑a0.length : Int)) ((0 : Int)) with
   | none => none
   | some (Sum.inl v27) =>
    some (v27.fst, ())
   | some (Sum.inr (Sum.inl v28)) =>
    cond (Decidable.decide (v28.fst ≤ (14 : Int)))
    (some (Decidable.decide (v28.snd.fst ≤ (6 : Int)), ()))
    (some (Bool.false, ())))
noncomputable def con47 (n : Nat) : Con := conOf [.c true (.v false (.rs 57 (.rs 72 (.pair (.int .i64) (.pair (.int .i64) (.int .i64))))))] [.c false (.v true .bool)] fun x => F47 n x.1
noncomputable def tb47 (n : Nat) : Tb := ⟨tiOf Tryz.prog, conL [(65, con65 n), (66, con66 n)], n, [], 45, lpL [(2, ⟨[(3, (.c false (.v true (.int .i64)))), (4, (.c false (.v true (.int .i64)))), (14, (.c false (.v false (.rs 57 (.rs 72 (.pair (.int .i64) (.pair (.int .i64) (.int .i64)))))))), (15, (.c false (.v true (.int .i64)))), (16, (.c false (.v true (.int .i64)))), (27, (.c false (.v false (.rs 72 (.pair (.int .i64) (.pair (.int .i64) (.int .i64))))))), (28, (.c false (.v true (.int .i64)))), (29, (.c false (.v true (.int .i64))))], [((.exit 2), [(3, (.c false (.v true (.int .i64)))), (4, (.c false (.v true (.int .i64)))), (14, (.c false (.v false (.rs 57 (.rs 72 (.pair (.int .i64) (.pair (.int .i64) (.int .i64)))))))), (15, (.c false (.v true (.int .i64)))), (16, (.c false (.v true (.int .i64))))])], fun m v => L47_2 n m v.1 v.2.1 v.2.2.1 v.2.2.2.1 v.2.2.2.2.1 v.2.2.2.2.2.1 v.2.2.2.2.2.2.1 v.2.2.2.2.2.2.2.1⟩), (0, ⟨[(3, (.c false (.v true (.int .i64)))), (4, (.c false (.v true (.int .i64)))), (14, (.c false (.v false (.rs 57 (.rs 72 (.pair (.int .i64) (.pair (.int .i64) (.int .i64)))))))), (15, (.c false (.v true (.int .i64)))), (16, (.c false (.v true (.int .i64))))], [(.ret, [(2, (.c false (.v true .bool)))]), ((.exit 0), [(3, (.c false (.v true (.int .i64)))), (4, (.c false (.v true (.int .i64))))])], fun m v => L47_0 n m v.1 v.2.1 v.2.2.1 v.2.2.2.1 v.2.2.2.2.1⟩)], ctL [(15, ⟨[(3, (.c false (.v true (.int .i64)))), (4, (.c false (.v true (.int .i64)))), (14, (.c false (.v false (.rs 57 (.rs 72 (.pair (.int .i64) (.pair (.int .i64) (.int .i64)))))))), (15, (.c false (.v true (.int .i64)))), (16, (.c false (.v true (.int .i64)))), (27, (.c false (.v false (.rs 72 (.pair (.int .i64) (.pair (.int .i64) (.int .i64))))))), (28, (.c false (.v true (.int .i64)))), (29, (.c false (.v true (.int .i64))))], [(.normal, [(3, (.c false (.v true (.int .i64)))), (4, (.c false (.v true (.int .i64)))), (14, (.c false (.v false (.rs 57 (.rs 72 (.pair (.int .i64) (.pair (.int .i64) (.int .i64)))))))), (15, (.c false (.v true (.int .i64)))), (16, (.c false (.v true (.int .i64)))), (27, (.c false (.v false (.rs 72 (.pair (.int .i64) (.pair (.int .i64) (.int .i64))))))), (28, (.c false (.v true (.int .i64)))), (29, (.c false (.v true (.int .i64))))])], fun v => J47_15 n v.1 v.2.1 v.2.2.1 v.2.2.2.1 v.2.2.2.2.1 v.2.2.2.2.2.1 v.2.2.2.2.2.2.1 v.2.2.2.2.2.2.2.1⟩)], [], true⟩
noncomputable def code47 : Code := Tryz.f47.body.getD .skip
theorem tb47_ok (n : Nat) : (tb47 n).ok Tryz.prog := tbOk mixed (⟨con65_ok n, ⟨con66_ok n, trivial⟩⟩)
theorem lp47_2 (n : Nat) : LpAt (tb47 n) (loopBody code47 2) 2 := lpAt rfl (fun _ => by kernel_rfl) (fun _ _ => by kernel_rfl)
theorem lp47_0 (n : Nat) : LpAt (tb47 n) (loopBody code47 0) 0 := lpAt rfl (fun _ => by kernel_rfl) (fun _ _ => by kernel_rfl)
theorem blocks47 : blocks code47 = [(0, .loop (loopBody code47 0)), (1, blockBody code47 1), (2, .loop (loopBody code47 2)), (3, blockBody code47 3)] := by kernel_rfl
theorem ct47_15 (n : Nat) : CtOk (tb47 n) (sec code47 18).2 ⟨[(3, (.c false (.v true (.int .i64)))), (4, (.c false (.v true (.int .i64)))), (14, (.c false (.v false (.rs 57 (.rs 72 (.pair (.int .i64) (.pair (.int .i64) (.int .i64)))))))), (15, (.c false (.v true (.int .i64)))), (16, (.c false (.v true (.int .i64)))), (27, (.c false (.v false (.rs 72 (.pair (.int .i64) (.pair (.int .i64) (.int .i64))))))), (28, (.c false (.v true (.int .i64)))), (29, (.c false (.v true (.int .i64))))], [(.normal, [(3, (.c false (.v true (.int .i64)))), (4, (.c false (.v true (.int .i64)))), (14, (.c false (.v false (.rs 57 (.rs 72 (.pair (.int .i64) (.pair (.int .i64) (.int .i64)))))))), (15, (.c false (.v true (.int .i64)))), (16, (.c false (.v true (.int .i64)))), (27, (.c false (.v false (.rs 72 (.pair (.int .i64) (.pair (.int .i64) (.int .i64))))))), (28, (.c false (.v true (.int .i64)))), (29, (.c false (.v true (.int .i64))))])], fun v => J47_15 n v.1 v.2.1 v.2.2.1 v.2.2.2.1 v.2.2.2.2.1 v.2.2.2.2.2.1 v.2.2.2.2.2.2.1 v.2.2.2.2.2.2.2.1⟩ := fun _ => by kernel_rfl
theorem secs47 : seconds code47 = [(some 1, (sec code47 0).2), (some 3, (sec code47 1).2), (none, (sec code47 2).2), (none, (sec code47 3).2), (some 4, (sec code47 4).2), (some 17, (sec code47 5).2), (some 5, (sec code47 6).2), (none, (sec code47 7).2), (some 6, (sec code47 8).2), (some 16, (sec code47 9).2), (some 7, (sec code47 10).2), (some 9, (sec code47 11).2), (none, (sec code47 12).2), (none, (sec code47 13).2), (some 10, (sec code47 14).2), (some 11, (sec code47 15).2), (none, (sec code47 16).2), (some 12, (sec code47 17).2), (some 15, (sec code47 18).2), (some 13, (sec code47 19).2), (none, (sec code47 20).2), (none, (sec code47 21).2)] := by kernel_rfl
theorem la47 (n : Nat) : LpAll (tb47 n) code47 := lpAll blocks47 (bl_loop (lp47_0 n) (bl_none rfl (bl_loop (lp47_2 n) (bl_none rfl (bl_nil))))) secs47 (cs_none rfl (cs_none rfl (cs_none rfl (cs_none rfl (cs_none rfl (cs_none rfl (cs_none rfl (cs_none rfl (cs_none rfl (cs_none rfl (cs_none rfl (cs_none rfl (cs_none rfl (cs_none rfl (cs_none rfl (cs_none rfl (cs_none rfl (cs_none rfl (cs_one rfl (ct47_15 n) (cs_none rfl (cs_none rfl (cs_none rfl (cs_nil))))))))))))))))))))))) (by kernel_rfl)
theorem ev47 (n : Nat) (x : pdens [.c true (.v false (.rs 57 (.rs 72 (.pair (.int .i64) (.pair (.int .i64) (.int .i64))))))]) : evSig (tb47 n) Tryz.f47 [.c true (.v false (.rs 57 (.rs 72 (.pair (.int .i64) (.pair (.int .i64) (.int .i64))))))] [.c false (.v true .bool)] x = F47 n x.1 := by kernel_rfl
theorem con47_ok (n : Nat) : Con.ok Tryz.prog 47 (con47 n) := conOf_ok (tb47_ok n) (body_la (by kernel_rfl : Tryz.f47.body = some code47) (la47 n)) Tryz.func47 (enters Tryz.func47 (by kernel_rfl) (by kernel_rfl)) rfl rfl (ev47 n)
/-! ### loop.example/fathomline/laws.eqDo -/
def F72 (n : Nat) (a0 : Int × Int × Int) (a1 : Int × Int × Int) : Option (rdens [.c true (.v true (.pair (.int .i64) (.pair (.int .i64) (.int .i64)))), .c true (.v true (.pair (.int .i64) (.pair (.int .i64) (.int .i64))))] [.c false (.v true .bool)]) :=
  cond (a0.fst != a1.fst)
  (some (Bool.false, ()))
  (cond (a0.snd.fst != a1.snd.fst)
   (some (Bool.false, ()))
   (cond (a0.snd.snd != a1.snd.snd)
    (some (Bool.false, ()))
    (some (Bool.true, ()))))
noncomputable def con72 (n : Nat) : Con := conOf [.c true (.v true (.pair (.int .i64) (.pair (.int .i64) (.int .i64)))), .c true (.v true (.pair (.int .i64) (.pair (.int .i64) (.int .i64))))] [.c false (.v true .bool)] fun x => F72 n x.1 x.2.1
noncomputable def tb72 (n : Nat) : Tb := ⟨tiOf Tryz.prog, conL [], n, [], 20, lpL [], ctL [], [], true⟩
noncomputable def code72 : Code := Tryz.f72.body.getD .skip
theorem tb72_ok (n : Nat) : (tb72 n).ok Tryz.prog := tbOk mixed (trivial)
theorem blocks72 : blocks code72 = [] := by kernel_rfl
theorem la72 (n : Nat) : LpAll (tb72 n) code72 := lpAll blocks72 (bl_nil) rfl (cs_no fun _ => rfl) (by kernel_rfl)
theorem ev72 (n : Nat) (x : pdens [.c true (.v true (.pair (.int .i64) (.pair (.int .i64) (.int .i64)))), .c true (.v true (.pair (.int .i64) (.pair (.int .i64) (.int .i64))))]) : evSig (tb72 n) Tryz.f72 [.c true (.v true (.pair (.int .i64) (.pair (.int .i64) (.int .i64)))), .c true (.v true (.pair (.int .i64) (.pair (.int .i64) (.int .i64))))] [.c false (.v true .bool)] x = F72 n x.1 x.2.1 := by kernel_rfl
theorem con72_ok (n : Nat) : Con.ok Tryz.prog 72 (con72 n) := conOf_ok (tb72_ok n) (body_la (by kernel_rfl : Tryz.f72.body = some code72) (la72 n)) Tryz.func72 (enters Tryz.func72 (by kernel_rfl) (by kernel_rfl)) rfl rfl (ev72 n)
/-! ### loop.example/fathomline/laws.eqDoS -/
def L55_0 (n : Nat) : Nat → List (Int × Int × Int) → List (Int × Int × Int) → Int → Option (odens [(.ret, [(4, (.c false (.v true .bool)))]), ((.exit 0), [])])
  | 0, _, _, _ => none
  | m + 1, x1, x2, x3 =>
    cond (Decidable.decide (x3 < (↑x1.length : Int)))
    (if (0 : Int) ≤ x3 then
     if x3 < (↑x1.length : Int) then
     if (0 : Int) ≤ x3 then
     if x3 < (↑x2.length : Int) then
     (F72 n (((x1.getD x3.toNat ((0 : Int), (0 : Int), (0 : Int))).fst, (x1.getD x3.toNat ((0 : Int), (0 : Int), (0 : Int))).snd.fst, (x1.getD x3.toNat ((0 : Int), (0 : Int), (0 : Int))).snd.snd)) (((x2.getD x3.toNat ((0 : Int), (0 : Int), (0 : Int))).fst, (x2.getD x3.toNat ((0 : Int), (0 : Int), (0 : Int))).snd.fst, (x2.getD x3.toNat ((0 : Int), (0 : Int), (0 : Int))).snd.snd))).bind fun y4 =>
     cond (!y4.fst)
     (some (Sum.inl (Bool.false, ())))
     (L55_0 n m (x1) (x2) (Go.IntKind.i64.wrap (x3 + (1 : Int))))
     else none
     else none
     else none
     else none)
    (some (Sum.inr (Sum.inl (()))))
def F55 (n : Nat) (a0 : List (Int × Int × Int)) (a1 : List (Int × Int × Int)) : Option (rdens [.c false (.v false (.rs 72 (.pair (.int .i64) (.pair (.int .i64) (.int .i64))))), .c false (.v false (.rs 72 (.pair (.int .i64) (.pair (.int .i64) (.int .i64)))))] [.c false (.v true .bool)]) :=
  cond ((↑a0.length : Int) != (↑a1.length : Int))
  (some (Bool.false, ()))
  (match L55_0 n n (a0) (a1) ((0 : Int)) with
   | none => none
   | some (Sum.inl v5) =>
    some (v5.fst, ())
   | some (Sum.inr (Sum.inl v6)) =>
    some (Bool.true, ()))
noncomputable def con55 (n : Nat) : Con := conOf [.c false (.v false (.rs 72 (.pair (.int .i64) (.pair (.int .i64) (.int .i64))))), .c false (.v false (.rs 72 (.pair (.int .i64) (.pair (.int .i64) (.int .i64)))))] [.c false (.v true .bool)] fun x => F55 n x.1 x.2.1
noncomputable def tb55 (n : Nat) : Tb := ⟨tiOf Tryz.prog, conL [(72, con72 n)], n, [], 27, lpL [(0, ⟨[(0, (.c false (.v false (.rs 72 (.pair (.int .i64) (.pair (.int .i64) (.int .i64))))))), (1, (.c false (.v false (.rs 72 (.pair (.int .i64) (.pair (.int .i64) (.int .i64))))))), (5, (.c false (.v true (.int .i64))))], [(.ret, [(4, (.c false (.v true .bool)))]), ((.exit 0), [])], fun m v => L55_0 n m v.1 v.2.1 v.2.2.1⟩)], ctL [], [], true⟩
noncomputable def code55 : Code := Tryz.f55.body.getD .skip
theorem tb55_ok (n : Nat) : (tb55 n).ok Tryz.prog := tbOk mixed (⟨con72_ok n, trivial⟩)
theorem lp55_0 (n : Nat) : LpAt (tb55 n) (loopBody code55 0) 0 := lpAt rfl (fun _ => by kernel_rfl) (fun _ _ => by kernel_rfl)
theorem blocks55 : blocks code55 = [(0, .loop (loopBody code55 0)), (1, blockBody code55 1)] := by kernel_rfl
theorem la55 (n : Nat) : LpAll (tb55 n) code55 := lpAll blocks55 (bl_loop (lp55_0 n) (bl_none rfl (bl_nil))) rfl (cs_no fun _ => rfl) (by kernel_rfl)
theorem ev55 (n : Nat) (x : pdens [.c false (.v false (.rs 72 (.pair (.int .i64) (.pair (.int .i64) (.int .i64))))), .c false (.v false (.rs 72 (.pair (.int .i64) (.pair (.int .i64) (.int .i64)))))]) : evSig (tb55 n) Tryz.f55 [.c false (.v false (.rs 72 (.pair (.int .i64) (.pair (.int .i64) (.int .i64))))), .c false (.v false (.rs 72 (.pair (.int .i64) (.pair (.int .i64) (.int .i64)))))] [.c false (.v true .bool)] x = F55 n x.1 x.2.1 := by kernel_rfl
theorem con55_ok (n : Nat) : Con.ok Tryz.prog 55 (con55 n) := conOf_ok (tb55_ok n) (body_la (by kernel_rfl : Tryz.f55.body = some code55) (la55 n)) Tryz.func55 (enters Tryz.func55 (by kernel_rfl) (by kernel_rfl)) rfl rfl (ev55 n)
/-! ### loop.example/fathomline/laws.eqDoSS -/
def L29_0 (n : Nat) : Nat → List (List (Int × Int × Int)) → List (List (Int × Int × Int)) → Int → Option (odens [(.ret, [(4, (.c false (.v true .bool)))]), ((.exit 0), [])])
  | 0, _, _, _ => none
  | m + 1, x1, x2, x3 =>
    cond (Decidable.decide (x3 < (↑x1.length : Int)))
    (if (0 : Int) ≤ x3 then
     if x3 < (↑x1.length : Int) then
     if (0 : Int) ≤ x3 then
     if x3 < (↑x2.length : Int) then
     (F55 n (x1.getD x3.toNat []) (x2.getD x3.toNat [])).bind fun y4 =>
     cond (!y4.fst)
     (some (Sum.inl (Bool.false, ())))
     (L29_0 n m (x1) (x2) (Go.IntKind.i64.wrap (x3 + (1 : Int))))
     else none
     else none
     else none
     else none)
    (some (Sum.inr (Sum.inl (()))))
def F29 (n : Nat) (a0 : List (List (Int × Int × Int))) (a1 : List (List (Int × Int × Int))) : Option (rdens [.c false (.v false (.rs 57 (.rs 72 (.pair (.int .i64) (.pair (.int .i64) (.int .i64)))))), .c false (.v false (.rs 57 (.rs 72 (.pair (.int .i64) (.pair (.int .i64) (.int .i64))))))] [.c false (.v true .bool)]) :=
  cond ((↑a0.length : Int) != (↑a1.length : Int))
  (some (Bool.false, ()))
  (match L29_0 n n (a0) (a1) ((0 : Int)) with
   | none => none
   | some (Sum.inl v5) =>
    some (v5.fst, ())
   | some (Sum.inr (Sum.inl v6)) =>
    some (Bool.true, ()))
noncomputable def con29 (n : Nat) : Con := conOf [.c false (.v false (.rs 57 (.rs 72 (.pair (.int .i64) (.pair (.int .i64) (.int .i64)))))), .c false (.v false (.rs 57 (.rs 72 (.pair (.int .i64) (.pair (.int .i64) (.int .i64))))))] [.c false (.v true .bool)] fun x => F29 n x.1 x.2.1
noncomputable def tb29 (n : Nat) : Tb := ⟨tiOf Tryz.prog, conL [(55, con55 n)], n, [], 27, lpL [(0, ⟨[(0, (.c false (.v false (.rs 57 (.rs 72 (.pair (.int .i64) (.pair (.int .i64) (.int .i64)))))))), (1, (.c false (.v false (.rs 57 (.rs 72 (.pair (.int .i64) (.pair (.int .i64) (.int .i64)))))))), (5, (.c false (.v true (.int .i64))))], [(.ret, [(4, (.c false (.v true .bool)))]), ((.exit 0), [])], fun m v => L29_0 n m v.1 v.2.1 v.2.2.1⟩)], ctL [], [], true⟩
noncomputable def code29 : Code := Tryz.f29.body.getD .skip
theorem tb29_ok (n : Nat) : (tb29 n).ok Tryz.prog := tbOk mixed (⟨con55_ok n, trivial⟩)
theorem lp29_0 (n : Nat) : LpAt (tb29 n) (loopBody code29 0) 0 := lpAt rfl (fun _ => by kernel_rfl) (fun _ _ => by kernel_rfl)
theorem blocks29 : blocks code29 = [(0, .loop (loopBody code29 0)), (1, blockBody code29 1)] := by kernel_rfl
theorem la29 (n : Nat) : LpAll (tb29 n) code29 := lpAll blocks29 (bl_loop (lp29_0 n) (bl_none rfl (bl_nil))) rfl (cs_no fun _ => rfl) (by kernel_rfl)
theorem ev29 (n : Nat) (x : pdens [.c false (.v false (.rs 57 (.rs 72 (.pair (.int .i64) (.pair (.int .i64) (.int .i64)))))), .c false (.v false (.rs 57 (.rs 72 (.pair (.int .i64) (.pair (.int .i64) (.int .i64))))))]) : evSig (tb29 n) Tryz.f29 [.c false (.v false (.rs 57 (.rs 72 (.pair (.int .i64) (.pair (.int .i64) (.int .i64)))))), .c false (.v false (.rs 57 (.rs 72 (.pair (.int .i64) (.pair (.int .i64) (.int .i64))))))] [.c false (.v true .bool)] x = F29 n x.1 x.2.1 := by kernel_rfl
theorem con29_ok (n : Nat) : Con.ok Tryz.prog 29 (con29 n) := conOf_ok (tb29_ok n) (body_la (by kernel_rfl : Tryz.f29.body = some code29) (la29 n)) Tryz.func29 (enters Tryz.func29 (by kernel_rfl) (by kernel_rfl)) rfl rfl (ev29 n)
/-! ### loop.example/fathomline/laws.eqProg -/
def F10 (n : Nat) (a0 : List (List (Int × Int × Int))) (a1 : List (List (Int × Int × Int))) : Option (rdens [.c true (.v false (.rs 57 (.rs 72 (.pair (.int .i64) (.pair (.int .i64) (.int .i64)))))), .c true (.v false (.rs 57 (.rs 72 (.pair (.int .i64) (.pair (.int .i64) (.int .i64))))))] [.c false (.v true .bool)]) :=
  (F29 n (a0) (a1)).bind fun y1 =>
  cond (!y1.fst)
  (some (Bool.false, ()))
  (some (Bool.true, ()))
noncomputable def con10 (n : Nat) : Con := conOf [.c true (.v false (.rs 57 (.rs 72 (.pair (.int .i64) (.pair (.int .i64) (.int .i64)))))), .c true (.v false (.rs 57 (.rs 72 (.pair (.int .i64) (.pair (.int .i64) (.int .i64))))))] [.c false (.v true .bool)] fun x => F10 n x.1 x.2.1
noncomputable def tb10 (n : Nat) : Tb := ⟨tiOf Tryz.prog, conL [(29, con29 n)], n, [], 11, lpL [], ctL [], [], true⟩
noncomputable def code10 : Code := Tryz.f10.body.getD .skip
theorem tb10_ok (n : Nat) : (tb10 n).ok Tryz.prog := tbOk mixed (⟨con29_ok n, trivial⟩)
theorem blocks10 : blocks code10 = [] := by kernel_rfl
theorem la10 (n : Nat) : LpAll (tb10 n) code10 := lpAll blocks10 (bl_nil) rfl (cs_no fun _ => rfl) (by kernel_rfl)
theorem ev10 (n : Nat) (x : pdens [.c true (.v false (.rs 57 (.rs 72 (.pair (.int .i64) (.pair (.int .i64) (.int .i64)))))), .c true (.v false (.rs 57 (.rs 72 (.pair (.int .i64) (.pair (.int .i64) (.int .i64))))))]) : evSig (tb10 n) Tryz.f10 [.c true (.v false (.rs 57 (.rs 72 (.pair (.int .i64) (.pair (.int .i64) (.int .i64)))))), .c true (.v false (.rs 57 (.rs 72 (.pair (.int .i64) (.pair (.int .i64) (.int .i64))))))] [.c false (.v true .bool)] x = F10 n x.1 x.2.1 := by kernel_rfl
theorem con10_ok (n : Nat) : Con.ok Tryz.prog 10 (con10 n) := conOf_ok (tb10_ok n) (body_la (by kernel_rfl : Tryz.f10.body = some code10) (la10 n)) Tryz.func10 (enters Tryz.func10 (by kernel_rfl) (by kernel_rfl)) rfl rfl (ev10 n)
end Go.Proofs.YtdacfaincamliaaGreat.Ev
