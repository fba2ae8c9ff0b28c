/- Plain functions that the loaded code comes to, and that it does. Conditions: none. -/
import Derived.Test.YtaehbfaldofmbaaGA
namespace Go.Proofs.Ytaehbfaldofmbaa.Ev
open Go Go.Proofs
/-! ### loop.example/fathomline/laws.heldDoS -/
def L133_0 (n : Nat) : Nat → List (Int × Int × Int) → Int → Int → Option (odens [(.ret, [(4, (.c false (.v true (.int .i64))))]), ((.exit 0), [(1, (.c false (.v true (.int .i64))))])])
  | 0, _, _, _ => none
  | m + 1, x1, x2, x3 =>
    cond (Decidable.decide (x3 < (↑x1.length : Int)))
    (if (0 : Int) ≤ x3 then
     if x3 < (↑x1.length : Int) then
     cond ((x1.getD x3.toNat ((0 : Int), (0 : Int), (0 : Int))).fst != x2)
     (some (Sum.inl ((-1 : Int), ())))
     (if (0 : Int) ≤ x3 then
      if x3 < (↑x1.length : Int) then
      cond ((x1.getD x3.toNat ((0 : Int), (0 : Int), (0 : Int))).snd.fst != Go.IntKind.i64.wrap (x2 + (1 : Int)))
      (some (Sum.inl ((-1 : Int), ())))
      (if (0 : Int) ≤ x3 then
       if x3 < (↑x1.length : Int) then
       cond ((x1.getD x3.toNat ((0 : Int), (0 : Int), (0 : Int))).snd.snd != Go.IntKind.i64.wrap (Go.IntKind.i64.wrap (x2 + (1 : Int)) + (1 : Int)))
       (some (Sum.inl ((-1 : Int), ())))
       (L133_0 n m (x1) (Go.IntKind.i64.wrap (Go.IntKind.i64.wrap (Go.IntKind.i64.wrap (x2 + (1 : Int)) + (1 : Int)) + (1 : Int))) (Go.IntKind.i64.wrap (x3 + (1 : Int))))
       else none
       else none)
      else none
      else none)
     else none
     else none)
    (some (Sum.inr (Sum.inl (x2, ()))))
def F133 (n : Nat) (a0 : List (Int × Int × Int)) (a1 : Int) : Option (rdens [.c false (.v false (.rs 52 (.pair (.int .i64) (.pair (.int .i64) (.int .i64))))), .c false (.v true (.int .i64))] [.c false (.v true (.int .i64))]) :=
  match L133_0 n n (a0) (a1) ((0 : Int)) with
  | none => none
  | some (Sum.inl v4) =>
   some (v4.fst, ())
  | some (Sum.inr (Sum.inl v5)) =>
   some (v5.fst, ())
noncomputable def con133 (n : Nat) : Con := conOf [.c false (.v false (.rs 52 (.pair (.int .i64) (.pair (.int .i64) (.int .i64))))), .c false (.v true (.int .i64))] [.c false (.v true (.int .i64))] fun x => F133 n x.1 x.2.1
noncomputable def tb133 (n : Nat) : Tb := ⟨tiOf Try.prog, conL [], n, [], 40, lpL [(0, ⟨[(0, (.c false (.v false (.rs 52 (.pair (.int .i64) (.pair (.int .i64) (.int .i64))))))), (1, (.c false (.v true (.int .i64)))), (5, (.c false (.v true (.int .i64))))], [(.ret, [(4, (.c false (.v true (.int .i64))))]), ((.exit 0), [(1, (.c false (.v true (.int .i64))))])], fun m v => L133_0 n m v.1 v.2.1 v.2.2.1⟩)], ctL [], [], true⟩
noncomputable def code133 : Code := Try.f133.body.getD .skip
theorem tb133_ok (n : Nat) : (tb133 n).ok Try.prog := tbOk mixed (trivial)
theorem lp133_0 (n : Nat) : LpAt (tb133 n) (loopBody code133 0) 0 := lpAt rfl (fun _ => by kernel_rfl) (fun _ _ => by kernel_rfl)
theorem blocks133 : blocks code133 = [(0, .loop (loopBody code133 0)), (1, blockBody code133 1)] := by kernel_rfl
theorem la133 (n : Nat) : LpAll (tb133 n) code133 := lpAll blocks133 (bl_loop (lp133_0 n) (bl_none rfl (bl_nil))) rfl (cs_no fun _ => rfl) (by kernel_rfl)
theorem ev133 (n : Nat) (x : pdens [.c false (.v false (.rs 52 (.pair (.int .i64) (.pair (.int .i64) (.int .i64))))), .c false (.v true (.int .i64))]) : evSig (tb133 n) Try.f133 [.c false (.v false (.rs 52 (.pair (.int .i64) (.pair (.int .i64) (.int .i64))))), .c false (.v true (.int .i64))] [.c false (.v true (.int .i64))] x = F133 n x.1 x.2.1 := by kernel_rfl
theorem con133_ok (n : Nat) : Con.ok Try.prog 133 (con133 n) := conOf_ok (tb133_ok n) (body_la (by kernel_rfl : Try.f133.body = some code133) (la133 n)) Try.func133 (enters Try.func133 (by kernel_rfl) (by kernel_rfl)) rfl rfl (ev133 n)
/-! ### loop.example/fathomline/laws.heldDoSS -/
def L104_0 (n : Nat) : Nat → List (List (Int × Int × Int)) → Int → Int → Option (odens [(.ret, [(4, (.c false (.v true (.int .i64))))]), ((.exit 0), [(1, (.c false (.v true (.int .i64))))])])
  | 0, _, _, _ => none
  | m + 1, x1, x2, x3 =>
    cond (Decidable.decide (x3 < (↑x1.length : Int)))
    (if (0 : Int) ≤ x3 then
     if x3 < (↑x1.length : Int) then
     (F133 n (x1.getD x3.toNat []) (x2)).bind fun y4 =>
     cond (Decidable.decide (y4.fst < (0 : Int)))
     (some (Sum.inl ((-1 : Int), ())))
     (L104_0 n m (x1) (y4.fst) (Go.IntKind.i64.wrap (x3 + (1 : Int))))
     else none
     else none)
    (some (Sum.inr (Sum.inl (x2, ()))))
def F104 (n : Nat) (a0 : List (List (Int × Int × Int))) (a1 : Int) : Option (rdens [.c false (.v false (.rs 50 (.rs 52 (.pair (.int .i64) (.pair (.int .i64) (.int .i64)))))), .c false (.v true (.int .i64))] [.c false (.v true (.int .i64))]) :=
  match L104_0 n n (a0) (a1) ((0 : Int)) with
  | none => none
  | some (Sum.inl v5) =>
   some (v5.fst, ())
  | some (Sum.inr (Sum.inl v6)) =>
   some (v6.fst, ())
noncomputable def con104 (n : Nat) : Con := conOf [.c false (.v false (.rs 50 (.rs 52 (.pair (.int .i64) (.pair (.int .i64) (.int .i64)))))), .c false (.v true (.int .i64))] [.c false (.v true (.int .i64))] fun x => F104 n x.1 x.2.1
noncomputable def tb104 (n : Nat) : Tb := ⟨tiOf Try.prog, conL [(133, con133 n)], n, [], 21, lpL [(0, ⟨[(0, (.c false (.v false (.rs 50 (.rs 52 (.pair (.int .i64) (.pair (.int .i64) (.int .i64)))))))), (1, (.c false (.v true (.int .i64)))), (5, (.c false (.v true (.int .i64))))], [(.ret, [(4, (.c false (.v true (.int .i64))))]), ((.exit 0), [(1, (.c false (.v true (.int .i64))))])], fun m v => L104_0 n m v.1 v.2.1 v.2.2.1⟩)], ctL [], [], true⟩
noncomputable def code104 : Code := Try.f104.body.getD .skip
theorem tb104_ok (n : Nat) : (tb104 n).ok Try.prog := tbOk mixed (⟨con133_ok n, trivial⟩)
theorem lp104_0 (n : Nat) : LpAt (tb104 n) (loopBody code104 0) 0 := lpAt rfl (fun _ => by kernel_rfl) (fun _ _ => by kernel_rfl)
theorem blocks104 : blocks code104 = [(0, .loop (loopBody code104 0)), (1, blockBody code104 1)] := by kernel_rfl
theorem la104 (n : Nat) : LpAll (tb104 n) code104 := lpAll blocks104 (bl_loop (lp104_0 n) (bl_none rfl (bl_nil))) rfl (cs_no fun _ => rfl) (by kernel_rfl)
theorem ev104 (n : Nat) (x : pdens [.c false (.v false (.rs 50 (.rs 52 (.pair (.int .i64) (.pair (.int .i64) (.int .i64)))))), .c false (.v true (.int .i64))]) : evSig (tb104 n) Try.f104 [.c false (.v false (.rs 50 (.rs 52 (.pair (.int .i64) (.pair (.int .i64) (.int .i64)))))), .c false (.v true (.int .i64))] [.c false (.v true (.int .i64))] x = F104 n x.1 x.2.1 := by kernel_rfl
theorem con104_ok (n : Nat) : Con.ok Try.prog 104 (con104 n) := conOf_ok (tb104_ok n) (body_la (by kernel_rfl : Try.f104.body = some code104) (la104 n)) Try.func104 (enters Try.func104 (by kernel_rfl) (by kernel_rfl)) rfl rfl (ev104 n)
/-! ### loop.example/fathomline/laws.heldProg -/
def F64 (n : Nat) (a0 : List (List (Int × Int × Int))) (a1 : Int) : Option (rdens [.c true (.v false (.rs 50 (.rs 52 (.pair (.int .i64) (.pair (.int .i64) (.int .i64)))))), .c false (.v true (.int .i64))] [.c false (.v true (.int .i64))]) :=
  (F104 n (a0) (a1)).bind fun y1 =>
  cond (Decidable.decide (y1.fst < (0 : Int)))
  (some ((-1 : Int), ()))
  (some (y1.fst, ()))
noncomputable def con64 (n : Nat) : Con := conOf [.c true (.v false (.rs 50 (.rs 52 (.pair (.int .i64) (.pair (.int .i64) (.int .i64)))))), .c false (.v true (.int .i64))] [.c false (.v true (.int .i64))] fun x => F64 n x.1 x.2.1
noncomputable def tb64 (n : Nat) : Tb := ⟨tiOf Try.prog, conL [(104, con104 n)], n, [], 12, lpL [], ctL [], [], true⟩
noncomputable def code64 : Code := Try.f64.body.getD .skip
theorem tb64_ok (n : Nat) : (tb64 n).ok Try.prog := tbOk mixed (⟨con104_ok n, trivial⟩)
theorem blocks64 : blocks code64 = [] := by kernel_rfl
theorem la64 (n : Nat) : LpAll (tb64 n) code64 := lpAll blocks64 (bl_nil) rfl (cs_no fun _ => rfl) (by kernel_rfl)
theorem ev64 (n : Nat) (x : pdens [.c true (.v false (.rs 50 (.rs 52 (.pair (.int .i64) (.pair (.int .i64) (.int .i64)))))), .c false (.v true (.int .i64))]) : evSig (tb64 n) Try.f64 [.c true (.v false (.rs 50 (.rs 52 (.pair (.int .i64) (.pair (.int .i64) (.int .i64)))))), .c false (.v true (.int .i64))] [.c false (.v true (.int .i64))] x = F64 n x.1 x.2.1 := by kernel_rfl
theorem con64_ok (n : Nat) : Con.ok Try.prog 64 (con64 n) := conOf_ok (tb64_ok n) (body_la (by kernel_rfl : Try.f64.body = some code64) (la64 n)) Try.func64 (enters Try.func64 (by kernel_rfl) (by kernel_rfl)) rfl rfl (ev64 n)
end Go.Proofs.Ytaehbfaldofmbaa.Ev
