/- Plain functions that the loaded code comes to, and that it does. Conditions: none. -/
import Derived.Test.YtaehbfaldofmbaaGI
namespace Go.Proofs.Ytaehbfaldofmbaa.Ev
open Go Go.Proofs
/-! ### loop.example/fathomline/laws.szIntS -/
def F75 (n : Nat) (a0 : List Int) (a1 : Int) : Option (rdens [.c false (.v false (.rs 3 (.int .i64))), .c false (.v true (.int .i64))] [.c false (.v true (.int .i64))]) :=
  cond (Decidable.decide (Go.IntKind.i64.wrap (a1 - (↑a0.length : Int)) < (0 : Int)))
  (some ((-1 : Int), ()))
  (some (Go.IntKind.i64.wrap (a1 - (↑a0.length : Int)), ()))
noncomputable def con75 (n : Nat) : Con := conOf [.c false (.v false (.rs 3 (.int .i64))), .c false (.v true (.int .i64))] [.c false (.v true (.int .i64))] fun x => F75 n x.1 x.2.1
noncomputable def tb75 (n : Nat) : Tb := ⟨tiOf Try.prog, conL [], n, [], 12, lpL [], ctL [], [], true⟩
noncomputable def code75 : Code := Try.f75.body.getD .skip
theorem tb75_ok (n : Nat) : (tb75 n).ok Try.prog := tbOk mixed (trivial)
theorem blocks75 : blocks code75 = [] := by kernel_rfl
theorem la75 (n : Nat) : LpAll (tb75 n) code75 := lpAll blocks75 (bl_nil) rfl (cs_no fun _ => rfl) (by kernel_rfl)
theorem ev75 (n : Nat) (x : pdens [.c false (.v false (.rs 3 (.int .i64))), .c false (.v true (.int .i64))]) : evSig (tb75 n) Try.f75 [.c false (.v false (.rs 3 (.int .i64))), .c false (.v true (.int .i64))] [.c false (.v true (.int .i64))] x = F75 n x.1 x.2.1 := by kernel_rfl
theorem con75_ok (n : Nat) : Con.ok Try.prog 75 (con75 n) := conOf_ok (tb75_ok n) (body_la (by kernel_rfl : Try.f75.body = some code75) (la75 n)) Try.func75 (enters Try.func75 (by kernel_rfl) (by kernel_rfl)) rfl rfl (ev75 n)
/-! ### loop.example/fathomline/laws.szSeen -/
def F24 (n : Nat) (a0 : List Int × List Int) (a1 : Int) : Option (rdens [.c true (.v false (.pair (.rs 3 (.int .i64)) (.rs 3 (.int .i64)))), .c false (.v true (.int .i64))] [.c false (.v true (.int .i64))]) :=
  (F75 n (a0.fst) (a1)).bind fun y1 =>
  cond (Decidable.decide (y1.fst < (0 : Int)))
  (some ((-1 : Int), ()))
  ((F75 n (a0.snd) (y1.fst)).bind fun y2 =>
   cond (Decidable.decide (y2.fst < (0 : Int)))
   (some ((-1 : Int), ()))
   (some (y2.fst, ())))
noncomputable def con24 (n : Nat) : Con := conOf [.c true (.v false (.pair (.rs 3 (.int .i64)) (.rs 3 (.int .i64)))), .c false (.v true (.int .i64))] [.c false (.v true (.int .i64))] fun x => F24 n x.1 x.2.1
noncomputable def tb24 (n : Nat) : Tb := ⟨tiOf Try.prog, conL [(75, con75 n)], n, [], 18, lpL [], ctL [], [], true⟩
noncomputable def code24 : Code := Try.f24.body.getD .skip
theorem tb24_ok (n : Nat) : (tb24 n).ok Try.prog := tbOk mixed (⟨con75_ok n, trivial⟩)
theorem blocks24 : blocks code24 = [] := by kernel_rfl
theorem la24 (n : Nat) : LpAll (tb24 n) code24 := lpAll blocks24 (bl_nil) rfl (cs_no fun _ => rfl) (by kernel_rfl)
theorem ev24 (n : Nat) (x : pdens [.c true (.v false (.pair (.rs 3 (.int .i64)) (.rs 3 (.int .i64)))), .c false (.v true (.int .i64))]) : evSig (tb24 n) Try.f24 [.c true (.v false (.pair (.rs 3 (.int .i64)) (.rs 3 (.int .i64)))), .c false (.v true (.int .i64))] [.c false (.v true (.int .i64))] x = F24 n x.1 x.2.1 := by kernel_rfl
theorem con24_ok (n : Nat) : Con.ok Try.prog 24 (con24 n) := conOf_ok (tb24_ok n) (body_la (by kernel_rfl : Try.f24.body = some code24) (la24 n)) Try.func24 (enters Try.func24 (by kernel_rfl) (by kernel_rfl)) rfl rfl (ev24 n)
/-! ### loop.example/fathomline/laws.toSeen -/
def F26 (n : Nat) (a0 : List Int × List Int) : Option (rdens [.c true (.v false (.pair (.rs 3 (.int .i64)) (.rs 3 (.int .i64))))] [.c true (.o (.pair (.rs 3 (.int .i64)) (.rs 3 (.int .i64))))]) :=
  (F65 n (a0.fst)).bind fun y1 =>
  (F65 n (a0.snd)).bind fun y2 =>
  some ((y1.fst, y2.fst), ())
noncomputable def con26 (n : Nat) : Con := conOf [.c true (.v false (.pair (.rs 3 (.int .i64)) (.rs 3 (.int .i64))))] [.c true (.o (.pair (.rs 3 (.int .i64)) (.rs 3 (.int .i64))))] fun x => F26 n x.1
noncomputable def tb26 (n : Nat) : Tb := ⟨tiOf Try.prog, conL [(65, con65 n)], n, [], 13, lpL [], ctL [], [], true⟩
noncomputable def code26 : Code := Try.f26.body.getD .skip
theorem tb26_ok (n : Nat) : (tb26 n).ok Try.prog := tbOk mixed (⟨con65_ok n, trivial⟩)
theorem blocks26 : blocks code26 = [] := by kernel_rfl
theorem la26 (n : Nat) : LpAll (tb26 n) code26 := lpAll blocks26 (bl_nil) rfl (cs_no fun _ => rfl) (by kernel_rfl)
theorem ev26 (n : Nat) (x : pdens [.c true (.v false (.pair (.rs 3 (.int .i64)) (.rs 3 (.int .i64))))]) : evSig (tb26 n) Try.f26 [.c true (.v false (.pair (.rs 3 (.int .i64)) (.rs 3 (.int .i64))))] [.c true (.o (.pair (.rs 3 (.int .i64)) (.rs 3 (.int .i64))))] x = F26 n x.1 := by kernel_rfl
theorem con26_ok (n : Nat) : Con.ok Try.prog 26 (con26 n) := conOf_ok (tb26_ok n) (body_la (by kernel_rfl : Try.f26.body = some code26) (la26 n)) Try.func26 (enters Try.func26 (by kernel_rfl) (by kernel_rfl)) rfl rfl (ev26 n)
/-! ### loop.example/fathomline/laws.eqSeen -/
def F28 (n : Nat) (a0 : List Int × List Int) (a1 : List Int × List Int) : Option (rdens [.c true (.v false (.pair (.rs 3 (.int .i64)) (.rs 3 (.int .i64)))), .c true (.v false (.pair (.rs 3 (.int .i64)) (.rs 3 (.int .i64))))] [.c false (.v true .bool)]) :=
  (F66 n (a0.fst) (a1.fst)).bind fun y1 =>
  cond (!y1.fst)
  (some (Bool.false, ()))
  ((F66 n (a0.snd) (a1.snd)).bind fun y2 =>
   cond (!y2.fst)
   (some (Bool.false, ()))
   (some (Bool.true, ())))
noncomputable def con28 (n : Nat) : Con := conOf [.c true (.v false (.pair (.rs 3 (.int .i64)) (.rs 3 (.int .i64)))), .c true (.v false (.pair (.rs 3 (.int .i64)) (.rs 3 (.int .i64))))] [.c false (.v true .bool)] fun x => F28 n x.1 x.2.1
noncomputable def tb28 (n : Nat) : Tb := ⟨tiOf Try.prog, conL [(66, con66 n)], n, [], 17, lpL [], ctL [], [], true⟩
noncomputable def code28 : Code := Try.f28.body.getD .skip
theorem tb28_ok (n : Nat) : (tb28 n).ok Try.prog := tbOk mixed (⟨con66_ok n, trivial⟩)
theorem blocks28 : blocks code28 = [] := by kernel_rfl
theorem la28 (n : Nat) : LpAll (tb28 n) code28 := lpAll blocks28 (bl_nil) rfl (cs_no fun _ => rfl) (by kernel_rfl)
theorem ev28 (n : Nat) (x : pdens [.c true (.v false (.pair (.rs 3 (.int .i64)) (.rs 3 (.int .i64)))), .c true (.v false (.pair (.rs 3 (.int .i64)) (.rs 3 (.int .i64))))]) : evSig (tb28 n) Try.f28 [.c true (.v false (.pair (.rs 3 (.int .i64)) (.rs 3 (.int .i64)))), .c true (.v false (.pair (.rs 3 (.int .i64)) (.rs 3 (.int .i64))))] [.c false (.v true .bool)] x = F28 n x.1 x.2.1 := by kernel_rfl
theorem con28_ok (n : Nat) : Con.ok Try.prog 28 (con28 n) := conOf_ok (tb28_ok n) (body_la (by kernel_rfl : Try.f28.body = some code28) (la28 n)) Try.func28 (enters Try.func28 (by kernel_rfl) (by kernel_rfl)) rfl rfl (ev28 n)
end Go.Proofs.Ytaehbfaldofmbaa.Ev
