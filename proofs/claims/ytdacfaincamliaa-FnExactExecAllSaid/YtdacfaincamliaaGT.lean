/- Plain functions that the loaded code comes to, and that it does. Conditions: none. -/
import Derived.Test.YtdacfaincamliaaGM
namespace Go.Proofs.Ytdacfaincamliaa.Ev
open Go Go.Proofs
/-! ### loop.example/fathomline/laws.szDoS -/
def F92 (n : Nat) (a0 : List (Int × Int × Int)) (a1 : Int) : Option (rdens [.c false (.v false (.rs 154 yD)), .c false (.v true (.int .i64))] [.c false (.v true (.int .i64))]) :=
  cond (Decidable.decide (Go.IntKind.i64.wrap (a1 - (↑a0.length : Int)) < (0 : Int)))
  (some ((-1 : Int), ()))
  (some (Go.IntKind.i64.wrap (a1 - (↑a0.length : Int)), ()))
noncomputable def con92 (n : Nat) : Con := conOf [.c false (.v false (.rs 154 yD)), .c false (.v true (.int .i64))] [.c false (.v true (.int .i64))] fun x => F92 n x.1 x.2.1
noncomputable def tb92 (n : Nat) : Tb := ⟨tiOf Try.prog, conL [], n, [], 12, lpL [], ctL [], [], true⟩
noncomputable def code92 : Code := Try.f92.body.getD .skip
theorem tb92_ok (n : Nat) : (tb92 n).ok Try.prog := tbOk mixed (trivial)
theorem blocks92 : blocks code92 = [] := by kernel_rfl
theorem la92 (n : Nat) : LpAll (tb92 n) code92 := lpAll blocks92 (bl_nil) rfl (cs_no fun _ => rfl) (by kernel_rfl)
theorem ev92 (n : Nat) (x : pdens [.c false (.v false (.rs 154 yD)), .c false (.v true (.int .i64))]) : evSig (tb92 n) Try.f92 [.c false (.v false (.rs 154 yD)), .c false (.v true (.int .i64))] [.c false (.v true (.int .i64))] x = F92 n x.1 x.2.1 := by kernel_rfl
theorem con92_ok (n : Nat) : Con.ok Try.prog 92 (con92 n) := conOf_ok (tb92_ok n) (body_la (by kernel_rfl : Try.f92.body = some code92) (la92 n)) Try.func92 (enters Try.func92 (by kernel_rfl) (by kernel_rfl)) rfl rfl (ev92 n)
/-! ### loop.example/fathomline/laws.szDoSS -/
def L52_0 (n : Nat) : Nat → List (List (Int × Int × Int)) → Int → Int → Option (odens [(.ret, [(4, kI)]), ((.exit 0), [(1, kI)])])
  | 0, _, _, _ => none
  | m + 1, x1, x2, x3 =>
    cond (Decidable.decide (x3 < (↑x1.length : Int)))
    (if (0 : Int) ≤ x3 then
     if x3 < (↑x1.length : Int) then
     (F92 n (x1.getD x3.toNat []) (x2)).bind fun y4 =>
     cond (Decidable.decide (y4.fst < (0 : Int)))
     (some (Sum.inl ((-1 : Int), ())))
     (L52_0 n m (x1) (y4.fst) (Go.IntKind.i64.wrap (x3 + (1 : Int))))
     else none
     else none)
    (some (Sum.inr (Sum.inl (x2, ()))))
def F52 (n : Nat) (a0 : List (List (Int × Int × Int))) (a1 : Int) : Option (rdens [.c false (.v false (.rs 115 (.rs 154 yD))), .c false (.v true (.int .i64))] [.c false (.v true (.int .i64))]) :=
  cond (Decidable.decide (Go.IntKind.i64.wrap (a1 - (↑a0.length : Int)) < (0 : Int)))
  (some ((-1 : Int), ()))
  (match L52_0 n n (a0) (Go.IntKind.i64.wrap (a1 - (↑a0.length : Int))) ((0 : Int)) with
   | none => none
   | some (Sum.inl v5) =>
    some (v5.fst, ())
   | some (Sum.inr (Sum.inl v6)) =>
    some (v6.fst, ()))
noncomputable def con52 (n : Nat) : Con := conOf [.c false (.v false (.rs 115 (.rs 154 yD))), .c false (.v true (.int .i64))] [.c false (.v true (.int .i64))] fun x => F52 n x.1 x.2.1
noncomputable def tb52 (n : Nat) : Tb := ⟨tiOf Try.prog, conL [(92, con92 n)], n, [], 27, lpL [(0, ⟨[(0, (.c false (.v false (.rs 115 (.rs 154 yD))))), (1, kI), (5, kI)], [(.ret, [(4, kI)]), ((.exit 0), [(1, kI)])], fun m v => L52_0 n m v.1 v.2.1 v.2.2.1⟩)], ctL [], [], true⟩
noncomputable def code52 : Code := Try.f52.body.getD .skip
theorem tb52_ok (n : Nat) : (tb52 n).ok Try.prog := tbOk mixed (⟨con92_ok n, trivial⟩)
theorem lp52_0 (n : Nat) : LpAt (tb52 n) (loopBody code52 0) 0 := lpAt rfl (fun _ => by kernel_rfl) (fun _ _ => by kernel_rfl)
theorem blocks52 : blocks code52 = [(0, .loop (loopBody code52 0)), (1, blockBody code52 1)] := by kernel_rfl
theorem la52 (n : Nat) : LpAll (tb52 n) code52 := lpAll blocks52 (bl_loop (lp52_0 n) (bl_none rfl (bl_nil))) rfl (cs_no fun _ => rfl) (by kernel_rfl)
theorem ev52 (n : Nat) (x : pdens [.c false (.v false (.rs 115 (.rs 154 yD))), .c false (.v true (.int .i64))]) : evSig (tb52 n) Try.f52 [.c false (.v false (.rs 115 (.rs 154 yD))), .c false (.v true (.int .i64))] [.c false (.v true (.int .i64))] x = F52 n x.1 x.2.1 := by kernel_rfl
theorem con52_ok (n : Nat) : Con.ok Try.prog 52 (con52 n) := conOf_ok (tb52_ok n) (body_la (by kernel_rfl : Try.f52.body = some code52) (la52 n)) Try.func52 (enters Try.func52 (by kernel_rfl) (by kernel_rfl)) rfl rfl (ev52 n)
/-! ### loop.example/fathomline/laws.szProg -/
def F14 (n : Nat) (a0 : List (List (Int × Int × Int))) (a1 : Int) : Option (rdens [.c true (.v false (.rs 115 (.rs 154 yD))), .c false (.v true (.int .i64))] [.c false (.v true (.int .i64))]) :=
  (F52 n (a0) (a1)).bind fun y1 =>
  cond (Decidable.decide (y1.fst < (0 : Int)))
  (some ((-1 : Int), ()))
  (some (y1.fst, ()))
noncomputable def con14 (n : Nat) : Con := conOf [.c true (.v false (.rs 115 (.rs 154 yD))), .c false (.v true (.int .i64))] [.c false (.v true (.int .i64))] fun x => F14 n x.1 x.2.1
noncomputable def tb14 (n : Nat) : Tb := ⟨tiOf Try.prog, conL [(52, con52 n)], n, [], 12, lpL [], ctL [], [], true⟩
noncomputable def code14 : Code := Try.f14.body.getD .skip
theorem tb14_ok (n : Nat) : (tb14 n).ok Try.prog := tbOk mixed (⟨con52_ok n, trivial⟩)
theorem blocks14 : blocks code14 = [] := by kernel_rfl
theorem la14 (n : Nat) : LpAll (tb14 n) code14 := lpAll blocks14 (bl_nil) rfl (cs_no fun _ => rfl) (by kernel_rfl)
theorem ev14 (n : Nat) (x : pdens [.c true (.v false (.rs 115 (.rs 154 yD))), .c false (.v true (.int .i64))]) : evSig (tb14 n) Try.f14 [.c true (.v false (.rs 115 (.rs 154 yD))), .c false (.v true (.int .i64))] [.c false (.v true (.int .i64))] x = F14 n x.1 x.2.1 := by kernel_rfl
theorem con14_ok (n : Nat) : Con.ok Try.prog 14 (con14 n) := conOf_ok (tb14_ok n) (body_la (by kernel_rfl : Try.f14.body = some code14) (la14 n)) Try.func14 (enters Try.func14 (by kernel_rfl) (by kernel_rfl)) rfl rfl (ev14 n)
/-! ### loop.example/fathomline/laws.toDo -/
def F129 (n : Nat) (a0 : Int × Int × Int) : Option (rdens [.c true (.v true yD)] [.c true (.v true yD)]) :=
  some ((a0.fst, a0.snd.fst, a0.snd.snd), ())
noncomputable def con129 (n : Nat) : Con := conOf [.c true (.v true yD)] [.c true (.v true yD)] fun x => F129 n x.1
noncomputable def tb129 (n : Nat) : Tb := ⟨tiOf Try.prog, conL [], n, [], 14, lpL [], ctL [], [], true⟩
noncomputable def code129 : Code := Try.f129.body.getD .skip
theorem tb129_ok (n : Nat) : (tb129 n).ok Try.prog := tbOk mixed (trivial)
theorem blocks129 : blocks code129 = [] := by kernel_rfl
theorem la129 (n : Nat) : LpAll (tb129 n) code129 := lpAll blocks129 (bl_nil) rfl (cs_no fun _ => rfl) (by kernel_rfl)
theorem ev129 (n : Nat) (x : pdens [.c true (.v true yD)]) : evSig (tb129 n) Try.f129 [.c true (.v true yD)] [.c true (.v true yD)] x = F129 n x.1 := by kernel_rfl
theorem con129_ok (n : Nat) : Con.ok Try.prog 129 (con129 n) := conOf_ok (tb129_ok n) (body_la (by kernel_rfl : Try.f129.body = some code129) (la129 n)) Try.func129 (enters Try.func129 (by kernel_rfl) (by kernel_rfl)) rfl rfl (ev129 n)
/-! ### loop.example/fathomline/laws.toDoS -/
def L97_0 (n : Nat) : Nat → List (Int × Int × Int) → List (Int × Int × Int) → Int → Option (odens [((.exit 0), [(3, (.c false (.r 59 yD)))])])
  | 0, _, _, _ => none
  | m + 1, x1, x2, x3 =>
    cond (Decidable.decide (x3 < (↑x1.length : Int)))
    (if (0 : Int) ≤ x3 then
     if x3 < (↑x1.length : Int) then
     (F129 n (((x1.getD x3.toNat ((0 : Int), (0 : Int), (0 : Int))).fst, (x1.getD x3.toNat ((0 : Int), (0 : Int), (0 : Int))).snd.fst, (x1.getD x3.toNat ((0 : Int), (0 : Int), (0 : Int))).snd.snd))).bind fun y4 =>
     if (0 : Int) ≤ x3 then
     if x3 < (↑x2.length : Int) then
     if x3.toNat < x2.length then
     L97_0 n m (x1) (x2.set x3.toNat (y4.fst.fst, y4.fst.snd.fst, y4.fst.snd.snd)) (Go.IntKind.i64.wrap (x3 + (1 : Int)))
     else none
     else none
     else none
     else none
     else none)
    (some (Sum.inl (x2, ())))
def F97 (n : Nat) (a0 : List (Int × Int × Int)) : Option (rdens [.c false (.v false (.rs 154 yD))] [.c false (.r 59 yD)]) :=
  if (↑a0.length : Int) = (↑a0.length : Int) then
  if (↑a0.length : Int).toNat * (24 : Nat) ≤ (140737488355328 : Nat) then
  match L97_0 n n (a0) (List.replicate (↑a0.length : Int).toNat ((0 : Int), (0 : Int), (0 : Int))) ((0 : Int)) with
  | none => none
  | some (Sum.inl v5) =>
   some (v5.fst, ())
  else none
  else none
noncomputable def con97 (n : Nat) : Con := conOf [.c false (.v false (.rs 154 yD))] [.c false (.r 59 yD)] fun x => F97 n x.1
noncomputable def tb97 (n : Nat) : Tb := ⟨tiOf Try.prog, conL [(129, con129 n)], n, [], 23, lpL [(0, ⟨[(0, (.c false (.v false (.rs 154 yD)))), (3, (.c false (.r 59 yD))), (4, kI)], [((.exit 0), [(3, (.c false (.r 59 yD)))])], fun m v => L97_0 n m v.1 v.2.1 v.2.2.1⟩)], ctL [], [], true⟩
noncomputable def code97 : Code := Try.f97.body.getD .skip
theorem tb97_ok (n : Nat) : (tb97 n).ok Try.prog := tbOk mixed (⟨con129_ok n, trivial⟩)
theorem lp97_0 (n : Nat) : LpAt (tb97 n) (loopBody code97 0) 0 := lpAt rfl (fun _ => by kernel_rfl) (fun _ _ => by kernel_rfl)
theorem blocks97 : blocks code97 = [(0, .loop (loopBody code97 0)), (1, blockBody code97 1)] := by kernel_rfl
theorem la97 (n : Nat) : LpAll (tb97 n) code97 := lpAll blocks97 (bl_loop (lp97_0 n) (bl_none rfl (bl_nil))) rfl (cs_no fun _ => rfl) (by kernel_rfl)
theorem ev97 (n : Nat) (x : pdens [.c false (.v false (.rs 154 yD))]) : evSig (tb97 n) Try.f97 [.c false (.v false (.rs 154 yD))] [.c false (.r 59 yD)] x = F97 n x.1 := by kernel_rfl
theorem con97_ok (n : Nat) : Con.ok Try.prog 97 (con97 n) := conOf_ok (tb97_ok n) (body_la (by kernel_rfl : Try.f97.body = some code97) (la97 n)) Try.func97 (enters Try.func97 (by kernel_rfl) (by kernel_rfl)) rfl rfl (ev97 n)
/-! ### loop.example/fathomline/laws.toDoSS -/
def L57_0 (n : Nat) : Nat → List (List (Int × Int × Int)) → List (List (Int × Int × Int)) → Int → Option (odens [((.exit 0), [(3, (.c false (.o yP)))])])
  | 0, _, _, _ => none
  | m + 1, x1, x2, x3 =>
    cond (Decidable.decide (x3 < (↑x1.length : Int)))
    (if (0 : Int) ≤ x3 then
     if x3 < (↑x1.length : Int) then
     (F97 n (x1.getD x3.toNat [])).bind fun y4 =>
     if (0 : Int) ≤ x3 then
     if x3 < (↑x2.length : Int) then
     if x3.toNat < x2.length then
     if (List.take x3.toNat x2).length = x3.toNat then
     L57_0 n m (x1) (List.take x3.toNat x2 ++ y4.fst :: List.drop (x3.toNat + (1 : Nat)) x2) (Go.IntKind.i64.wrap (x3 + (1 : Int)))
     else none
     else none
     else none
     else none
     else none
     else none)
    (some (Sum.inl (x2, ())))
def F57 (n : Nat) (a0 : List (List (Int × Int × Int))) : Option (rdens [.c false (.v false (.rs 115 (.rs 154 yD)))] [.c false (.o yP)]) :=
  if (↑a0.length : Int) = (↑a0.length : Int) then
  if (↑a0.length : Int).toNat * (24 : Nat) ≤ (140737488355328 : Nat) then
  match L57_0 n n (a0) (List.replicate (↑a0.length : Int).toNat []) ((0 : Int)) with
  | none => none
  | some (Sum.inl v5) =>
   some (v5.fst, ())
  else none
  else none
noncomputable def con57 (n : Nat) : Con := conOf [.c false (.v false (.rs 115 (.rs 154 yD)))] [.c false (.o yP)] fun x => F57 n x.1
noncomputable def tb57 (n : Nat) : Tb := ⟨tiOf Try.prog, conL [(97, con97 n)], n, [], 23, lpL [(0, ⟨[(0, (.c false (.v false (.rs 115 (.rs 154 yD))))), (3, (.c false (.o yP))), (4, kI)], [((.exit 0), [(3, (.c false (.o yP)))])], fun m v => L57_0 n m v.1 v.2.1 v.2.2.1⟩)], ctL [], [], true⟩
noncomputable def code57 : Code := Try.f57.body.getD .skip
theorem tb57_ok (n : Nat) : (tb57 n).ok Try.prog := tbOk mixed (⟨con97_ok n, trivial⟩)
theorem lp57_0 (n : Nat) : LpAt (tb57 n) (loopBody code57 0) 0 := lpAt rfl (fun _ => by kernel_rfl) (fun _ _ => by kernel_rfl)
theorem blocks57 : blocks code57 = [(0, .loop (loopBody code57 0)), (1, blockBody code57 1)] := by kernel_rfl
theorem la57 (n : Nat) : LpAll (tb57 n) code57 := lpAll blocks57 (bl_loop (lp57_0 n) (bl_none rfl (bl_nil))) rfl (cs_no fun _ => rfl) (by kernel_rfl)
theorem ev57 (n : Nat) (x : pdens [.c false (.v false (.rs 115 (.rs 154 yD)))]) : evSig (tb57 n) Try.f57 [.c false (.v false (.rs 115 (.rs 154 yD)))] [.c false (.o yP)] x = F57 n x.1 := by kernel_rfl
theorem con57_ok (n : Nat) : Con.ok Try.prog 57 (con57 n) := conOf_ok (tb57_ok n) (body_la (by kernel_rfl : Try.f57.body = some code57) (la57 n)) Try.func57 (enters Try.func57 (by kernel_rfl) (by kernel_rfl)) rfl rfl (ev57 n)
/-! ### loop.example/fathomline/laws.toProg -/
def F16 (n : Nat) (a0 : List (List (Int × Int × Int))) : Option (rdens [.c true (.v false (.rs 115 (.rs 154 yD)))] [.c true (.o yP)]) :=
  (F57 n (a0)).bind fun y1 =>
  some (y1.fst, ())
noncomputable def con16 (n : Nat) : Con := conOf [.c true (.v false (.rs 115 (.rs 154 yD)))] [.c true (.o yP)] fun x => F16 n x.1
noncomputable def tb16 (n : Nat) : Tb := ⟨tiOf Try.prog, conL [(57, con57 n)], n, [], 9, lpL [], ctL [], [], true⟩
noncomputable def code16 : Code := Try.f16.body.getD .skip
theorem tb16_ok (n : Nat) : (tb16 n).ok Try.prog := tbOk mixed (⟨con57_ok n, trivial⟩)
theorem blocks16 : blocks code16 = [] := by kernel_rfl
theorem la16 (n : Nat) : LpAll (tb16 n) code16 := lpAll blocks16 (bl_nil) rfl (cs_no fun _ => rfl) (by kernel_rfl)
theorem ev16 (n : Nat) (x : pdens [.c true (.v false (.rs 115 (.rs 154 yD)))]) : evSig (tb16 n) Try.f16 [.c true (.v false (.rs 115 (.rs 154 yD)))] [.c true (.o yP)] x = F16 n x.1 := by kernel_rfl
theorem con16_ok (n : Nat) : Con.ok Try.prog 16 (con16 n) := conOf_ok (tb16_ok n) (body_la (by kernel_rfl : Try.f16.body = some code16) (la16 n)) Try.func16 (enters Try.func16 (by kernel_rfl) (by kernel_rfl)) rfl rfl (ev16 n)
/-! ### loop.example/fathomline/laws.eqDo -/
def F132 (n : Nat) (a0 : Int × Int × Int) (a1 : Int × Int × Int) : Option (rdens [.c true (.v true yD), .c true (.v true yD)] [.c false (.v true .bool)]) :=
  cond (a0.fst != a1.fst)
  (some (Bool.false, ()))
  (cond (a0.snd.fst != a1.snd.fst)
   (some (Bool.false, ()))
   (cond (a0.snd.snd != a1.snd.snd)
    (some (Bool.false, ()))
    (some (Bool.true, ()))))
noncomputable def con132 (n : Nat) : Con := conOf [.c true (.v true yD), .c true (.v true yD)] [.c false (.v true .bool)] fun x => F132 n x.1 x.2.1
noncomputable def tb132 (n : Nat) : Tb := ⟨tiOf Try.prog, conL [], n, [], 20, lpL [], ctL [], [], true⟩
noncomputable def code132 : Code := Try.f132.body.getD .skip
theorem tb132_ok (n : Nat) : (tb132 n).ok Try.prog := tbOk mixed (trivial)
theorem blocks132 : blocks code132 = [] := by kernel_rfl
theorem la132 (n : Nat) : LpAll (tb132 n) code132 := lpAll blocks132 (bl_nil) rfl (cs_no fun _ => rfl) (by kernel_rfl)
theorem ev132 (n : Nat) (x : pdens [.c true (.v true yD), .c true (.v true yD)]) : evSig (tb132 n) Try.f132 [.c true (.v true yD), .c true (.v true yD)] [.c false (.v true .bool)] x = F132 n x.1 x.2.1 := by kernel_rfl
theorem con132_ok (n : Nat) : Con.ok Try.prog 132 (con132 n) := conOf_ok (tb132_ok n) (body_la (by kernel_rfl : Try.f132.body = some code132) (la132 n)) Try.func132 (enters Try.func132 (by kernel_rfl) (by kernel_rfl)) rfl rfl (ev132 n)
/-! ### loop.example/fathomline/laws.eqDoS -/
def L102_0 (n : Nat) : Nat → List (Int × Int × Int) → List (Int × Int × Int) → Int → Option (odens [(.ret, [(4, kB)]), ((.exit 0), [])])
  | 0, _, _, _ => none
  | m + 1, x1, x2, x3 =>
    cond (Decidable.decide (x3 < (↑x1.length : Int)))
    (if (0 : Int) ≤ x3 then
     if x3 < (↑x1.length : Int) then
     if (0 : Int) ≤ x3 then
     if x3 < (↑x2.length : Int) then
     (F132 n (((x1.getD x3.toNat ((0 : Int), (0 : Int), (0 : Int))).fst, (x1.getD x3.toNat ((0 : Int), (0 : Int), (0 : Int))).snd.fst, (x1.getD x3.toNat ((0 : Int), (0 : Int), (0 : Int))).snd.snd)) (((x2.getD x3.toNat ((0 : Int), (0 : Int), (0 : Int))).fst, (x2.getD x3.toNat ((0 : Int), (0 : Int), (0 : Int))).snd.fst, (x2.getD x3.toNat ((0 : Int), (0 : Int), (0 : Int))).snd.snd))).bind fun y4 =>
     cond (!y4.fst)
     (some (Sum.inl (Bool.false, ())))
     (L102_0 n m (x1) (x2) (Go.IntKind.i64.wrap (x3 + (1 : Int))))
     else none
     else none
     else none
     else none)
    (some (Sum.inr (Sum.inl (()))))
def F102 (n : Nat) (a0 : List (Int × Int × Int)) (a1 : List (Int × Int × Int)) : Option (rdens [.c false (.v false (.rs 59 yD)), .c false (.v false (.rs 59 yD))] [.c false (.v true .bool)]) :=
  cond ((↑a0.length : Int) != (↑a1.length : Int))
  (some (Bool.false, ()))
  (match L102_0 n n (a0) (a1) ((0 : Int)) with
   | none => none
   | some (Sum.inl v5) =>
    some (v5.fst, ())
   | some (Sum.inr (Sum.inl v6)) =>
    some (Bool.true, ()))
noncomputable def con102 (n : Nat) : Con := conOf [.c false (.v false (.rs 59 yD)), .c false (.v false (.rs 59 yD))] [.c false (.v true .bool)] fun x => F102 n x.1 x.2.1
noncomputable def tb102 (n : Nat) : Tb := ⟨tiOf Try.prog, conL [(132, con132 n)], n, [], 27, lpL [(0, ⟨[(0, (.c false (.v false (.rs 59 yD)))), (1, (.c false (.v false (.rs 59 yD)))), (5, kI)], [(.ret, [(4, kB)]), ((.exit 0), [])], fun m v => L102_0 n m v.1 v.2.1 v.2.2.1⟩)], ctL [], [], true⟩
noncomputable def code102 : Code := Try.f102.body.getD .skip
theorem tb102_ok (n : Nat) : (tb102 n).ok Try.prog := tbOk mixed (⟨con132_ok n, trivial⟩)
theorem lp102_0 (n : Nat) : LpAt (tb102 n) (loopBody code102 0) 0 := lpAt rfl (fun _ => by kernel_rfl) (fun _ _ => by kernel_rfl)
theorem blocks102 : blocks code102 = [(0, .loop (loopBody code102 0)), (1, blockBody code102 1)] := by kernel_rfl
theorem la102 (n : Nat) : LpAll (tb102 n) code102 := lpAll blocks102 (bl_loop (lp102_0 n) (bl_none rfl (bl_nil))) rfl (cs_no fun _ => rfl) (by kernel_rfl)
theorem ev102 (n : Nat) (x : pdens [.c false (.v false (.rs 59 yD)), .c false (.v false (.rs 59 yD))]) : evSig (tb102 n) Try.f102 [.c false (.v false (.rs 59 yD)), .c false (.v false (.rs 59 yD))] [.c false (.v true .bool)] x = F102 n x.1 x.2.1 := by kernel_rfl
theorem con102_ok (n : Nat) : Con.ok Try.prog 102 (con102 n) := conOf_ok (tb102_ok n) (body_la (by kernel_rfl : Try.f102.body = some code102) (la102 n)) Try.func102 (enters Try.func102 (by kernel_rfl) (by kernel_rfl)) rfl rfl (ev102 n)
/-! ### loop.example/fathomline/laws.eqDoSS -/
def L59_0 (n : Nat) : Nat → List (List (Int × Int × Int)) → List (List (Int × Int × Int)) → Int → Option (odens [(.ret, [(4, kB)]), ((.exit 0), [])])
  | 0, _, _, _ => none
  | m + 1, x1, x2, x3 =>
    cond (Decidable.decide (x3 < (↑x1.length : Int)))
    (if (0 : Int) ≤ x3 then
     if x3 < (↑x1.length : Int) then
     if (0 : Int) ≤ x3 then
     if x3 < (↑x2.length : Int) then
     (F102 n (x1.getD x3.toNat []) (x2.getD x3.toNat [])).bind fun y4 =>
     cond (!y4.fst)
     (some (Sum.inl (Bool.false, ())))
     (L59_0 n m (x1) (x2) (Go.IntKind.i64.wrap (x3 + (1 : Int))))
     else none
     else none
     else none
     else none)
    (some (Sum.inr (Sum.inl (()))))
def F59 (n : Nat) (a0 : List (List (Int × Int × Int))) (a1 : List (List (Int × Int × Int))) : Option (rdens [.c false (.v false yP), .c false (.v false yP)] [.c false (.v true .bool)]) :=
  cond ((↑a0.length : Int) != (↑a1.length : Int))
  (some (Bool.false, ()))
  (match L59_0 n n (a0) (a1) ((0 : Int)) with
   | none => none
   | some (Sum.inl v5) =>
    some (v5.fst, ())
   | some (Sum.inr (Sum.inl v6)) =>
    some (Bool.true, ()))
noncomputable def con59 (n : Nat) : Con := conOf [.c false (.v false yP), .c false (.v false yP)] [.c false (.v true .bool)] fun x => F59 n x.1 x.2.1
noncomputable def tb59 (n : Nat) : Tb := ⟨tiOf Try.prog, conL [(102, con102 n)], n, [], 27, lpL [(0, ⟨[(0, (.c false (.v false yP))), (1, (.c false (.v false yP))), (5, kI)], [(.ret, [(4, kB)]), ((.exit 0), [])], fun m v => L59_0 n m v.1 v.2.1 v.2.2.1⟩)], ctL [], [], true⟩
noncomputable def code59 : Code := Try.f59.body.getD .skip
theorem tb59_ok (n : Nat) : (tb59 n).ok Try.prog := tbOk mixed (⟨con102_ok n, trivial⟩)
theorem lp59_0 (n : Nat) : LpAt (tb59 n) (loopBody code59 0) 0 := lpAt rfl (fun _ => by kernel_rfl) (fun _ _ => by kernel_rfl)
theorem blocks59 : blocks code59 = [(0, .loop (loopBody code59 0)), (1, blockBody code59 1)] := by kernel_rfl
theorem la59 (n : Nat) : LpAll (tb59 n) code59 := lpAll blocks59 (bl_loop (lp59_0 n) (bl_none rfl (bl_nil))) rfl (cs_no fun _ => rfl) (by kernel_rfl)
theorem ev59 (n : Nat) (x : pdens [.c false (.v false yP), .c false (.v false yP)]) : evSig (tb59 n) Try.f59 [.c false (.v false yP), .c false (.v false yP)] [.c false (.v true .bool)] x = F59 n x.1 x.2.1 := by kernel_rfl
theorem con59_ok (n : Nat) : Con.ok Try.prog 59 (con59 n) := conOf_ok (tb59_ok n) (body_la (by kernel_rfl : Try.f59.body = some code59) (la59 n)) Try.func59 (enters Try.func59 (by kernel_rfl) (by kernel_rfl)) rfl rfl (ev59 n)
/-! ### loop.example/fathomline/laws.eqProg -/
def F20 (n : Nat) (a0 : List (List (Int × Int × Int))) (a1 : List (List (Int × Int × Int))) : Option (rdens [.c true (.v false yP), .c true (.v false yP)] [.c false (.v true .bool)]) :=
  (F59 n (a0) (a1)).bind fun y1 =>
  cond (!y1.fst)
  (some (Bool.false, ()))
  (some (Bool.true, ()))
noncomputable def con20 (n : Nat) : Con := conOf [.c true (.v false yP), .c true (.v false yP)] [.c false (.v true .bool)] fun x => F20 n x.1 x.2.1
noncomputable def tb20 (n : Nat) : Tb := ⟨tiOf Try.prog, conL [(59, con59 n)], n, [], 11, lpL [], ctL [], [], true⟩
noncomputable def code20 : Code := Try.f20.body.getD .skip
theorem tb20_ok (n : Nat) : (tb20 n).ok Try.prog := tbOk mixed (⟨con59_ok n, trivial⟩)
theorem blocks20 : blocks code20 = [] := by kernel_rfl
theorem la20 (n : Nat) : LpAll (tb20 n) code20 := lpAll blocks20 (bl_nil) rfl (cs_no fun _ => rfl) (by kernel_rfl)
theorem ev20 (n : Nat) (x : pdens [.c true (.v false yP), .c true (.v false yP)]) : evSig (tb20 n) Try.f20 [.c true (.v false yP), .c true (.v false yP)] [.c false (.v true .bool)] x = F20 n x.1 x.2.1 := by kernel_rfl
theorem con20_ok (n : Nat) : Con.ok Try.prog 20 (con20 n) := conOf_ok (tb20_ok n) (body_la (by kernel_rfl : Try.f20.body = some code20) (la20 n)) Try.func20 (enters Try.func20 (by kernel_rfl) (by kernel_rfl)) rfl rfl (ev20 n)
end Go.Proofs.Ytdacfaincamliaa.Ev
