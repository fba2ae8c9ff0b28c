/- Plain functions that the loaded code comes to, and that it does. Conditions: none. -/
import Derived.Test.YtdacfaincamliaaGreatGF
namespace Go.Proofs.YtdacfaincamliaaGreat.Ev
open Go Go.Proofs
/-! ### loop.example/fathomline/spec.l13Rank -/
def L40_0 (n : Nat) : Nat → List Int → Int → Int → Option (odens [(.ret, [(4, (.c false (.v true (.int .i64))))]), ((.exit 0), [])])
  | 0, _, _, _ => none
  | m + 1, x1, x2, x3 =>
    cond (Decidable.decide (x3 < (↑x1.length : Int)))
    (if (0 : Int) ≤ x3 then
     if x3 < (↑x1.length : Int) then
     cond (x1.getD x3.toNat (0 : Int) == x2)
     (some (Sum.inl (x3, ())))
     (L40_0 n m (x1) (x2) (Go.IntKind.i64.wrap (x3 + (1 : Int))))
     else none
     else none)
    (some (Sum.inr (Sum.inl (()))))
def F40 (n : Nat) (a0 : List Int) (a1 : Int) : Option (rdens [.c false (.v false (.rs 3 (.int .i64))), .c false (.v true (.int .i64))] [.c false (.v true (.int .i64))]) :=
  match L40_0 n n (a0) (a1) ((0 : Int)) with
  | none => none
  | some (Sum.inl v4) =>
   some (v4.fst, ())
  | some (Sum.inr (Sum.inl v5)) =>
   some ((-1 : Int), ())
noncomputable def con40 (n : Nat) : Con := conOf [.c false (.v false (.rs 3 (.int .i64))), .c false (.v true (.int .i64))] [.c false (.v true (.int .i64))] fun x => F40 n x.1 x.2.1
noncomputable def tb40 (n : Nat) : Tb := ⟨tiOf Tryz.prog, conL [], n, [], 19, lpL [(0, ⟨[(0, (.c false (.v false (.rs 3 (.int .i64))))), (1, (.c false (.v true (.int .i64)))), (5, (.c false (.v true (.int .i64))))], [(.ret, [(4, (.c false (.v true (.int .i64))))]), ((.exit 0), [])], fun m v => L40_0 n m v.1 v.2.1 v.2.2.1⟩)], ctL [], [], true⟩
noncomputable def code40 : Code := Tryz.f40.body.getD .skip
theorem tb40_ok (n : Nat) : (tb40 n).ok Tryz.prog := tbOk mixed (trivial)
theorem lp40_0 (n : Nat) : LpAt (tb40 n) (loopBody code40 0) 0 := lpAt rfl (fun _ => by kernel_rfl) (fun _ _ => by kernel_rfl)
theorem blocks40 : blocks code40 = [(0, .loop (loopBody code40 0)), (1, blockBody code40 1)] := by kernel_rfl
theorem la40 (n : Nat) : LpAll (tb40 n) code40 := lpAll blocks40 (bl_loop (lp40_0 n) (bl_none rfl (bl_nil))) rfl (cs_no fun _ => rfl) (by kernel_rfl)
theorem ev40 (n : Nat) (x : pdens [.c false (.v false (.rs 3 (.int .i64))), .c false (.v true (.int .i64))]) : evSig (tb40 n) Tryz.f40 [.c false (.v false (.rs 3 (.int .i64))), .c false (.v true (.int .i64))] [.c false (.v true (.int .i64))] x = F40 n x.1 x.2.1 := by kernel_rfl
theorem con40_ok (n : Nat) : Con.ok Tryz.prog 40 (con40 n) := conOf_ok (tb40_ok n) (body_la (by kernel_rfl : Tryz.f40.body = some code40) (la40 n)) Tryz.func40 (enters Tryz.func40 (by kernel_rfl) (by kernel_rfl)) rfl rfl (ev40 n)
/-! ### loop.example/fathomline/spec.l13Wall -/
def F61 (n : Nat) (a0 : Int × Int × Int) : Option (rdens [.c true (.v true (.pair (.int .i64) (.pair (.int .i64) (.int .i64))))] [.c false (.v true .bool)]) :=
  cond (a0.fst == (4 : Int))
  (some (Bool.true, ()))
  (some (a0.fst == (9 : Int), ()))
noncomputable def con61 (n : Nat) : Con := conOf [.c true (.v true (.pair (.int .i64) (.pair (.int .i64) (.int .i64))))] [.c false (.v true .bool)] fun x => F61 n x.1
noncomputable def tb61 (n : Nat) : Tb := ⟨tiOf Tryz.prog, conL [], n, [], 11, lpL [], ctL [], [], true⟩
noncomputable def code61 : Code := Tryz.f61.body.getD .skip
theorem tb61_ok (n : Nat) : (tb61 n).ok Tryz.prog := tbOk mixed (trivial)
theorem blocks61 : blocks code61 = [] := by kernel_rfl
theorem la61 (n : Nat) : LpAll (tb61 n) code61 := lpAll blocks61 (bl_nil) rfl (cs_no fun _ => rfl) (by kernel_rfl)
theorem ev61 (n : Nat) (x : pdens [.c true (.v true (.pair (.int .i64) (.pair (.int .i64) (.int .i64))))]) : evSig (tb61 n) Tryz.f61 [.c true (.v true (.pair (.int .i64) (.pair (.int .i64) (.int .i64))))] [.c false (.v true .bool)] x = F61 n x.1 := by kernel_rfl
theorem con61_ok (n : Nat) : Con.ok Tryz.prog 61 (con61 n) := conOf_ok (tb61_ok n) (body_la (by kernel_rfl : Tryz.f61.body = some code61) (la61 n)) Tryz.func61 (enters Tryz.func61 (by kernel_rfl) (by kernel_rfl)) rfl rfl (ev61 n)
/-! ### (*loop.example/fathomline/spec.l13Ord).do -/
def F38 (n : Nat) (a0 : List (List (Int × Int × Int)) × List (Int × Int × Bool) × List Bool × List Bool × List Int × List Int) (a1 : Int) : Option (rdens [.c false (.f (.pt false (.pair (.rs 57 (.rs 72 (.pair (.int .i64) (.pair (.int .i64) (.int .i64))))) (.pair (.rs 76 (.pair (.int .i64) (.pair (.int .i64) .bool))) (.pair (.rs 4 .bool) (.pair (.rs 4 .bool) (.pair (.rs 3 (.int .i64)) (.rs 3 (.int .i64))))))))), .c false (.v true (.int .i64))] [.c true (.v true (.pair (.int .i64) (.pair (.int .i64) (.int .i64))))]) :=
  if (0 : Int) ≤ a1 then
  if a1 < (↑(List.length a0.snd.fst) : Int) then
  (F59 n (a0.fst) (((List.getD a0.snd.fst a1.toNat ((0 : Int), (0 : Int), Bool.false)).fst, (List.getD a0.snd.fst a1.toNat ((0 : Int), (0 : Int), Bool.false)).snd.fst, (List.getD a0.snd.fst a1.toNat ((0 : Int), (0 : Int), Bool.false)).snd.snd))).bind fun y1 =>
  some ((y1.fst.fst, y1.fst.snd.fst, y1.fst.snd.snd), ())
  else none
  else none
noncomputable def con38 (n : Nat) : Con := conOf [.c false (.f (.pt false (.pair (.rs 57 (.rs 72 (.pair (.int .i64) (.pair (.int .i64) (.int .i64))))) (.pair (.rs 76 (.pair (.int .i64) (.pair (.int .i64) .bool))) (.pair (.rs 4 .bool) (.pair (.rs 4 .bool) (.pair (.rs 3 (.int .i64)) (.rs 3 (.int .i64))))))))), .c false (.v true (.int .i64))] [.c true (.v true (.pair (.int .i64) (.pair (.int .i64) (.int .i64))))] fun x => F38 n x.1 x.2.1
noncomputable def tb38 (n : Nat) : Tb := ⟨tiOf Tryz.prog, conL [(59, con59 n)], n, [], 17, lpL [], ctL [], [], true⟩
noncomputable def code38 : Code := Tryz.f38.body.getD .skip
theorem tb38_ok (n : Nat) : (tb38 n).ok Tryz.prog := tbOk mixed (⟨con59_ok n, trivial⟩)
theorem blocks38 : blocks code38 = [] := by kernel_rfl
theorem la38 (n : Nat) : LpAll (tb38 n) code38 := lpAll blocks38 (bl_nil) rfl (cs_no fun _ => rfl) (by kernel_rfl)
theorem ev38 (n : Nat) (x : pdens [.c false (.f (.pt false (.pair (.rs 57 (.rs 72 (.pair (.int .i64) (.pair (.int .i64) (.int .i64))))) (.pair (.rs 76 (.pair (.int .i64) (.pair (.int .i64) .bool))) (.pair (.rs 4 .bool) (.pair (.rs 4 .bool) (.pair (.rs 3 (.int .i64)) (.rs 3 (.int .i64))))))))), .c false (.v true (.int .i64))]) : evSig (tb38 n) Tryz.f38 [.c false (.f (.pt false (.pair (.rs 57 (.rs 72 (.pair (.int .i64) (.pair (.int .i64) (.int .i64))))) (.pair (.rs 76 (.pair (.int .i64) (.pair (.int .i64) .bool))) (.pair (.rs 4 .bool) (.pair (.rs 4 .bool) (.pair (.rs 3 (.int .i64)) (.rs 3 (.int .i64))))))))), .c false (.v true (.int .i64))] [.c true (.v true (.pair (.int .i64) (.pair (.int .i64) (.int .i64))))] x = F38 n x.1 x.2.1 := by kernel_rfl
theorem con38_ok (n : Nat) : Con.ok Tryz.prog 38 (con38 n) := conOf_ok (tb38_ok n) (body_la (by kernel_rfl : Tryz.f38.body = some code38) (la38 n)) Tryz.func38 (enters Tryz.func38 (by kernel_rfl) (by kernel_rfl)) rfl rfl (ev38 n)
/-! ### loop.example/fathomline/spec.l13Look -/
def L17_0 (n : Nat) : Nat → List (List (Int × Int × Int)) × List (Int × Int × Bool) × List Bool × List Bool × List Int × List Int × Unit → Int → Option (odens [((.exit 0), [(3, (.b 51 [(.v true (.rs 57 (.rs 72 (.pair (.int .i64) (.pair (.int .i64) (.int .i64)))))), (.r 76 (.pair (.int .i64) (.pair (.int .i64) .bool))), (.r 4 .bool), (.r 4 .bool), (.r 3 (.int .i64)), (.r 3 (.int .i64))]))])])
  | 0, _, _ => none
  | m + 1, x2, x3 =>
    cond (Decidable.decide (x3 < (↑(List.length x2.snd.fst) : Int)))
    ((F38 n ((x2.fst, x2.snd.fst, x2.snd.snd.fst, x2.snd.snd.snd.fst, x2.snd.snd.snd.snd.fst, x2.snd.snd.snd.snd.snd.fst)) (x3)).bind fun y4 =>
     (F37 n ((y4.fst.fst, y4.fst.snd.fst, y4.fst.snd.snd))).bind fun y5 =>
     if (List.length x2.snd.snd.fst + [y5.fst].length) * (1 : Nat) ≤ (140737488355328 : Nat) then
     (F38 n ((x2.fst, x2.snd.fst, x2.snd.snd.fst ++ [y5.fst], x2.snd.snd.snd.fst, x2.snd.snd.snd.snd.fst, x2.snd.snd.snd.snd.snd.fst)) (x3)).bind fun y6 =>
     (F39 n ((y6.fst.fst, y6.fst.snd.fst, y6.fst.snd.snd))).bind fun y7 =>
     if (List.length x2.snd.snd.snd.fst + [y7.fst].length) * (1 : Nat) ≤ (140737488355328 : Nat) then
     L17_0 n m ((x2.fst, x2.snd.fst, x2.snd.snd.fst ++ [y5.fst], x2.snd.snd.snd.fst ++ [y7.fst], x2.snd.snd.snd.snd.fst, x2.snd.snd.snd.snd.snd.fst, ())) (Go.IntKind.i64.wrap (x3 + (1 : Int)))
     else none
     else none)
    (some (Sum.inl ((x2.fst, x2.snd.fst, x2.snd.snd.fst, x2.snd.snd.snd.fst, x2.snd.snd.snd.snd.fst, x2.snd.snd.snd.snd.snd.fst, ()), ())))
def F17 (n : Nat) (a0 : List (List (Int × Int × Int))) : Option (rdens [.c true (.v true (.rs 57 (.rs 72 (.pair (.int .i64) (.pair (.int .i64) (.int .i64))))))] [.b 51 [.v true (.pair (.rs 57 (.rs 72 (.pair (.int .i64) (.pair (.int .i64) (.int .i64))))) (.pair (.rs 76 (.pair (.int .i64) (.pair (.int .i64) .bool))) (.pair (.rs 4 .bool) (.pair (.rs 4 .bool) (.pair (.rs 3 (.int .i64)) (.rs 3 (.int .i64)))))))]]) :=
  (F34 n (a0)).bind fun y1 =>
  match L17_0 n n ((a0, y1.fst, [], [], [], [], ())) ((0 : Int)) with
  | none => none
  | some (Sum.inl v8) =>
   some (((v8.fst.fst, v8.fst.snd.fst, v8.fst.snd.snd.fst, v8.fst.snd.snd.snd.fst, v8.fst.snd.snd.snd.snd.fst, v8.fst.snd.snd.snd.snd.snd.fst), ()), ())
noncomputable def con17 (n : Nat) : Con := conAl (conOf [.c true (.v true (.rs 57 (.rs 72 (.pair (.int .i64) (.pair (.int .i64) (.int .i64))))))] [.b 51 [.v true (.pair (.rs 57 (.rs 72 (.pair (.int .i64) (.pair (.int .i64) (.int .i64))))) (.pair (.rs 76 (.pair (.int .i64) (.pair (.int .i64) .bool))) (.pair (.rs 4 .bool) (.pair (.rs 4 .bool) (.pair (.rs 3 (.int .i64)) (.rs 3 (.int .i64)))))))]] fun x => F17 n x.1)
noncomputable def tb17 (n : Nat) : Tb := ⟨tiOf Tryz.prog, conL [(34, con34 n), (38, con38 n), (37, con37 n), (39, con39 n)], n, [], 46, lpL [(0, ⟨[(3, (.b 51 [(.v true (.rs 57 (.rs 72 (.pair (.int .i64) (.pair (.int .i64) (.int .i64)))))), (.r 76 (.pair (.int .i64) (.pair (.int .i64) .bool))), (.r 4 .bool), (.r 4 .bool), (.r 3 (.int .i64)), (.r 3 (.int .i64))])), (4, (.c false (.v true (.int .i64))))], [((.exit 0), [(3, (.b 51 [(.v true (.rs 57 (.rs 72 (.pair (.int .i64) (.pair (.int .i64) (.int .i64)))))), (.r 76 (.pair (.int .i64) (.pair (.int .i64) .bool))), (.r 4 .bool), (.r 4 .bool), (.r 3 (.int .i64)), (.r 3 (.int .i64))]))])], fun m v => L17_0 n m v.1 v.2.1⟩)], ctL [], [], true⟩
noncomputable def code17 : Code := Tryz.f17.body.getD .skip
theorem tb17_ok (n : Nat) : (tb17 n).ok Tryz.prog := tbOk mixed (⟨con34_ok n, ⟨con38_ok n, ⟨con37_ok n, ⟨con39_ok n, trivial⟩⟩⟩⟩)
theorem lp17_0 (n : Nat) : LpAt (tb17 n) (loopBody code17 0) 0 := lpAt rfl (fun _ => by kernel_rfl) (fun _ _ => by kernel_rfl)
theorem blocks17 : blocks code17 = [(0, .loop (loopBody code17 0)), (1, blockBody code17 1)] := by kernel_rfl
theorem la17 (n : Nat) : LpAll (tb17 n) code17 := lpAll blocks17 (bl_loop (lp17_0 n) (bl_none rfl (bl_nil))) rfl (cs_no fun _ => rfl) (by kernel_rfl)
theorem ev17 (n : Nat) (x : pdens [.c true (.v true (.rs 57 (.rs 72 (.pair (.int .i64) (.pair (.int .i64) (.int .i64))))))]) : evSig (tb17 n) Tryz.f17 [.c true (.v true (.rs 57 (.rs 72 (.pair (.int .i64) (.pair (.int .i64) (.int .i64))))))] [.b 51 [.v true (.pair (.rs 57 (.rs 72 (.pair (.int .i64) (.pair (.int .i64) (.int .i64))))) (.pair (.rs 76 (.pair (.int .i64) (.pair (.int .i64) .bool))) (.pair (.rs 4 .bool) (.pair (.rs 4 .bool) (.pair (.rs 3 (.int .i64)) (.rs 3 (.int .i64)))))))]] x = F17 n x.1 := by kernel_rfl
theorem con17_ok (n : Nat) : Con.ok Tryz.prog 17 (con17 n) := conAl_ok (conOf_ok (tb17_ok n) (body_la (by kernel_rfl : Tryz.f17.body = some code17) (la17 n)) Tryz.func17 (enters Tryz.func17 (by kernel_rfl) (by kernel_rfl)) rfl rfl (ev17 n))
/-! ### (*loop.example/fathomline/spec.l13Ord).way -/
def J18_5 (n : Nat) (x6 : List (List (Int × Int × Int)) × List (Int × Int × Bool) × List Bool × List Bool × List Int × List Int × Unit) (x7 : (List Int × List (List Int)) × Unit) (x8 : Int) : Option (odens [(.normal, [(0, (.b 51 [(.v true (.rs 57 (.rs 72 (.pair (.int .i64) (.pair (.int .i64) (.int .i64)))))), (.v true (.rs 76 (.pair (.int .i64) (.pair (.int .i64) .bool)))), (.v true (.rs 4 .bool)), (.v true (.rs 4 .bool)), (.v true (.rs 3 (.int .i64))), (.r 3 (.int .i64))])), (3, (.b 36 [(.v true (.pair (.rs 3 (.int .i64)) (.rs 25 (.rs 3 (.int .i64)))))])), (4, (.c false (.v true (.int .i64))))])]) :=
    some (Sum.inl ((x6.fst, x6.snd.fst, x6.snd.snd.fst, x6.snd.snd.snd.fst, x6.snd.snd.snd.snd.fst, x6.snd.snd.snd.snd.snd.fst, ()), ((x7.fst.fst, x7.fst.snd), ()), Go.IntKind.i64.wrap (x8 + (1 : Int)), ()))
def L18_0 (n : Nat) : Nat → List (List (Int × Int × Int)) × List (Int × Int × Bool) × List Bool × List Bool × List Int × List Int × Unit → (List Int × List (List Int)) × Unit → Int → Option (odens [((.exit 0), [(0, (.b 51 [(.v true (.rs 57 (.rs 72 (.pair (.int .i64) (.pair (.int .i64) (.int .i64)))))), (.v true (.rs 76 (.pair (.int .i64) (.pair (.int .i64) .bool)))), (.v true (.rs 4 .bool)), (.v true (.rs 4 .bool)), (.v true (.rs 3 (.int .i64))), (.r 3 (.int .i64))]))])])
  | 0, _, _, _ => none
  | m + 1, x1, x2, x3 =>
    cond (Decidable.decide (x3 < (↑(List.length x1.snd.fst) : Int)))
    (if (0 : Int) ≤ x3 then
     if x3 < (↑(List.length x1.snd.snd.snd.fst) : Int) then
     cond (List.getD x1.snd.snd.snd.fst x3.toNat Bool.false)
     ((F38 n ((x1.fst, x1.snd.fst, x1.snd.snd.fst, x1.snd.snd.snd.fst, x1.snd.snd.snd.snd.fst, x1.snd.snd.snd.snd.snd.fst)) (x3)).bind fun y4 =>
      if (0 : Int) ≤ y4.fst.snd.fst then
      if y4.fst.snd.fst < (↑(List.length x2.fst.snd) : Int) then
      (F40 n (List.getD x2.fst.snd (Int.toNat y4.fst.snd.fst) []) (x3)).bind fun y5 =>
      if (0 : Int) ≤ x3 then
      if x3 < (↑(List.length x1.snd.snd.snd.snd.snd.fst) : Int) then
      if x3.toNat < List.length x1.snd.snd.snd.snd.snd.fst then
      match J18_5 n ((x1.fst, x1.snd.fst, x1.snd.snd.fst, x1.snd.snd.snd.fst, x1.snd.snd.snd.snd.fst, List.set x1.snd.snd.snd.snd.snd.fst x3.toNat y5.fst, ())) (((x2.fst.fst, x2.fst.snd), ())) (x3) with
      | none => none
      | some (Sum.inl v9) =>
       L18_0 n m ((v9.fst.fst, v9.fst.snd.fst, v9.fst.snd.snd.fst, v9.fst.snd.snd.snd.fst, v9.fst.snd.snd.snd.snd.fst, v9.fst.snd.snd.snd.snd.snd.fst, ())) (((v9.snd.fst.fst.fst, v9.snd.fst.fst.snd), ())) (v9.snd.snd.fst)
      else none
      else none
      else none
      else none
      else none)
     (if (0 : Int) ≤ x3 then
      if x3 < (↑(List.length x1.snd.snd.fst) : Int) then
      cond (List.getD x1.snd.snd.fst x3.toNat Bool.false)
      (if (0 : Int) ≤ x3 then
       if x3 < (↑(List.length x2.fst.fst) : Int) then
       (F38 n ((x1.fst, x1.snd.fst, x1.snd.snd.fst, x1.snd.snd.snd.fst, x1.snd.snd.snd.snd.fst, x1.snd.snd.snd.snd.snd.fst)) (x3)).bind fun y10 =>
       if (0 : Int) ≤ y10.fst.snd.fst then
       if y10.fst.snd.fst < (↑(List.length x2.fst.snd) : Int) then
       (F40 n (List.getD x2.fst.snd (Int.toNat y10.fst.snd.fst) []) (List.getD x2.fst.fst x3.toNat (0 : Int))).bind fun y11 =>
       if (0 : Int) ≤ x3 then
       if x3 < (↑(List.length x1.snd.snd.snd.snd.snd.fst) : Int) then
       if x3.toNat < List.length x1.snd.snd.snd.snd.snd.fst then
       match J18_5 n ((x1.fst, x1.snd.fst, x1.snd.snd.fst, x1.snd.snd.snd.fst, x1.snd.snd.snd.snd.fst, List.set x1.snd.snd.snd.snd.snd.fst x3.toNat y11.fst, ())) (((x2.fst.fst, x2.fst.snd), ())) (x3) with
       | none => none
       | some (Sum.inl v12) =>
        L18_0 n m ((v12.fst.fst, v12.fst.snd.fst, v12.fst.snd.snd.fst, v12.fst.snd.snd.snd.fst, v12.fst.snd.snd.snd.snd.fst, v12.fst.snd.snd.snd.snd.snd.fst, ())) (((v12.snd.fst.fst.fst, v12.snd.fst.fst.snd), ())) (v12.snd.snd.fst)
       else none
       else none
       else none
       else none
       else none
       else none
       else none)
      (match J18_5 n ((x1.fst, x1.snd.fst, x1.snd.snd.fst, x1.snd.snd.snd.fst, x1.snd.snd.snd.snd.fst, x1.snd.snd.snd.snd.snd.fst, ())) (((x2.fst.fst, x2.fst.snd), ())) (x3) with
       | none => none
       | some (Sum.inl v13) =>
        L18_0 n m ((v13.fst.fst, v13.fst.snd.fst, v13.fst.snd.snd.fst, v13.fst.snd.snd.snd.fst, v13.fst.snd.snd.snd.snd.fst, v13.fst.snd.snd.snd.snd.snd.fst, ())) (((v13.snd.fst.fst.fst, v13.snd.fst.fst.snd), ())) (v13.snd.snd.fst))
      else none
      else none)
     else none
     else none)
    (some (Sum.inl ((x1.fst, x1.snd.fst, x1.snd.snd.fst, x1.snd.snd.snd.fst, x1.snd.snd.snd.snd.fst, x1.snd.snd.snd.snd.snd.fst, ()), ())))
def F18 (n : Nat) (a0 : (List (List (Int × Int × Int)) × List (Int × Int × Bool) × List Bool × List Bool × List Int × List Int) × Unit) (a1 : List Int × List (List Int)) : Option (rdens [.b 51 [.v true (.pair (.rs 57 (.rs 72 (.pair (.int .i64) (.pair (.int .i64) (.int .i64))))) (.pair (.rs 76 (.pair (.int .i64) (.pair (.int .i64) .bool))) (.pair (.rs 4 .bool) (.pair (.rs 4 .bool) (.pair (.rs 3 (.int .i64)) (.rs 3 (.int .i64)))))))], .c true (.v true (.pair (.rs 3 (.int .i64)) (.rs 25 (.rs 3 (.int .i64)))))] []) :=
  if (↑(List.length a0.fst.snd.fst) : Int) = (↑(List.length a0.fst.snd.fst) : Int) then
  if (↑(List.length a0.fst.snd.fst) : Int).toNat * (8 : Nat) ≤ (140737488355328 : Nat) then
  match L18_0 n n ((a0.fst.fst, a0.fst.snd.fst, a0.fst.snd.snd.fst, a0.fst.snd.snd.snd.fst, a1.fst, List.replicate (↑(List.length a0.fst.snd.fst) : Int).toNat (0 : Int), ())) (((a1.fst, a1.snd), ())) ((0 : Int)) with
  | none => none
  | some (Sum.inl v14) =>
   some (((v14.fst.fst, v14.fst.snd.fst, v14.fst.snd.snd.fst, v14.fst.snd.snd.snd.fst, v14.fst.snd.snd.snd.snd.fst, v14.fst.snd.snd.snd.snd.snd.fst), ()), ())
  else none
  else none
noncomputable def con18 (n : Nat) : Con := conOf [.b 51 [.v true (.pair (.rs 57 (.rs 72 (.pair (.int .i64) (.pair (.int .i64) (.int .i64))))) (.pair (.rs 76 (.pair (.int .i64) (.pair (.int .i64) .bool))) (.pair (.rs 4 .bool) (.pair (.rs 4 .bool) (.pair (.rs 3 (.int .i64)) (.rs 3 (.int .i64)))))))], .c true (.v true (.pair (.rs 3 (.int .i64)) (.rs 25 (.rs 3 (.int .i64)))))] [] fun x => F18 n x.1 x.2.1
noncomputable def tb18 (n : Nat) : Tb := ⟨tiOf Tryz.prog, conL [(38, con38 n), (40, con40 n)], n, [], 80, lpL [(0, ⟨[(0, (.b 51 [(.v true (.rs 57 (.rs 72 (.pair (.int .i64) (.pair (.int .i64) (.int .i64)))))), (.v true (.rs 76 (.pair (.int .i64) (.pair (.int .i64) .bool)))), (.v true (.rs 4 .bool)), (.v true (.rs 4 .bool)), (.v true (.rs 3 (.int .i64))), (.r 3 (.int .i64))])), (3, (.b 36 [(.v true (.pair (.rs 3 (.int .i64)) (.rs 25 (.rs 3 (.int .i64)))))])), (4, (.c false (.v true (.int .i64))))], [((.exit 0), [(0, (.b 51 [(.v true (.rs 57 (.rs 72 (.pair (.int .i64) (.pair (.int .i64) (.int .i64)))))), (.v true (.rs 76 (.pair (.int .i64) (.pair (.int .i64) .bool)))), (.v true (.rs 4 .bool)), (.v true (.rs 4 .bool)), (.v true (.rs 3 (.int .i64))), (.r 3 (.int .i64))]))])], fun m v => L18_0 n m v.1 v.2.1 v.2.2.1⟩)], ctL [(5, ⟨[(0, (.b 51 [(.v true (.rs 57 (.rs 72 (.pair (.int .i64) (.pair (.int .i64) (.int .i64)))))), (.v true (.rs 76 (.pair (.int .i64) (.pair (.int .i64) .bool)))), (.v true (.rs 4 .bool)), (.v true (.rs 4 .bool)), (.v true (.rs 3 (.int .i64))), (.r 3 (.int .i64))])), (3, (.b 36 [(.v true (.pair (.rs 3 (.int .i64)) (.rs 25 (.rs 3 (.int .i64)))))])), (4, (.c false (.v true (.int .i64))))], [(.normal, [(0, (.b 51 [(.v true (.rs 57 (.rs 72 (.pair (.int .i64) (.pair (.int .i64) (.int .i64)))))), (.v true (.rs 76 (.pair (.int .i64) (.pair (.int .i64) .bool)))), (.v true (.rs 4 .bool)), (.v true (.rs 4 .bool)), (.v true (.rs 3 (.int .i64))), (.r 3 (.int .i64))])), (3, (.b 36 [(.v true (.pair (.rs 3 (.int .i64)) (.rs 25 (.rs 3 (.int .i64)))))])), (4, (.c false (.v true (.int .i64))))])], fun v => J18_5 n v.1 v.2.1 v.2.2.1⟩)], [0], true⟩
noncomputable def code18 : Code := Tryz.f18.body.getD .skip
theorem tb18_ok (n : Nat) : (tb18 n).ok Tryz.prog := tbOk mixed (⟨con38_ok n, ⟨con40_ok n, trivial⟩⟩)
theorem lp18_0 (n : Nat) : LpAt (tb18 n) (loopBody code18 0) 0 := lpAt rfl (fun _ => by kernel_rfl) (fun _ _ => by kernel_rfl)
theorem blocks18 : blocks code18 = [(0, .loop (loopBody code18 0)), (1, blockBody code18 1), (2, blockBody code18 2)] := by kernel_rfl
theorem ct18_5 (n : Nat) : CtOk (tb18 n) (sec code18 6).2 ⟨[(0, (.b 51 [(.v true (.rs 57 (.rs 72 (.pair (.int .i64) (.pair (.int .i64) (.int .i64)))))), (.v true (.rs 76 (.pair (.int .i64) (.pair (.int .i64) .bool)))), (.v true (.rs 4 .bool)), (.v true (.rs 4 .bool)), (.v true (.rs 3 (.int .i64))), (.r 3 (.int .i64))])), (3, (.b 36 [(.v true (.pair (.rs 3 (.int .i64)) (.rs 25 (.rs 3 (.int .i64)))))])), (4, (.c false (.v true (.int .i64))))], [(.normal, [(0, (.b 51 [(.v true (.rs 57 (.rs 72 (.pair (.int .i64) (.pair (.int .i64) (.int .i64)))))), (.v true (.rs 76 (.pair (.int .i64) (.pair (.int .i64) .bool)))), (.v true (.rs 4 .bool)), (.v true (.rs 4 .bool)), (.v true (.rs 3 (.int .i64))), (.r 3 (.int .i64))])), (3, (.b 36 [(.v true (.pair (.rs 3 (.int .i64)) (.rs 25 (.rs 3 (.int .i64)))))])), (4, (.c false (.v true (.int .i64))))])], fun v => J18_5 n v.1 v.2.1 v.2.2.1⟩ := fun _ => by kernel_rfl
theorem secs18 : seconds code18 = [(some 1, (sec code18 0).2), (some 2, (sec code18 1).2), (some 3, (sec code18 2).2), (some 4, (sec code18 3).2), (some 6, (sec code18 4).2), (none, (sec code18 5).2), (some 5, (sec code18 6).2), (none, (sec code18 7).2), (none, (sec code18 8).2)] := by kernel_rfl
theorem la18 (n : Nat) : LpAll (tb18 n) code18 := lpAll blocks18 (bl_loop (lp18_0 n) (bl_none rfl (bl_none rfl (bl_nil)))) secs18 (cs_none rfl (cs_none rfl (cs_none rfl (cs_none rfl (cs_none rfl (cs_none rfl (cs_one rfl (ct18_5 n) (cs_none rfl (cs_none rfl (cs_nil)))))))))) (by kernel_rfl)
theorem ev18 (n : Nat) (x : pdens [.b 51 [.v true (.pair (.rs 57 (.rs 72 (.pair (.int .i64) (.pair (.int .i64) (.int .i64))))) (.pair (.rs 76 (.pair (.int .i64) (.pair (.int .i64) .bool))) (.pair (.rs 4 .bool) (.pair (.rs 4 .bool) (.pair (.rs 3 (.int .i64)) (.rs 3 (.int .i64)))))))], .c true (.v true (.pair (.rs 3 (.int .i64)) (.rs 25 (.rs 3 (.int .i64)))))]) : evSig (tb18 n) Tryz.f18 [.b 51 [.v true (.pair (.rs 57 (.rs 72 (.pair (.int .i64) (.pair (.int .i64) (.int .i64))))) (.pair (.rs 76 (.pair (.int .i64) (.pair (.int .i64) .bool))) (.pair (.rs 4 .bool) (.pair (.rs 4 .bool) (.pair (.rs 3 (.int .i64)) (.rs 3 (.int .i64)))))))], .c true (.v true (.pair (.rs 3 (.int .i64)) (.rs 25 (.rs 3 (.int .i64)))))] [] x = F18 n x.1 x.2.1 := by kernel_rfl
theorem con18_ok (n : Nat) : Con.ok Tryz.prog 18 (con18 n) := conOf_ok (tb18_ok n) (body_la (by kernel_rfl : Tryz.f18.body = some code18) (la18 n)) Tryz.func18 (enters Tryz.func18 (by kernel_rfl) (by kernel_rfl)) rfl rfl (ev18 n)
/-! ### (*loop.example/fathomline/spec.l13Ord).own -/
def F41 (n : Nat) (a0 : List (List (Int × Int × Int)) × List (Int × Int × Bool) × List Bool × List Bool × List Int × List Int) (a1 : Int) (a2 : Int) : Option (rdens [.c false (.f (.pt false (.pair (.rs 57 (.rs 72 (.pair (.int .i64) (.pair (.int .i64) (.int .i64))))) (.pair (.rs 76 (.pair (.int .i64) (.pair (.int .i64) .bool))) (.pair (.rs 4 .bool) (.pair (.rs 4 .bool) (.pair (.rs 3 (.int .i64)) (.rs 3 (.int .i64))))))))), .c false (.v true (.int .i64)), .c false (.v true (.int .i64))] [.c false (.v true .bool)]) :=
  cond (Decidable.decide (a1 < a2))
  (if (0 : Int) ≤ a1 then
   if a1 < (↑(List.length a0.snd.fst) : Int) then
   if (0 : Int) ≤ a2 then
   if a2 < (↑(List.length a0.snd.fst) : Int) then
   some ((List.getD a0.snd.fst a1.toNat ((0 : Int), (0 : Int), Bool.false)).fst == (List.getD a0.snd.fst a2.toNat ((0 : Int), (0 : Int), Bool.false)).fst, ())
   else none
   else none
   else none
   else none)
  (some (Bool.false, ()))
noncomputable def con41 (n : Nat) : Con := conOf [.c false (.f (.pt false (.pair (.rs 57 (.rs 72 (.pair (.int .i64) (.pair (.int .i64) (.int .i64))))) (.pair (.rs 76 (.pair (.int .i64) (.pair (.int .i64) .bool))) (.pair (.rs 4 .bool) (.pair (.rs 4 .bool) (.pair (.rs 3 (.int .i64)) (.rs 3 (.int .i64))))))))), .c false (.v true (.int .i64)), .c false (.v true (.int .i64))] [.c false (.v true .bool)] fun x => F41 n x.1 x.2.1 x.2.2.1
noncomputable def tb41 (n : Nat) : Tb := ⟨tiOf Tryz.prog, conL [], n, [], 29, lpL [], ctL [], [], true⟩
noncomputable def code41 : Code := Tryz.f41.body.getD .skip
theorem tb41_ok (n : Nat) : (tb41 n).ok Tryz.prog := tbOk mixed (trivial)
theorem blocks41 : blocks code41 = [] := by kernel_rfl
theorem la41 (n : Nat) : LpAll (tb41 n) code41 := lpAll blocks41 (bl_nil) rfl (cs_no fun _ => rfl) (by kernel_rfl)
theorem ev41 (n : Nat) (x : pdens [.c false (.f (.pt false (.pair (.rs 57 (.rs 72 (.pair (.int .i64) (.pair (.int .i64) (.int .i64))))) (.pair (.rs 76 (.pair (.int .i64) (.pair (.int .i64) .bool))) (.pair (.rs 4 .bool) (.pair (.rs 4 .bool) (.pair (.rs 3 (.int .i64)) (.rs 3 (.int .i64))))))))), .c false (.v true (.int .i64)), .c false (.v true (.int .i64))]) : evSig (tb41 n) Tryz.f41 [.c false (.f (.pt false (.pair (.rs 57 (.rs 72 (.pair (.int .i64) (.pair (.int .i64) (.int .i64))))) (.pair (.rs 76 (.pair (.int .i64) (.pair (.int .i64) .bool))) (.pair (.rs 4 .bool) (.pair (.rs 4 .bool) (.pair (.rs 3 (.int .i64)) (.rs 3 (.int .i64))))))))), .c false (.v true (.int .i64)), .c false (.v true (.int .i64))] [.c false (.v true .bool)] x = F41 n x.1 x.2.1 x.2.2.1 := by kernel_rfl
theorem con41_ok (n : Nat) : Con.ok Tryz.prog 41 (con41 n) := conOf_ok (tb41_ok n) (body_la (by kernel_rfl : Tryz.f41.body = some code41) (la41 n)) Tryz.func41 (enters Tryz.func41 (by kernel_rfl) (by kernel_rfl)) rfl rfl (ev41 n)
/-! ### (*loop.example/fathomline/spec.l13Ord).inside -/
def J62_7 (n : Nat) (x16 : List (List (Int × Int × Int)) × List (Int × Int × Bool) × List Bool × List Bool × List Int × List Int) (x17 : Int) (x18 : Bool) (x19 : Bool) (x20 : Int) : Option (odens [(.normal, [(0, (.c false (.f (.pt false (.pair (.rs 57 (.rs 72 (.pair (.int .i64) (.pair (.int .i64) (.int .i64))))) (.pair (.rs 76 (.pair (.int .i64) (.pair (.int .i64) .bool))) (.pair (.rs 4 .bool) (.pair (.rs 4 .bool) (.pair (.rs 3 (.int .i64)) (.rs 3 (.int .i64))))))))))), (2, (.c false (.v true (.int .i64)))), (7, (.c false (.v true .bool))), (8, (.c false (.v true .bool))), (9, (.c false (.v true (.int .i64))))])]) :=
    some (Sum.inl (x16, x17, x18, x19, Go.IntKind.i64.wrap (x20 + (1 : Int)), ()))
def L62_0 (n : Nat) : Nat → List (List (Int × Int × Int)) × List (Int × Int × Bool) × List Bool × List Bool × List Int × List Int → Int → Bool → Bool → Int → Option (odens [(.ret, [(6, (.c false (.v true .bool)))]), ((.exit 0), [])])
  | 0, _, _, _, _, _ => none
  | m + 1, x9, x10, x11, x12, x13 =>
    cond (Decidable.decide (x13 < x10))
    (cond (x11)
     ((F38 n (x9) (x13)).bind fun y14 =>
      cond (y14.fst.fst == (8 : Int))
      (some (Sum.inl (Bool.false, ())))
      (cond (x12)
       ((F38 n (x9) (x13)).bind fun y15 =>
        cond (y15.fst.fst == (7 : Int))
        (some (Sum.inl (Bool.false, ())))
        (match J62_7 n (x9) (x10) (x11) (x12) (x13) with
         | none => none
         | some (Sum.inl v21) =>
          L62_0 n m (v21.fst) (v21.snd.fst) (v21.snd.snd.fst) (v21.snd.snd.snd.fst) (v21.snd.snd.snd.snd.fst)))
       (match J62_7 n (x9) (x10) (x11) (x12) (x13) with
        | none => none
        | some (Sum.inl v22) =>
         L62_0 n m (v22.fst) (v22.snd.fst) (v22.snd.snd.fst) (v22.snd.snd.snd.fst) (v22.snd.snd.snd.snd.fst))))
     (cond (x12)
      ((F38 n (x9) (x13)).bind fun y23 =>
       cond (y23.fst.fst == (7 : Int))
       (some (Sum.inl (Bool.false, ())))
       (match J62_7 n (x9) (x10) (x11) (x12) (x13) with
        | none => none
        | some (Sum.inl v24) =>
         L62_0 n m (v24.fst) (v24.snd.fst) (v24.snd.snd.fst) (v24.snd.snd.snd.fst) (v24.snd.snd.snd.snd.fst)))
      (match J62_7 n (x9) (x10) (x11) (x12) (x13) with
       | none => none
       | some (Sum.inl v25) =>
        L62_0 n m (v25.fst) (v25.snd.fst) (v25.snd.snd.fst) (v25.snd.snd.snd.fst) (v25.snd.snd.snd.snd.fst))))
    (some (Sum.inr (Sum.inl (()))))
def J62_5 (n : Nat) (x4 : List (List (Int × Int × Int)) × List (Int × Int × Bool) × List Bool × List Bool × List Int × List Int) (x5 : Int) (x6 : Int) (x7 : Bool) (x8 : Bool) : Option (odens [(.ret, [(6, (.c false (.v true .bool)))])]) :=
    match L62_0 n n (x4) (x6) (x7) (x8) (Go.IntKind.i64.wrap (x5 + (1 : Int))) with
    | none => none
    | some (Sum.inl v26) =>
     some (Sum.inl (v26.fst, ()))
    | some (Sum.inr (Sum.inl v27)) =>
     some (Sum.inl (Bool.true, ()))
def F62 (n : Nat) (a0 : List (List (Int × Int × Int)) × List (Int × Int × Bool) × List Bool × List Bool × List Int × List Int) (a1 : Int) (a2 : Int) : Option (rdens [.c false (.f (.pt false (.pair (.rs 57 (.rs 72 (.pair (.int .i64) (.pair (.int .i64) (.int .i64))))) (.pair (.rs 76 (.pair (.int .i64) (.pair (.int .i64) .bool))) (.pair (.rs 4 .bool) (.pair (.rs 4 .bool) (.pair (.rs 3 (.int .i64)) (.rs 3 (.int .i64))))))))), .c false (.v true (.int .i64)), .c false (.v true (.int .i64))] [.c false (.v true .bool)]) :=
  (F38 n (a0) (a1)).bind fun y1 =>
  (F38 n (a0) (a2)).bind fun y2 =>
  (F41 n (a0) (a1) (a2)).bind fun y3 =>
  cond (!y3.fst)
  (some (Bool.false, ()))
  (cond (!y1.fst.fst == (7 : Int))
   (cond (!y2.fst.fst == (8 : Int))
    (some (Bool.false, ()))
    (match J62_5 n (a0) (a1) (a2) (y1.fst.fst == (7 : Int)) (y2.fst.fst == (8 : Int)) with
     | none => none
     | some (Sum.inl v28) =>
      some (v28.fst, ())))
   (match J62_5 n (a0) (a1) (a2) (y1.fst.fst == (7 : Int)) (y2.fst.fst == (8 : Int)) with
    | none => none
    | some (Sum.inl v29) =>
     some (v29.fst, ())))
noncomputable def con62 (n : Nat) : Con := conOf [.c false (.f (.pt false (.pair (.rs 57 (.rs 72 (.pair (.int .i64) (.pair (.int .i64) (.int .i64))))) (.pair (.rs 76 (.pair (.int .i64) (.pair (.int .i64) .bool))) (.pair (.rs 4 .bool) (.pair (.rs 4 .bool) (.pair (.rs 3 (.int .i64)) (.rs 3 (.int .i64))))))))), .c false (.v true (.int .i64)), .c false (.v true (.int .i64))] [.c false (.v true .bool)] fun x => F62 n x.1 x.2.1 x.2.2.1
noncomputable def tb62 (n : Nat) : Tb := ⟨tiOf Tryz.prog, conL [(38, con38 n), (41, con41 n)], n, [], 58, lpL [(0, ⟨[(0, (.c false (.f (.pt false (.pair (.rs 57 (.rs 72 (.pair (.int .i64) (.pair (.int .i64) (.int .i64))))) (.pair (.rs 76 (.pair (.int .i64) (.pair (.int .i64) .bool))) (.pair (.rs 4 .bool) (.pair (.rs 4 .bool) (.pair (.rs 3 (.int .i64)) (.rs 3 (.int .i64))))))))))), (2, (.c false (.v true (.int .i64)))), (7, (.c false (.v true .bool))), (8, (.c false (.v true .bool))), (9, (.c false (.v true (.int .i64))))], [(.ret, [(6, (.c false (.v true .bool)))]), ((.exit 0), [])], fun m v => L62_0 n m v.1 v.2.1 v.2.2.1 v.2.2.2.1 v.2.2.2.2.1⟩)], ctL [(7, ⟨[(0, (.c false (.f (.pt false (.pair (.rs 57 (.rs 72 (.pair (.int .i64) (.pair (.int .i64) (.int .i64))))) (.pair (.rs 76 (.pair (.int .i64) (.pair (.int .i64) .bool))) (.pair (.rs 4 .bool) (.pair (.rs 4 .bool) (.pair (.rs 3 (.int .i64)) (.rs 3 (.int .i64))))))))))), (2, (.c false (.v true (.int .i64)))), (7, (.c false (.v true .bool))), (8, (.c false (.v true .bool))), (9, (.c false (.v true (.int .i64))))], [(.normal, [(0, (.c false (.f (.pt false (.pair (.rs 57 (.rs 72 (.pair (.int .i64) (.pair (.int .i64) (.int .i64))))) (.pair (.rs 76 (.pair (.int .i64) (.pair (.int .i64) .bool))) (.pair (.rs 4 .bool) (.pair (.rs 4 .bool) (.pair (.rs 3 (.int .i64)) (.rs 3 (.int .i64))))))))))), (2, (.c false (.v true (.int .i64)))), (7, (.c false (.v true .bool))), (8, (.c false (.v true .bool))), (9, (.c false (.v true (.int .i64))))])], fun v => J62_7 n v.1 v.2.1 v.2.2.1 v.2.2.2.1 v.2.2.2.2.1⟩), (5, ⟨[(0, (.c false (.f (.pt false (.pair (.rs 57 (.rs 72 (.pair (.int .i64) (.pair (.int .i64) (.int .i64))))) (.pair (.rs 76 (.pair (.int .i64) (.pair (.int .i64) .bool))) (.pair (.rs 4 .bool) (.pair (.rs 4 .bool) (.pair (.rs 3 (.int .i64)) (.rs 3 (.int .i64))))))))))), (1, (.c false (.v true (.int .i64)))), (2, (.c false (.v true (.int .i64)))), (7, (.c false (.v true .bool))), (8, (.c false (.v true .bool)))], [(.ret, [(6, (.c false (.v true .bool)))])], fun v => J62_5 n v.1 v.2.1 v.2.2.1 v.2.2.2.1 v.2.2.2.2.1⟩)], [], true⟩
noncomputable def code62 : Code := Tryz.f62.body.getD .skip
theorem tb62_ok (n : Nat) : (tb62 n).ok Tryz.prog := tbOk mixed (⟨con38_ok n, ⟨con41_ok n, trivial⟩⟩)
theorem lp62_0 (n : Nat) : LpAt (tb62 n) (loopBody code62 0) 0 := lpAt rfl (fun _ => by kernel_rfl) (fun _ _ => by kernel_rfl)
theorem blocks62 : blocks code62 = [(0, .loop (loopBody code62 0)), (1, blockBody code62 1)] := by kernel_rfl
theorem ct62_5 (n : Nat) : CtOk (tb62 n) (sec code62 3).2 ⟨[(0, (.c false (.f (.pt false (.pair (.rs 57 (.rs 72 (.pair (.int .i64) (.pair (.int .i64) (.int .i64))))) (.pair (.rs 76 (.pair (.int .i64) (.pair (.int .i64) .bool))) (.pair (.rs 4 .bool) (.pair (.rs 4 .bool) (.pair (.rs 3 (.int .i64)) (.rs 3 (.int .i64))))))))))), (1, (.c false (.v true (.int .i64)))), (2, (.c false (.v true (.int .i64)))), (7, (.c false (.v true .bool))), (8, (.c false (.v true .bool)))], [(.ret, [(6, (.c false (.v true .bool)))])], fun v => J62_5 n v.1 v.2.1 v.2.2.1 v.2.2.2.1 v.2.2.2.2.1⟩ := fun _ => by kernel_rfl
theorem ct62_7 (n : Nat) : CtOk (tb62 n) (sec code62 10).2 ⟨[(0, (.c false (.f (.pt false (.pair (.rs 57 (.rs 72 (.pair (.int .i64) (.pair (.int .i64) (.int .i64))))) (.pair (.rs 76 (.pair (.int .i64) (.pair (.int .i64) .bool))) (.pair (.rs 4 .bool) (.pair (.rs 4 .bool) (.pair (.rs 3 (.int .i64)) (.rs 3 (.int .i64))))))))))), (2, (.c false (.v true (.int .i64)))), (7, (.c false (.v true .bool))), (8, (.c false (.v true .bool))), (9, (.c false (.v true (.int .i64))))], [(.normal, [(0, (.c false (.f (.pt false (.pair (.rs 57 (.rs 72 (.pair (.int .i64) (.pair (.int .i64) (.int .i64))))) (.pair (.rs 76 (.pair (.int .i64) (.pair (.int .i64) .bool))) (.pair (.rs 4 .bool) (.pair (.rs 4 .bool) (.pair (.rs 3 (.int .i64)) (.rs 3 (.int .i64))))))))))), (2, (.c false (.v true (.int .i64)))), (7, (.c false (.v true .bool))), (8, (.c false (.v true .bool))), (9, (.c false (.v true (.int .i64))))])], fun v => J62_7 n v.1 v.2.1 v.2.2.1 v.2.2.2.1 v.2.2.2.2.1⟩ := fun _ => by kernel_rfl
theorem secs62 : seconds code62 = [(some 1, (sec code62 0).2), (some 2, (sec code62 1).2), (some 3, (sec code62 2).2), (some 5, (sec code62 3).2), (none, (sec code62 4).2), (none, (sec code62 5).2), (some 10, (sec code62 6).2), (some 6, (sec code62 7).2), (some 8, (sec code62 8).2), (none, (sec code62 9).2), (some 7, (sec code62 10).2), (none, (sec code62 11).2), (none, (sec code62 12).2), (none, (sec code62 13).2)] := by kernel_rfl
theorem la62 (n : Nat) : LpAll (tb62 n) code62 := lpAll blocks62 (bl_loop (lp62_0 n) (bl_none rfl (bl_nil))) secs62 (cs_none rfl (cs_none rfl (cs_none rfl (cs_one rfl (ct62_5 n) (cs_none rfl (cs_none rfl (cs_none rfl (cs_none rfl (cs_none rfl (cs_none rfl (cs_one rfl (ct62_7 n) (cs_none rfl (cs_none rfl (cs_none rfl (cs_nil))))))))))))))) (by kernel_rfl)
theorem ev62 (n : Nat) (x : pdens [.c false (.f (.pt false (.pair (.rs 57 (.rs 72 (.pair (.int .i64) (.pair (.int .i64) (.int .i64))))) (.pair (.rs 76 (.pair (.int .i64) (.pair (.int .i64) .bool))) (.pair (.rs 4 .bool) (.pair (.rs 4 .bool) (.pair (.rs 3 (.int .i64)) (.rs 3 (.int .i64))))))))), .c false (.v true (.int .i64)), .c false (.v true (.int .i64))]) : evSig (tb62 n) Tryz.f62 [.c false (.f (.pt false (.pair (.rs 57 (.rs 72 (.pair (.int .i64) (.pair (.int .i64) (.int .i64))))) (.pair (.rs 76 (.pair (.int .i64) (.pair (.int .i64) .bool))) (.pair (.rs 4 .bool) (.pair (.rs 4 .bool) (.pair (.rs 3 (.int .i64)) (.rs 3 (.int .i64))))))))), .c false (.v true (.int .i64)), .c false (.v true (.int .i64))] [.c false (.v true .bool)] x = F62 n x.1 x.2.1 x.2.2.1 := by kernel_rfl
theorem con62_ok (n : Nat) : Con.ok Tryz.prog 62 (con62 n) := conOf_ok (tb62_ok n) (body_la (by kernel_rfl : Tryz.f62.body = some code62) (la62 n)) Tryz.func62 (enters Tryz.func62 (by kernel_rfl) (by kernel_rfl)) rfl rfl (ev62 n)
/-! ### (*loop.example/fathomline/spec.l13Ord).loose -/
def J42_7 (n : Nat) (x7 : List (List (Int × Int × Int)) × List (Int × Int × Bool) × List Bool × List Bool × List Int × List Int) (x8 : Int) (x9 : Int) (x10 : (Int × Int × Int) × Unit) : Option (odens [(.ret, [(6, (.c false (.v true .bool)))])]) :=
    cond (x10.fst.fst == (3 : Int))
    ((F63 n (x7.fst) (x7.snd.fst) (x9)).bind fun y11 =>
     some (Sum.inl (y11.fst == x8, ())))
    (some (Sum.inl (Bool.false, ())))
def F42 (n : Nat) (a0 : List (List (Int × Int × Int)) × List (Int × Int × Bool) × List Bool × List Bool × List Int × List Int) (a1 : Int) (a2 : Int) : Option (rdens [.c false (.f (.pt false (.pair (.rs 57 (.rs 72 (.pair (.int .i64) (.pair (.int .i64) (.int .i64))))) (.pair (.rs 76 (.pair (.int .i64) (.pair (.int .i64) .bool))) (.pair (.rs 4 .bool) (.pair (.rs 4 .bool) (.pair (.rs 3 (.int .i64)) (.rs 3 (.int .i64))))))))), .c false (.v true (.int .i64)), .c false (.v true (.int .i64))] [.c false (.v true .bool)]) :=
  (F41 n (a0) (a1) (a2)).bind fun y1 =>
  cond (!y1.fst)
  (some (Bool.false, ()))
  ((F38 n (a0) (a1)).bind fun y2 =>
   (F38 n (a0) (a2)).bind fun y3 =>
   (F61 n ((y2.fst.fst, y2.fst.snd.fst, y2.fst.snd.snd))).bind fun y4 =>
   cond (y4.fst)
   (some (Bool.true, ()))
   ((F61 n ((y3.fst.fst, y3.fst.snd.fst, y3.fst.snd.snd))).bind fun y5 =>
    cond (y5.fst)
    (some (Bool.true, ()))
    (cond (y2.fst.fst == (5 : Int))
     (some (Bool.true, ()))
     (cond (y3.fst.fst == (6 : Int))
      (some (Bool.true, ()))
      ((F62 n (a0) (a1) (a2)).bind fun y6 =>
       cond (y6.fst)
       (some (Bool.true, ()))
       (match J42_7 n (a0) (a1) (a2) (((y3.fst.fst, y3.fst.snd.fst, y3.fst.snd.snd), ())) with
        | none => none
        | some (Sum.inl v12) =>
         some (v12.fst, ())))))))
noncomputable def con42 (n : Nat) : Con := conOf [.c false (.f (.pt false (.pair (.rs 57 (.rs 72 (.pair (.int .i64) (.pair (.int .i64) (.int .i64))))) (.pair (.rs 76 (.pair (.int .i64) (.pair (.int .i64) .bool))) (.pair (.rs 4 .bool) (.pair (.rs 4 .bool) (.pair (.rs 3 (.int .i64)) (.rs 3 (.int .i64))))))))), .c false (.v true (.int .i64)), .c false (.v true (.int .i64))] [.c false (.v true .bool)] fun x => F42 n x.1 x.2.1 x.2.2.1
noncomputable def tb42 (n : Nat) : Tb := ⟨tiOf Tryz.prog, conL [(41, con41 n), (38, con38 n), (61, con61 n), (62, con62 n), (63, con63 n)], n, [], 59, lpL [], ctL [(7, ⟨[(0, (.c false (.f (.pt false (.pair (.rs 57 (.rs 72 (.pair (.int .i64) (.pair (.int .i64) (.int .i64))))) (.pair (.rs 76 (.pair (.int .i64) (.pair (.int .i64) .bool))) (.pair (.rs 4 .bool) (.pair (.rs 4 .bool) (.pair (.rs 3 (.int .i64)) (.rs 3 (.int .i64))))))))))), (1, (.c false (.v true (.int .i64)))), (2, (.c false (.v true (.int .i64)))), (8, (.b 72 [(.v true (.pair (.int .i64) (.pair (.int .i64) (.int .i64))))]))], [(.ret, [(6, (.c false (.v true .bool)))])], fun v => J42_7 n v.1 v.2.1 v.2.2.1 v.2.2.2.1⟩)], [], true⟩
noncomputable def code42 : Code := Tryz.f42.body.getD .skip
theorem tb42_ok (n : Nat) : (tb42 n).ok Tryz.prog := tbOk mixed (⟨con41_ok n, ⟨con38_ok n, ⟨con61_ok n, ⟨con62_ok n, ⟨con63_ok n, trivial⟩⟩⟩⟩⟩)
theorem blocks42 : blocks code42 = [] := by kernel_rfl
theorem ct42_7 (n : Nat) : CtOk (tb42 n) (sec code42 6).2 ⟨[(0, (.c false (.f (.pt false (.pair (.rs 57 (.rs 72 (.pair (.int .i64) (.pair (.int .i64) (.int .i64))))) (.pair (.rs 76 (.pair (.int .i64) (.pair (.int .i64) .bool))) (.pair (.rs 4 .bool) (.pair (.rs 4 .bool) (.pair (.rs 3 (.int .i64)) (.rs 3 (.int .i64))))))))))), (1, (.c false (.v true (.int .i64)))), (2, (.c false (.v true (.int .i64)))), (8, (.b 72 [(.v true (.pair (.int .i64) (.pair (.int .i64) (.int .i64))))]))], [(.ret, [(6, (.c false (.v true .bool)))])], fun v => J42_7 n v.1 v.2.1 v.2.2.1 v.2.2.2.1⟩ := fun _ => by kernel_rfl
theorem secs42 : seconds code42 = [(some 1, (sec code42 0).2), (some 3, (sec code42 1).2), (none, (sec code42 2).2), (none, (sec code42 3).2), (some 4, (sec code42 4).2), (some 5, (sec code42 5).2), (some 7, (sec code42 6).2), (none, (sec code42 7).2), (none, (sec code42 8).2), (none, (sec code42 9).2)] := by kernel_rfl
theorem la42 (n : Nat) : LpAll (tb42 n) code42 := lpAll blocks42 (bl_nil) secs42 (cs_none rfl (cs_none rfl (cs_none rfl (cs_none rfl (cs_none rfl (cs_none rfl (cs_one rfl (ct42_7 n) (cs_none rfl (cs_none rfl (cs_none rfl (cs_nil))))))))))) (by kernel_rfl)
theorem ev42 (n : Nat) (x : pdens [.c false (.f (.pt false (.pair (.rs 57 (.rs 72 (.pair (.int .i64) (.pair (.int .i64) (.int .i64))))) (.pair (.rs 76 (.pair (.int .i64) (.pair (.int .i64) .bool))) (.pair (.rs 4 .bool) (.pair (.rs 4 .bool) (.pair (.rs 3 (.int .i64)) (.rs 3 (.int .i64))))))))), .c false (.v true (.int .i64)), .c false (.v true (.int .i64))]) : evSig (tb42 n) Tryz.f42 [.c false (.f (.pt false (.pair (.rs 57 (.rs 72 (.pair (.int .i64) (.pair (.int .i64) (.int .i64))))) (.pair (.rs 76 (.pair (.int .i64) (.pair (.int .i64) .bool))) (.pair (.rs 4 .bool) (.pair (.rs 4 .bool) (.pair (.rs 3 (.int .i64)) (.rs 3 (.int .i64))))))))), .c false (.v true (.int .i64)), .c false (.v true (.int .i64))] [.c false (.v true .bool)] x = F42 n x.1 x.2.1 x.2.2.1 := by kernel_rfl
theorem con42_ok (n : Nat) : Con.ok Tryz.prog 42 (con42 n) := conOf_ok (tb42_ok n) (body_la (by kernel_rfl : Tryz.f42.body = some code42) (la42 n)) Tryz.func42 (enters Tryz.func42 (by kernel_rfl) (by kernel_rfl)) rfl rfl (ev42 n)
/-! ### (*loop.example/fathomline/spec.l13Ord).same -/
def F43 (n : Nat) (a0 : List (List (Int × Int × Int)) × List (Int × Int × Bool) × List Bool × List Bool × List Int × List Int) (a1 : Int) (a2 : Int) : Option (rdens [.c false (.f (.pt false (.pair (.rs 57 (.rs 72 (.pair (.int .i64) (.pair (.int .i64) (.int .i64))))) (.pair (.rs 76 (.pair (.int .i64) (.pair (.int .i64) .bool))) (.pair (.rs 4 .bool) (.pair (.rs 4 .bool) (.pair (.rs 3 (.int .i64)) (.rs 3 (.int .i64))))))))), .c false (.v true (.int .i64)), .c false (.v true (.int .i64))] [.c false (.v true .bool)]) :=
  if (0 : Int) ≤ a1 then
  if a1 < (↑(List.length a0.snd.snd.fst) : Int) then
  cond (List.getD a0.snd.snd.fst a1.toNat Bool.false)
  (if (0 : Int) ≤ a2 then
   if a2 < (↑(List.length a0.snd.snd.fst) : Int) then
   cond (List.getD a0.snd.snd.fst a2.toNat Bool.false)
   ((F38 n (a0) (a1)).bind fun y1 =>
    (F38 n (a0) (a2)).bind fun y2 =>
    some (y1.fst.snd.fst == y2.fst.snd.fst, ()))
   (if (0 : Int) ≤ a2 then
    if a2 < (↑(List.length a0.snd.snd.snd.fst) : Int) then
    cond (List.getD a0.snd.snd.snd.fst a2.toNat Bool.false)
    ((F38 n (a0) (a1)).bind fun y3 =>
     (F38 n (a0) (a2)).bind fun y4 =>
     some (y3.fst.snd.fst == y4.fst.snd.fst, ()))
    (some (Bool.false, ()))
    else none
    else none)
   else none
   else none)
  (if (0 : Int) ≤ a1 then
   if a1 < (↑(List.length a0.snd.snd.snd.fst) : Int) then
   cond (List.getD a0.snd.snd.snd.fst a1.toNat Bool.false)
   (if (0 : Int) ≤ a2 then
    if a2 < (↑(List.length a0.snd.snd.fst) : Int) then
    cond (List.getD a0.snd.snd.fst a2.toNat Bool.false)
    ((F38 n (a0) (a1)).bind fun y5 =>
     (F38 n (a0) (a2)).bind fun y6 =>
     some (y5.fst.snd.fst == y6.fst.snd.fst, ()))
    (if (0 : Int) ≤ a2 then
     if a2 < (↑(List.length a0.snd.snd.snd.fst) : Int) then
     cond (List.getD a0.snd.snd.snd.fst a2.toNat Bool.false)
     ((F38 n (a0) (a1)).bind fun y7 =>
      (F38 n (a0) (a2)).bind fun y8 =>
      some (y7.fst.snd.fst == y8.fst.snd.fst, ()))
     (some (Bool.false, ()))
     else none
     else none)
    else none
    else none)
   (some (Bool.false, ()))
   else none
   else none)
  else none
  else none
noncomputable def con43 (n : Nat) : Con := conOf [.c false (.f (.pt false (.pair (.rs 57 (.rs 72 (.pair (.int .i64) (.pair (.int .i64) (.int .i64))))) (.pair (.rs 76 (.pair (.int .i64) (.pair (.int .i64) .bool))) (.pair (.rs 4 .bool) (.pair (.rs 4 .bool) (.pair (.rs 3 (.int .i64)) (.rs 3 (.int .i64))))))))), .c false (.v true (.int .i64)), .c false (.v true (.int .i64))] [.c false (.v true .bool)] fun x => F43 n x.1 x.2.1 x.2.2.1
noncomputable def tb43 (n : Nat) : Tb := ⟨tiOf Tryz.prog, conL [(38, con38 n)], n, [], 52, lpL [], ctL [], [], true⟩
noncomputable def code43 : Code := Tryz.f43.body.getD .skip
theorem tb43_ok (n : Nat) : (tb43 n).ok Tryz.prog := tbOk mixed (⟨con38_ok n, trivial⟩)
theorem blocks43 : blocks code43 = [] := by kernel_rfl
theorem la43 (n : Nat) : LpAll (tb43 n) code43 := lpAll blocks43 (bl_nil) rfl (cs_no fun _ => rfl) (by kernel_rfl)
theorem ev43 (n : Nat) (x : pdens [.c false (.f (.pt false (.pair (.rs 57 (.rs 72 (.pair (.int .i64) (.pair (.int .i64) (.int .i64))))) (.pair (.rs 76 (.pair (.int .i64) (.pair (.int .i64) .bool))) (.pair (.rs 4 .bool) (.pair (.rs 4 .bool) (.pair (.rs 3 (.int .i64)) (.rs 3 (.int .i64))))))))), .c false (.v true (.int .i64)), .c false (.v true (.int .i64))]) : evSig (tb43 n) Tryz.f43 [.c false (.f (.pt false (.pair (.rs 57 (.rs 72 (.pair (.int .i64) (.pair (.int .i64) (.int .i64))))) (.pair (.rs 76 (.pair (.int .i64) (.pair (.int .i64) .bool))) (.pair (.rs 4 .bool) (.pair (.rs 4 .bool) (.pair (.rs 3 (.int .i64)) (.rs 3 (.int .i64))))))))), .c false (.v true (.int .i64)), .c false (.v true (.int .i64))] [.c false (.v true .bool)] x = F43 n x.1 x.2.1 x.2.2.1 := by kernel_rfl
theorem con43_ok (n : Nat) : Con.ok Tryz.prog 43 (con43 n) := conOf_ok (tb43_ok n) (body_la (by kernel_rfl : Tryz.f43.body = some code43) (la43 n)) Tryz.func43 (enters Tryz.func43 (by kernel_rfl) (by kernel_rfl)) rfl rfl (ev43 n)
/-! ### (*loop.example/fathomline/spec.l13Ord).stays -/
def F19 (n : Nat) (a0 : List (List (Int × Int × Int)) × List (Int × Int × Bool) × List Bool × List Bool × List Int × List Int) (a1 : Int) (a2 : Int) (a3 : Int) : Option (rdens [.c false (.f (.pt false (.pair (.rs 57 (.rs 72 (.pair (.int .i64) (.pair (.int .i64) (.int .i64))))) (.pair (.rs 76 (.pair (.int .i64) (.pair (.int .i64) .bool))) (.pair (.rs 4 .bool) (.pair (.rs 4 .bool) (.pair (.rs 3 (.int .i64)) (.rs 3 (.int .i64))))))))), .c false (.v true (.int .i64)), .c false (.v true (.int .i64)), .c false (.v true (.int .i64))] [.c false (.v true .bool)]) :=
  cond (a1 == (1 : Int))
  ((F41 n (a0) (a2) (a3)).bind fun y1 =>
   some (y1.fst, ()))
  (cond (a1 == (2 : Int))
   ((F41 n (a0) (a2) (a3)).bind fun y2 =>
    cond (y2.fst)
    (if (0 : Int) ≤ a2 then
     if a2 < (↑(List.length a0.snd.snd.snd.fst) : Int) then
     cond (List.getD a0.snd.snd.snd.fst a2.toNat Bool.false)
     (if (0 : Int) ≤ a3 then
      if a3 < (↑(List.length a0.snd.snd.fst) : Int) then
      some (!List.getD a0.snd.snd.fst a3.toNat Bool.false, ())
      else none
      else none)
     (some (!Bool.false, ()))
     else none
     else none)
    (some (Bool.false, ())))
   (cond (a1 == (3 : Int))
    ((F42 n (a0) (a2) (a3)).bind fun y3 =>
     some (y3.fst, ()))
    ((F41 n (a0) (a2) (a3)).bind fun y4 =>
     cond (y4.fst)
     ((F43 n (a0) (a2) (a3)).bind fun y5 =>
      some (y5.fst, ()))
     (some (Bool.false, ())))))
noncomputable def con19 (n : Nat) : Con := conOf [.c false (.f (.pt false (.pair (.rs 57 (.rs 72 (.pair (.int .i64) (.pair (.int .i64) (.int .i64))))) (.pair (.rs 76 (.pair (.int .i64) (.pair (.int .i64) .bool))) (.pair (.rs 4 .bool) (.pair (.rs 4 .bool) (.pair (.rs 3 (.int .i64)) (.rs 3 (.int .i64))))))))), .c false (.v true (.int .i64)), .c false (.v true (.int .i64)), .c false (.v true (.int .i64))] [.c false (.v true .bool)] fun x => F19 n x.1 x.2.1 x.2.2.1 x.2.2.2.1
noncomputable def tb19 (n : Nat) : Tb := ⟨tiOf Tryz.prog, conL [(41, con41 n), (42, con42 n), (43, con43 n)], n, [], 57, lpL [], ctL [], [], true⟩
noncomputable def code19 : Code := Tryz.f19.body.getD .skip
theorem tb19_ok (n : Nat) : (tb19 n).ok Tryz.prog := tbOk mixed (⟨con41_ok n, ⟨con42_ok n, ⟨con43_ok n, trivial⟩⟩⟩)
theorem blocks19 : blocks code19 = [(0, blockBody code19 0)] := by kernel_rfl
theorem la19 (n : Nat) : LpAll (tb19 n) code19 := lpAll blocks19 (bl_none rfl (bl_nil)) rfl (cs_no fun _ => rfl) (by kernel_rfl)
theorem ev19 (n : Nat) (x : pdens [.c false (.f (.pt false (.pair (.rs 57 (.rs 72 (.pair (.int .i64) (.pair (.int .i64) (.int .i64))))) (.pair (.rs 76 (.pair (.int .i64) (.pair (.int .i64) .bool))) (.pair (.rs 4 .bool) (.pair (.rs 4 .bool) (.pair (.rs 3 (.int .i64)) (.rs 3 (.int .i64))))))))), .c false (.v true (.int .i64)), .c false (.v true (.int .i64)), .c false (.v true (.int .i64))]) : evSig (tb19 n) Tryz.f19 [.c false (.f (.pt false (.pair (.rs 57 (.rs 72 (.pair (.int .i64) (.pair (.int .i64) (.int .i64))))) (.pair (.rs 76 (.pair (.int .i64) (.pair (.int .i64) .bool))) (.pair (.rs 4 .bool) (.pair (.rs 4 .bool) (.pair (.rs 3 (.int .i64)) (.rs 3 (.int .i64))))))))), .c false (.v true (.int .i64)), .c false (.v true (.int .i64)), .c false (.v true (.int .i64))] [.c false (.v true .bool)] x = F19 n x.1 x.2.1 x.2.2.1 x.2.2.2.1 := by kernel_rfl
theorem con19_ok (n : Nat) : Con.ok Tryz.prog 19 (con19 n) := conOf_ok (tb19_ok n) (body_la (by kernel_rfl : Tryz.f19.body = some code19) (la19 n)) Tryz.func19 (enters Tryz.func19 (by kernel_rfl) (by kernel_rfl)) rfl rfl (ev19 n)
/-! ### (*loop.example/fathomline/spec.l13Ord).read -/
def F44 (n : Nat) (a0 : List (List (Int × Int × Int)) × List (Int × Int × Bool) × List Bool × List Bool × List Int × List Int) (a1 : Int) (a2 : Int) : Option (rdens [.c false (.f (.pt false (.pair (.rs 57 (.rs 72 (.pair (.int .i64) (.pair (.int .i64) (.int .i64))))) (.pair (.rs 76 (.pair (.int .i64) (.pair (.int .i64) .bool))) (.pair (.rs 4 .bool) (.pair (.rs 4 .bool) (.pair (.rs 3 (.int .i64)) (.rs 3 (.int .i64))))))))), .c false (.v true (.int .i64)), .c false (.v true (.int .i64))] [.c false (.v true .bool)]) :=
  if (0 : Int) ≤ a1 then
  if a1 < (↑(List.length a0.snd.snd.snd.fst) : Int) then
  cond (List.getD a0.snd.snd.snd.fst a1.toNat Bool.false)
  (if (0 : Int) ≤ a2 then
   if a2 < (↑(List.length a0.snd.snd.fst) : Int) then
   cond (List.getD a0.snd.snd.fst a2.toNat Bool.false)
   (if (0 : Int) ≤ a2 then
    if a2 < (↑(List.length a0.snd.snd.snd.snd.fst) : Int) then
    some (List.getD a0.snd.snd.snd.snd.fst a2.toNat (0 : Int) == a1, ())
    else none
    else none)
   (some (Bool.false, ()))
   else none
   else none)
  (some (Bool.false, ()))
  else none
  else none
noncomputable def con44 (n : Nat) : Con := conOf [.c false (.f (.pt false (.pair (.rs 57 (.rs 72 (.pair (.int .i64) (.pair (.int .i64) (.int .i64))))) (.pair (.rs 76 (.pair (.int .i64) (.pair (.int .i64) .bool))) (.pair (.rs 4 .bool) (.pair (.rs 4 .bool) (.pair (.rs 3 (.int .i64)) (.rs 3 (.int .i64))))))))), .c false (.v true (.int .i64)), .c false (.v true (.int .i64))] [.c false (.v true .bool)] fun x => F44 n x.1 x.2.1 x.2.2.1
noncomputable def tb44 (n : Nat) : Tb := ⟨tiOf Tryz.prog, conL [], n, [], 34, lpL [], ctL [], [], true⟩
noncomputable def code44 : Code := Tryz.f44.body.getD .skip
theorem tb44_ok (n : Nat) : (tb44 n).ok Tryz.prog := tbOk mixed (trivial)
theorem blocks44 : blocks code44 = [] := by kernel_rfl
theorem la44 (n : Nat) : LpAll (tb44 n) code44 := lpAll blocks44 (bl_nil) rfl (cs_no fun _ => rfl) (by kernel_rfl)
theorem ev44 (n : Nat) (x : pdens [.c false (.f (.pt false (.pair (.rs 57 (.rs 72 (.pair (.int .i64) (.pair (.int .i64) (.int .i64))))) (.pair (.rs 76 (.pair (.int .i64) (.pair (.int .i64) .bool))) (.pair (.rs 4 .bool) (.pair (.rs 4 .bool) (.pair (.rs 3 (.int .i64)) (.rs 3 (.int .i64))))))))), .c false (.v true (.int .i64)), .c false (.v true (.int .i64))]) : evSig (tb44 n) Tryz.f44 [.c false (.f (.pt false (.pair (.rs 57 (.rs 72 (.pair (.int .i64) (.pair (.int .i64) (.int .i64))))) (.pair (.rs 76 (.pair (.int .i64) (.pair (.int .i64) .bool))) (.pair (.rs 4 .bool) (.pair (.rs 4 .bool) (.pair (.rs 3 (.int .i64)) (.rs 3 (.int .i64))))))))), .c false (.v true (.int .i64)), .c false (.v true (.int .i64))] [.c false (.v true .bool)] x = F44 n x.1 x.2.1 x.2.2.1 := by kernel_rfl
theorem con44_ok (n : Nat) : Con.ok Tryz.prog 44 (con44 n) := conOf_ok (tb44_ok n) (body_la (by kernel_rfl : Tryz.f44.body = some code44) (la44 n)) Tryz.func44 (enters Tryz.func44 (by kernel_rfl) (by kernel_rfl)) rfl rfl (ev44 n)
/-! ### (*loop.example/fathomline/spec.l13Ord).over -/
def F45 (n : Nat) (a0 : List (List (Int × Int × Int)) × List (Int × Int × Bool) × List Bool × List Bool × List Int × List Int) (a1 : Int) (a2 : Int) : Option (rdens [.c false (.f (.pt false (.pair (.rs 57 (.rs 72 (.pair (.int .i64) (.pair (.int .i64) (.int .i64))))) (.pair (.rs 76 (.pair (.int .i64) (.pair (.int .i64) .bool))) (.pair (.rs 4 .bool) (.pair (.rs 4 .bool) (.pair (.rs 3 (.int .i64)) (.rs 3 (.int .i64))))))))), .c false (.v true (.int .i64)), .c false (.v true (.int .i64))] [.c false (.v true .bool)]) :=
  if (0 : Int) ≤ a2 then
  if a2 < (↑(List.length a0.snd.snd.snd.fst) : Int) then
  cond (List.getD a0.snd.snd.snd.fst a2.toNat Bool.false)
  (cond (a1 != a2)
   ((F43 n (a0) (a1) (a2)).bind fun y1 =>
    cond (y1.fst)
    (if (0 : Int) ≤ a1 then
     if a1 < (↑(List.length a0.snd.snd.snd.snd.snd) : Int) then
     if (0 : Int) ≤ a2 then
     if a2 < (↑(List.length a0.snd.snd.snd.snd.snd) : Int) then
     some (Decidable.decide (List.getD a0.snd.snd.snd.snd.snd a1.toNat (0 : Int) < List.getD a0.snd.snd.snd.snd.snd a2.toNat (0 : Int)), ())
     else none
     else none
     else none
     else none)
    (some (Bool.false, ())))
   (some (Bool.false, ())))
  (some (Bool.false, ()))
  else none
  else none
noncomputable def con45 (n : Nat) : Con := conOf [.c false (.f (.pt false (.pair (.rs 57 (.rs 72 (.pair (.int .i64) (.pair (.int .i64) (.int .i64))))) (.pair (.rs 76 (.pair (.int .i64) (.pair (.int .i64) .bool))) (.pair (.rs 4 .bool) (.pair (.rs 4 .bool) (.pair (.rs 3 (.int .i64)) (.rs 3 (.int .i64))))))))), .c false (.v true (.int .i64)), .c false (.v true (.int .i64))] [.c false (.v true .bool)] fun x => F45 n x.1 x.2.1 x.2.2.1
noncomputable def tb45 (n : Nat) : Tb := ⟨tiOf Tryz.prog, conL [(43, con43 n)], n, [], 42, lpL [], ctL [], [], true⟩
noncomputable def code45 : Code := Tryz.f45.body.getD .skip
theorem tb45_ok (n : Nat) : (tb45 n).ok Tryz.prog := tbOk mixed (⟨con43_ok n, trivial⟩)
theorem blocks45 : blocks code45 = [] := by kernel_rfl
theorem la45 (n : Nat) : LpAll (tb45 n) code45 := lpAll blocks45 (bl_nil) rfl (cs_no fun _ => rfl) (by kernel_rfl)
theorem ev45 (n : Nat) (x : pdens [.c false (.f (.pt false (.pair (.rs 57 (.rs 72 (.pair (.int .i64) (.pair (.int .i64) (.int .i64))))) (.pair (.rs 76 (.pair (.int .i64) (.pair (.int .i64) .bool))) (.pair (.rs 4 .bool) (.pair (.rs 4 .bool) (.pair (.rs 3 (.int .i64)) (.rs 3 (.int .i64))))))))), .c false (.v true (.int .i64)), .c false (.v true (.int .i64))]) : evSig (tb45 n) Tryz.f45 [.c false (.f (.pt false (.pair (.rs 57 (.rs 72 (.pair (.int .i64) (.pair (.int .i64) (.int .i64))))) (.pair (.rs 76 (.pair (.int .i64) (.pair (.int .i64) .bool))) (.pair (.rs 4 .bool) (.pair (.rs 4 .bool) (.pair (.rs 3 (.int .i64)) (.rs 3 (.int .i64))))))))), .c false (.v true (.int .i64)), .c false (.v true (.int .i64))] [.c false (.v true .bool)] x = F45 n x.1 x.2.1 x.2.2.1 := by kernel_rfl
theorem con45_ok (n : Nat) : Con.ok Tryz.prog 45 (con45 n) := conOf_ok (tb45_ok n) (body_la (by kernel_rfl : Tryz.f45.body = some code45) (la45 n)) Tryz.func45 (enters Tryz.func45 (by kernel_rfl) (by kernel_rfl)) rfl rfl (ev45 n)
/-! ### (*loop.example/fathomline/spec.l13Ord).told -/
def F20 (n : Nat) (a0 : List (List (Int × Int × Int)) × List (Int × Int × Bool) × List Bool × List Bool × List Int × List Int) (a1 : Int) (a2 : Int) (a3 : Int) : Option (rdens [.c false (.f (.pt false (.pair (.rs 57 (.rs 72 (.pair (.int .i64) (.pair (.int .i64) (.int .i64))))) (.pair (.rs 76 (.pair (.int .i64) (.pair (.int .i64) .bool))) (.pair (.rs 4 .bool) (.pair (.rs 4 .bool) (.pair (.rs 3 (.int .i64)) (.rs 3 (.int .i64))))))))), .c false (.v true (.int .i64)), .c false (.v true (.int .i64)), .c false (.v true (.int .i64))] [.c false (.v true .bool)]) :=
  if (0 : Int) ≤ a2 then
  if a2 < (↑(List.length a0.snd.fst) : Int) then
  if (0 : Int) ≤ a3 then
  if a3 < (↑(List.length a0.snd.fst) : Int) then
  cond (a1 == (2 : Int))
  (cond ((List.getD a0.snd.fst a2.toNat ((0 : Int), (0 : Int), Bool.false)).fst != (List.getD a0.snd.fst a3.toNat ((0 : Int), (0 : Int), Bool.false)).fst)
   ((F44 n (a0) (a2) (a3)).bind fun y1 =>
    cond (y1.fst)
    (some (Bool.true, ()))
    ((F45 n (a0) (a2) (a3)).bind fun y2 =>
     some (y2.fst, ())))
   ((F45 n (a0) (a2) (a3)).bind fun y3 =>
    some (y3.fst, ())))
  (cond (a1 == (3 : Int))
   (cond ((List.getD a0.snd.fst a2.toNat ((0 : Int), (0 : Int), Bool.false)).fst != (List.getD a0.snd.fst a3.toNat ((0 : Int), (0 : Int), Bool.false)).fst)
    ((F44 n (a0) (a2) (a3)).bind fun y4 =>
     cond (y4.fst)
     (some (Bool.true, ()))
     ((F45 n (a0) (a2) (a3)).bind fun y5 =>
      some (y5.fst, ())))
    (some (Bool.false, ())))
   ((F44 n (a0) (a2) (a3)).bind fun y6 =>
    cond (y6.fst)
    (some (Bool.true, ()))
    ((F45 n (a0) (a2) (a3)).bind fun y7 =>
     some (y7.fst, ()))))
  else none
  else none
  else none
  else none
noncomputable def con20 (n : Nat) : Con := conOf [.c false (.f (.pt false (.pair (.rs 57 (.rs 72 (.pair (.int .i64) (.pair (.int .i64) (.int .i64))))) (.pair (.rs 76 (.pair (.int .i64) (.pair (.int .i64) .bool))) (.pair (.rs 4 .bool) (.pair (.rs 4 .bool) (.pair (.rs 3 (.int .i64)) (.rs 3 (.int .i64))))))))), .c false (.v true (.int .i64)), .c false (.v true (.int .i64)), .c false (.v true (.int .i64))] [.c false (.v true .bool)] fun x => F20 n x.1 x.2.1 x.2.2.1 x.2.2.2.1
noncomputable def tb20 (n : Nat) : Tb := ⟨tiOf Tryz.prog, conL [(44, con44 n), (45, con45 n)], n, [], 68, lpL [], ctL [], [], true⟩
noncomputable def code20 : Code := Tryz.f20.body.getD .skip
theorem tb20_ok (n : Nat) : (tb20 n).ok Tryz.prog := tbOk mixed (⟨con44_ok n, ⟨con45_ok n, trivial⟩⟩)
theorem blocks20 : blocks code20 = [(0, blockBody code20 0)] := by kernel_rfl
theorem la20 (n : Nat) : LpAll (tb20 n) code20 := lpAll blocks20 (bl_none rfl (bl_nil)) rfl (cs_no fun _ => rfl) (by kernel_rfl)
theorem ev20 (n : Nat) (x : pdens [.c false (.f (.pt false (.pair (.rs 57 (.rs 72 (.pair (.int .i64) (.pair (.int .i64) (.int .i64))))) (.pair (.rs 76 (.pair (.int .i64) (.pair (.int .i64) .bool))) (.pair (.rs 4 .bool) (.pair (.rs 4 .bool) (.pair (.rs 3 (.int .i64)) (.rs 3 (.int .i64))))))))), .c false (.v true (.int .i64)), .c false (.v true (.int .i64)), .c false (.v true (.int .i64))]) : evSig (tb20 n) Tryz.f20 [.c false (.f (.pt false (.pair (.rs 57 (.rs 72 (.pair (.int .i64) (.pair (.int .i64) (.int .i64))))) (.pair (.rs 76 (.pair (.int .i64) (.pair (.int .i64) .bool))) (.pair (.rs 4 .bool) (.pair (.rs 4 .bool) (.pair (.rs 3 (.int .i64)) (.rs 3 (.int .i64))))))))), .c false (.v true (.int .i64)), .c false (.v true (.int .i64)), .c false (.v true (.int .i64))] [.c false (.v true .bool)] x = F20 n x.1 x.2.1 x.2.2.1 x.2.2.2.1 := by kernel_rfl
theorem con20_ok (n : Nat) : Con.ok Tryz.prog 20 (con20 n) := conOf_ok (tb20_ok n) (body_la (by kernel_rfl : Tryz.f20.body = some code20) (la20 n)) Tryz.func20 (enters Tryz.func20 (by kernel_rfl) (by kernel_rfl)) rfl rfl (ev20 n)
/-! ### loop.example/fathomline/spec.OrderHas -/
def J6_6 (n : Nat) (x11 : Int) (x12 : Int) (x13 : Int) (x14 : (List Int × List (List Int)) × Unit) (x15 : (List (List (Int × Int × Int)) × List (Int × Int × Bool) × List Bool × List Bool × List Int × List Int) × Unit) : Option (odens [(.ret, [(10, (.c false (.v true .bool)))])]) :=
    (F18 n (((x15.fst.fst, x15.fst.snd.fst, x15.fst.snd.snd.fst, x15.fst.snd.snd.snd.fst, x15.fst.snd.snd.snd.snd.fst, x15.fst.snd.snd.snd.snd.snd), ())) ((x14.fst.fst, x14.fst.snd))).bind fun y16 =>
    (F19 n ((y16.fst.fst.fst, y16.fst.fst.snd.fst, y16.fst.fst.snd.snd.fst, y16.fst.fst.snd.snd.snd.fst, y16.fst.fst.snd.snd.snd.snd.fst, y16.fst.fst.snd.snd.snd.snd.snd)) (x11) (x12) (x13)).bind fun y17 =>
    cond (y17.fst)
    (some (Sum.inl (Bool.true, ())))
    ((F20 n ((y16.fst.fst.fst, y16.fst.fst.snd.fst, y16.fst.fst.snd.snd.fst, y16.fst.fst.snd.snd.snd.fst, y16.fst.fst.snd.snd.snd.snd.fst, y16.fst.fst.snd.snd.snd.snd.snd)) (x11) (x12) (x13)).bind fun y18 =>
     some (Sum.inl (y18.fst, ())))
def J6_3 (n : Nat) (x3 : Int) (x4 : Int) (x5 : Int) (x6 : List (List (Int × Int × Int)) × Unit) (x7 : (List Int × List (List Int)) × Unit) : Option (odens [(.ret, [(10, (.c false (.v true .bool)))])]) :=
    (F17 n (x6.fst)).bind fun y8 =>
    (F16 n (x4) ((0 : Int)) (Go.IntKind.i64.wrap ((↑(List.length y8.fst.fst.snd.fst) : Int) - (1 : Int)))).bind fun y9 =>
    cond (!y9.fst)
    (some (Sum.inl (Bool.false, ())))
    ((F16 n (x5) ((0 : Int)) (Go.IntKind.i64.wrap ((↑(List.length y8.fst.fst.snd.fst) : Int) - (1 : Int)))).bind fun y10 =>
     cond (!y10.fst)
     (some (Sum.inl (Bool.false, ())))
     (match J6_6 n (x3) (x4) (x5) (((x7.fst.fst, x7.fst.snd), ())) (((y8.fst.fst.fst, y8.fst.fst.snd.fst, y8.fst.fst.snd.snd.fst, y8.fst.fst.snd.snd.snd.fst, y8.fst.fst.snd.snd.snd.snd.fst, y8.fst.fst.snd.snd.snd.snd.snd), ())) with
      | none => none
      | some (Sum.inl v19) =>
       some (Sum.inl (v19.fst, ()))))
def F6 (n : Nat) (a0 : List (List (Int × Int × Int))) (a1 : List Int × List (List Int)) (a2 : Int) (a3 : Int) (a4 : Int) : Option (rdens [.c true (.v true (.rs 57 (.rs 72 (.pair (.int .i64) (.pair (.int .i64) (.int .i64)))))), .c true (.v true (.pair (.rs 3 (.int .i64)) (.rs 25 (.rs 3 (.int .i64))))), .c false (.v true (.int .i64)), .c false (.v true (.int .i64)), .c false (.v true (.int .i64))] [.c false (.v true .bool)]) :=
  (F15 n (a0) ((a1.fst, a1.snd))).bind fun y1 =>
  cond (!y1.fst)
  (some (Bool.false, ()))
  ((F16 n (a2) ((1 : Int)) ((3 : Int))).bind fun y2 =>
   cond (!y2.fst)
   (some (Bool.false, ()))
   (match J6_3 n (a2) (a3) (a4) ((a0, ())) (((a1.fst, a1.snd), ())) with
    | none => none
    | some (Sum.inl v20) =>
     some (v20.fst, ())))
noncomputable def con6 (n : Nat) : Con := conOf [.c true (.v true (.rs 57 (.rs 72 (.pair (.int .i64) (.pair (.int .i64) (.int .i64)))))), .c true (.v true (.pair (.rs 3 (.int .i64)) (.rs 25 (.rs 3 (.int .i64))))), .c false (.v true (.int .i64)), .c false (.v true (.int .i64)), .c false (.v true (.int .i64))] [.c false (.v true .bool)] fun x => F6 n x.1 x.2.1 x.2.2.1 x.2.2.2.1 x.2.2.2.2.1
noncomputable def tb6 (n : Nat) : Tb := ⟨tiOf Tryz.prog, conL [(15, con15 n), (16, con16 n), (17, con17 n), (18, con18 n), (19, con19 n), (20, con20 n)], n, [], 58, lpL [], ctL [(6, ⟨[(2, (.c false (.v true (.int .i64)))), (3, (.c false (.v true (.int .i64)))), (4, (.c false (.v true (.int .i64)))), (6, (.b 36 [(.v true (.pair (.rs 3 (.int .i64)) (.rs 25 (.rs 3 (.int .i64)))))])), (11, (.b 51 [(.v true (.pair (.rs 57 (.rs 72 (.pair (.int .i64) (.pair (.int .i64) (.int .i64))))) (.pair (.rs 76 (.pair (.int .i64) (.pair (.int .i64) .bool))) (.pair (.rs 4 .bool) (.pair (.rs 4 .bool) (.pair (.rs 3 (.int .i64)) (.rs 3 (.int .i64))))))))]))], [(.ret, [(10, (.c false (.v true .bool)))])], fun v => J6_6 n v.1 v.2.1 v.2.2.1 v.2.2.2.1 v.2.2.2.2.1⟩), (3, ⟨[(2, (.c false (.v true (.int .i64)))), (3, (.c false (.v true (.int .i64)))), (4, (.c false (.v true (.int .i64)))), (5, (.b 34 [(.v true (.rs 57 (.rs 72 (.pair (.int .i64) (.pair (.int .i64) (.int .i64))))))])), (6, (.b 36 [(.v true (.pair (.rs 3 (.int .i64)) (.rs 25 (.rs 3 (.int .i64)))))]))], [(.ret, [(10, (.c false (.v true .bool)))])], fun v => J6_3 n v.1 v.2.1 v.2.2.1 v.2.2.2.1 v.2.2.2.2.1⟩)], [], true⟩
noncomputable def code6 : Code := Tryz.f6.body.getD .skip
theorem tb6_ok (n : Nat) : (tb6 n).ok Tryz.prog := tbOk mixed (⟨con15_ok n, ⟨con16_ok n, ⟨con17_ok n, ⟨con18_ok n, ⟨con19_ok n, ⟨con20_ok n, trivial⟩⟩⟩⟩⟩⟩)
theorem blocks6 : blocks code6 = [] := by kernel_rfl
theorem ct6_3 (n : Nat) : CtOk (tb6 n) (sec code6 1).2 ⟨[(2, (.c false (.v true (.int .i64)))), (3, (.c false (.v true (.int .i64)))), (4, (.c false (.v true (.int .i64)))), (5, (.b 34 [(.v true (.rs 57 (.rs 72 (.pair (.int .i64) (.pair (.int .i64) (.int .i64))))))])), (6, (.b 36 [(.v true (.pair (.rs 3 (.int .i64)) (.rs 25 (.rs 3 (.int .i64)))))]))], [(.ret, [(10, (.c false (.v true .bool)))])], fun v => J6_3 n v.1 v.2.1 v.2.2.1 v.2.2.2.1 v.2.2.2.2.1⟩ := fun _ => by kernel_rfl
theorem ct6_6 (n : Nat) : CtOk (tb6 n) (sec code6 5).2 ⟨[(2, (.c false (.v true (.int .i64)))), (3, (.c false (.v true (.int .i64)))), (4, (.c false (.v true (.int .i64)))), (6, (.b 36 [(.v true (.pair (.rs 3 (.int .i64)) (.rs 25 (.rs 3 (.int .i64)))))])), (11, (.b 51 [(.v true (.pair (.rs 57 (.rs 72 (.pair (.int .i64) (.pair (.int .i64) (.int .i64))))) (.pair (.rs 76 (.pair (.int .i64) (.pair (.int .i64) .bool))) (.pair (.rs 4 .bool) (.pair (.rs 4 .bool) (.pair (.rs 3 (.int .i64)) (.rs 3 (.int .i64))))))))]))], [(.ret, [(10, (.c false (.v true .bool)))])], fun v => J6_6 n v.1 v.2.1 v.2.2.1 v.2.2.2.1 v.2.2.2.2.1⟩ := fun _ => by kernel_rfl
theorem secs6 : seconds code6 = [(some 1, (sec code6 0).2), (some 3, (sec code6 1).2), (none, (sec code6 2).2), (none, (sec code6 3).2), (some 4, (sec code6 4).2), (some 6, (sec code6 5).2), (none, (sec code6 6).2), (none, (sec code6 7).2), (some 7, (sec code6 8).2), (none, (sec code6 9).2)] := by kernel_rfl
theorem la6 (n : Nat) : LpAll (tb6 n) code6 := lpAll blocks6 (bl_nil) secs6 (cs_none rfl (cs_one rfl (ct6_3 n) (cs_none rfl (cs_none rfl (cs_none rfl (cs_one rfl (ct6_6 n) (cs_none rfl (cs_none rfl (cs_none rfl (cs_none rfl (cs_nil))))))))))) (by kernel_rfl)
theorem ev6 (n : Nat) (x : pdens [.c true (.v true (.rs 57 (.rs 72 (.pair (.int .i64) (.pair (.int .i64) (.int .i64)))))), .c true (.v true (.pair (.rs 3 (.int .i64)) (.rs 25 (.rs 3 (.int .i64))))), .c false (.v true (.int .i64)), .c false (.v true (.int .i64)), .c false (.v true (.int .i64))]) : evSig (tb6 n) Tryz.f6 [.c true (.v true (.rs 57 (.rs 72 (.pair (.int .i64) (.pair (.int .i64) (.int .i64)))))), .c true (.v true (.pair (.rs 3 (.int .i64)) (.rs 25 (.rs 3 (.int .i64))))), .c false (.v true (.int .i64)), .c false (.v true (.int .i64)), .c false (.v true (.int .i64))] [.c false (.v true .bool)] x = F6 n x.1 x.2.1 x.2.2.1 x.2.2.2.1 x.2.2.2.2.1 := by kernel_rfl
theorem con6_ok (n : Nat) : Con.ok Tryz.prog 6 (con6 n) := conOf_ok (tb6_ok n) (body_la (by kernel_rfl : Tryz.f6.body = some code6) (la6 n)) Tryz.func6 (enters Tryz.func6 (by kernel_rfl) (by kernel_rfl)) rfl rfl (ev6 n)
end Go.Proofs.YtdacfaincamliaaGreat.Ev
