/- Plain functions that the loaded code comes to, and that it does. Conditions: none. -/
import Derived.Test.YtdacfaincamliaaGreatGE
namespace Go.Proofs.YtdacfaincamliaaGreat.Ev
open Go Go.Proofs
/-! ### loop.example/fathomline/spec.l12Do -/
def F59 (n : Nat) (a0 : List (List (Int × Int × Int))) (a1 : Int × Int × Bool) : Option (rdens [.c true (.v false (.rs 57 (.rs 72 (.pair (.int .i64) (.pair (.int .i64) (.int .i64)))))), .c true (.v true (.pair (.int .i64) (.pair (.int .i64) .bool)))] [.c true (.v true (.pair (.int .i64) (.pair (.int .i64) (.int .i64))))]) :=
  if (0 : Int) ≤ a1.fst then
  if a1.fst < (↑a0.length : Int) then
  if (0 : Int) ≤ a1.snd.fst then
  if a1.snd.fst < (↑(List.length (a0.getD (Int.toNat a1.fst) [])) : Int) then
  some (((List.getD (a0.getD (Int.toNat a1.fst) []) (Int.toNat a1.snd.fst) ((0 : Int), (0 : Int), (0 : Int))).fst, (List.getD (a0.getD (Int.toNat a1.fst) []) (Int.toNat a1.snd.fst) ((0 : Int), (0 : Int), (0 : Int))).snd.fst, (List.getD (a0.getD (Int.toNat a1.fst) []) (Int.toNat a1.snd.fst) ((0 : Int), (0 : Int), (0 : Int))).snd.snd), ())
  else none
  else none
  else none
  else none
noncomputable def con59 (n : Nat) : Con := conOf [.c true (.v false (.rs 57 (.rs 72 (.pair (.int .i64) (.pair (.int .i64) (.int .i64)))))), .c true (.v true (.pair (.int .i64) (.pair (.int .i64) .bool)))] [.c true (.v true (.pair (.int .i64) (.pair (.int .i64) (.int .i64))))] fun x => F59 n x.1 x.2.1
noncomputable def tb59 (n : Nat) : Tb := ⟨tiOf Tryz.prog, conL [], n, [], 15, lpL [], ctL [], [], true⟩
noncomputable def code59 : Code := Tryz.f59.body.getD .skip
theorem tb59_ok (n : Nat) : (tb59 n).ok Tryz.prog := tbOk mixed (trivial)
theorem blocks59 : blocks code59 = [] := by kernel_rfl
theorem la59 (n : Nat) : LpAll (tb59 n) code59 := lpAll blocks59 (bl_nil) rfl (cs_no fun _ => rfl) (by kernel_rfl)
theorem ev59 (n : Nat) (x : pdens [.c true (.v false (.rs 57 (.rs 72 (.pair (.int .i64) (.pair (.int .i64) (.int .i64)))))), .c true (.v true (.pair (.int .i64) (.pair (.int .i64) .bool)))]) : evSig (tb59 n) Tryz.f59 [.c true (.v false (.rs 57 (.rs 72 (.pair (.int .i64) (.pair (.int .i64) (.int .i64)))))), .c true (.v true (.pair (.int .i64) (.pair (.int .i64) .bool)))] [.c true (.v true (.pair (.int .i64) (.pair (.int .i64) (.int .i64))))] x = F59 n x.1 x.2.1 := by kernel_rfl
theorem con59_ok (n : Nat) : Con.ok Tryz.prog 59 (con59 n) := conOf_ok (tb59_ok n) (body_la (by kernel_rfl : Tryz.f59.body = some code59) (la59 n)) Tryz.func59 (enters Tryz.func59 (by kernel_rfl) (by kernel_rfl)) rfl rfl (ev59 n)
/-! ### loop.example/fathomline/spec.l12Writes -/
def J57_4 (n : Nat) (x8 : List (Int × Int × Bool)) (x9 : Int) (x10 : List (List (Int × Int × Int)) × Unit) (x11 : List Int) (x12 : Int) : Option (odens [(.normal, [(1, (.c false (.v false (.rs 76 (.pair (.int .i64) (.pair (.int .i64) .bool)))))), (2, (.c false (.v true (.int .i64)))), (3, (.b 34 [(.v false (.rs 57 (.rs 72 (.pair (.int .i64) (.pair (.int .i64) (.int .i64))))))])), (7, (.c false (.r 3 (.int .i64)))), (8, (.c false (.v true (.int .i64))))])]) :=
    some (Sum.inl (x8, x9, (x10.fst, ()), x11, Go.IntKind.i64.wrap (x12 + (1 : Int)), ()))
def L57_0 (n : Nat) : Nat → List (Int × Int × Bool) → Int → List (List (Int × Int × Int)) × Unit → List Int → Int → Option (odens [((.exit 0), [(7, (.c false (.r 3 (.int .i64))))])])
  | 0, _, _, _, _, _ => none
  | m + 1, x1, x2, x3, x4, x5 =>
    cond (Decidable.decide (x5 < (↑x1.length : Int)))
    (if (0 : Int) ≤ x5 then
     if x5 < (↑x1.length : Int) then
     (F59 n (x3.fst) (((x1.getD x5.toNat ((0 : Int), (0 : Int), Bool.false)).fst, (x1.getD x5.toNat ((0 : Int), (0 : Int), Bool.false)).snd.fst, (x1.getD x5.toNat ((0 : Int), (0 : Int), Bool.false)).snd.snd))).bind fun y6 =>
     (F39 n ((y6.fst.fst, y6.fst.snd.fst, y6.fst.snd.snd))).bind fun y7 =>
     cond (y7.fst)
     (cond (y6.fst.snd.fst == x2)
      (if (x4.length + [x5].length) * (8 : Nat) ≤ (140737488355328 : Nat) then
       match J57_4 n (x1) (x2) ((x3.fst, ())) (x4 ++ [x5]) (x5) with
       | none => none
       | some (Sum.inl v13) =>
        L57_0 n m (v13.fst) (v13.snd.fst) ((v13.snd.snd.fst.fst, ())) (v13.snd.snd.snd.fst) (v13.snd.snd.snd.snd.fst)
       else none)
      (match J57_4 n (x1) (x2) ((x3.fst, ())) (x4) (x5) with
       | none => none
       | some (Sum.inl v14) =>
        L57_0 n m (v14.fst) (v14.snd.fst) ((v14.snd.snd.fst.fst, ())) (v14.snd.snd.snd.fst) (v14.snd.snd.snd.snd.fst)))
     (match J57_4 n (x1) (x2) ((x3.fst, ())) (x4) (x5) with
      | none => none
      | some (Sum.inl v15) =>
       L57_0 n m (v15.fst) (v15.snd.fst) ((v15.snd.snd.fst.fst, ())) (v15.snd.snd.snd.fst) (v15.snd.snd.snd.snd.fst))
     else none
     else none)
    (some (Sum.inl (x4, ())))
def F57 (n : Nat) (a0 : List (List (Int × Int × Int))) (a1 : List (Int × Int × Bool)) (a2 : Int) : Option (rdens [.c true (.v false (.rs 57 (.rs 72 (.pair (.int .i64) (.pair (.int .i64) (.int .i64)))))), .c false (.v false (.rs 76 (.pair (.int .i64) (.pair (.int .i64) .bool)))), .c false (.v true (.int .i64))] [.c false (.r 3 (.int .i64))]) :=
  match L57_0 n n (a1) (a2) ((a0, ())) ([]) ((0 : Int)) with
  | none => none
  | some (Sum.inl v16) =>
   some (v16.fst, ())
noncomputable def con57 (n : Nat) : Con := conOf [.c true (.v false (.rs 57 (.rs 72 (.pair (.int .i64) (.pair (.int .i64) (.int .i64)))))), .c false (.v false (.rs 76 (.pair (.int .i64) (.pair (.int .i64) .bool)))), .c false (.v true (.int .i64))] [.c false (.r 3 (.int .i64))] fun x => F57 n x.1 x.2.1 x.2.2.1
noncomputable def tb57 (n : Nat) : Tb := ⟨tiOf Tryz.prog, conL [(59, con59 n), (39, con39 n)], n, [], 36, lpL [(0, ⟨[(1, (.c false (.v false (.rs 76 (.pair (.int .i64) (.pair (.int .i64) .bool)))))), (2, (.c false (.v true (.int .i64)))), (3, (.b 34 [(.v false (.rs 57 (.rs 72 (.pair (.int .i64) (.pair (.int .i64) (.int .i64))))))])), (7, (.c false (.r 3 (.int .i64)))), (8, (.c false (.v true (.int .i64))))], [((.exit 0), [(7, (.c false (.r 3 (.int .i64))))])], fun m v => L57_0 n m v.1 v.2.1 v.2.2.1 v.2.2.2.1 v.2.2.2.2.1⟩)], ctL [(4, ⟨[(1, (.c false (.v false (.rs 76 (.pair (.int .i64) (.pair (.int .i64) .bool)))))), (2, (.c false (.v true (.int .i64)))), (3, (.b 34 [(.v false (.rs 57 (.rs 72 (.pair (.int .i64) (.pair (.int .i64) (.int .i64))))))])), (7, (.c false (.r 3 (.int .i64)))), (8, (.c false (.v true (.int .i64))))], [(.normal, [(1, (.c false (.v false (.rs 76 (.pair (.int .i64) (.pair (.int .i64) .bool)))))), (2, (.c false (.v true (.int .i64)))), (3, (.b 34 [(.v false (.rs 57 (.rs 72 (.pair (.int .i64) (.pair (.int .i64) (.int .i64))))))])), (7, (.c false (.r 3 (.int .i64)))), (8, (.c false (.v true (.int .i64))))])], fun v => J57_4 n v.1 v.2.1 v.2.2.1 v.2.2.2.1 v.2.2.2.2.1⟩)], [], true⟩
noncomputable def code57 : Code := Tryz.f57.body.getD .skip
theorem tb57_ok (n : Nat) : (tb57 n).ok Tryz.prog := tbOk mixed (⟨con59_ok n, ⟨con39_ok n, trivial⟩⟩)
theorem lp57_0 (n : Nat) : LpAt (tb57 n) (loopBody code57 0) 0 := lpAt rfl (fun _ => by kernel_rfl) (fun _ _ => by kernel_rfl)
theorem blocks57 : blocks code57 = [(0, .loop (loopBody code57 0)), (1, blockBody code57 1)] := by kernel_rfl
theorem ct57_4 (n : Nat) : CtOk (tb57 n) (sec code57 6).2 ⟨[(1, (.c false (.v false (.rs 76 (.pair (.int .i64) (.pair (.int .i64) .bool)))))), (2, (.c false (.v true (.int .i64)))), (3, (.b 34 [(.v false (.rs 57 (.rs 72 (.pair (.int .i64) (.pair (.int .i64) (.int .i64))))))])), (7, (.c false (.r 3 (.int .i64)))), (8, (.c false (.v true (.int .i64))))], [(.normal, [(1, (.c false (.v false (.rs 76 (.pair (.int .i64) (.pair (.int .i64) .bool)))))), (2, (.c false (.v true (.int .i64)))), (3, (.b 34 [(.v false (.rs 57 (.rs 72 (.pair (.int .i64) (.pair (.int .i64) (.int .i64))))))])), (7, (.c false (.r 3 (.int .i64)))), (8, (.c false (.v true (.int .i64))))])], fun v => J57_4 n v.1 v.2.1 v.2.2.1 v.2.2.2.1 v.2.2.2.2.1⟩ := fun _ => by kernel_rfl
theorem secs57 : seconds code57 = [(some 1, (sec code57 0).2), (some 2, (sec code57 1).2), (some 8, (sec code57 2).2), (some 3, (sec code57 3).2), (some 5, (sec code57 4).2), (none, (sec code57 5).2), (some 4, (sec code57 6).2), (some 6, (sec code57 7).2), (none, (sec code57 8).2), (none, (sec code57 9).2)] := by kernel_rfl
theorem la57 (n : Nat) : LpAll (tb57 n) code57 := lpAll blocks57 (bl_loop (lp57_0 n) (bl_none rfl (bl_nil))) secs57 (cs_none rfl (cs_none rfl (cs_none rfl (cs_none rfl (cs_none rfl (cs_none rfl (cs_one rfl (ct57_4 n) (cs_none rfl (cs_none rfl (cs_none rfl (cs_nil))))))))))) (by kernel_rfl)
theorem ev57 (n : Nat) (x : pdens [.c true (.v false (.rs 57 (.rs 72 (.pair (.int .i64) (.pair (.int .i64) (.int .i64)))))), .c false (.v false (.rs 76 (.pair (.int .i64) (.pair (.int .i64) .bool)))), .c false (.v true (.int .i64))]) : evSig (tb57 n) Tryz.f57 [.c true (.v false (.rs 57 (.rs 72 (.pair (.int .i64) (.pair (.int .i64) (.int .i64)))))), .c false (.v false (.rs 76 (.pair (.int .i64) (.pair (.int .i64) .bool)))), .c false (.v true (.int .i64))] [.c false (.r 3 (.int .i64))] x = F57 n x.1 x.2.1 x.2.2.1 := by kernel_rfl
theorem con57_ok (n : Nat) : Con.ok Tryz.prog 57 (con57 n) := conOf_ok (tb57_ok n) (body_la (by kernel_rfl : Tryz.f57.body = some code57) (la57 n)) Tryz.func57 (enters Tryz.func57 (by kernel_rfl) (by kernel_rfl)) rfl rfl (ev57 n)
/-! ### loop.example/fathomline/spec.l12Has -/
def L58_0 (n : Nat) : Nat → List Int → Int → Int → Option (odens [(.ret, [(4, (.c false (.v true .bool)))]), ((.exit 0), [])])
  | 0, _, _, _ => none
  | m + 1, x1, x2, x3 =>
    cond (Decidable.decide (x3 < (↑x1.length : Int)))
    (if (0 : Int) ≤ x3 then
     if x3 < (↑x1.length : Int) then
     cond (x1.getD x3.toNat (0 : Int) == x2)
     (some (Sum.inl (Bool.true, ())))
     (L58_0 n m (x1) (x2) (Go.IntKind.i64.wrap (x3 + (1 : Int))))
     else none
     else none)
    (some (Sum.inr (Sum.inl (()))))
def F58 (n : Nat) (a0 : List Int) (a1 : Int) : Option (rdens [.c false (.v false (.rs 3 (.int .i64))), .c false (.v true (.int .i64))] [.c false (.v true .bool)]) :=
  match L58_0 n n (a0) (a1) ((0 : Int)) with
  | none => none
  | some (Sum.inl v4) =>
   some (v4.fst, ())
  | some (Sum.inr (Sum.inl v5)) =>
   some (Bool.false, ())
noncomputable def con58 (n : Nat) : Con := conOf [.c false (.v false (.rs 3 (.int .i64))), .c false (.v true (.int .i64))] [.c false (.v true .bool)] fun x => F58 n x.1 x.2.1
noncomputable def tb58 (n : Nat) : Tb := ⟨tiOf Tryz.prog, conL [], n, [], 18, lpL [(0, ⟨[(0, (.c false (.v false (.rs 3 (.int .i64))))), (1, (.c false (.v true (.int .i64)))), (5, (.c false (.v true (.int .i64))))], [(.ret, [(4, (.c false (.v true .bool)))]), ((.exit 0), [])], fun m v => L58_0 n m v.1 v.2.1 v.2.2.1⟩)], ctL [], [], true⟩
noncomputable def code58 : Code := Tryz.f58.body.getD .skip
theorem tb58_ok (n : Nat) : (tb58 n).ok Tryz.prog := tbOk mixed (trivial)
theorem lp58_0 (n : Nat) : LpAt (tb58 n) (loopBody code58 0) 0 := lpAt rfl (fun _ => by kernel_rfl) (fun _ _ => by kernel_rfl)
theorem blocks58 : blocks code58 = [(0, .loop (loopBody code58 0)), (1, blockBody code58 1)] := by kernel_rfl
theorem la58 (n : Nat) : LpAll (tb58 n) code58 := lpAll blocks58 (bl_loop (lp58_0 n) (bl_none rfl (bl_nil))) rfl (cs_no fun _ => rfl) (by kernel_rfl)
theorem ev58 (n : Nat) (x : pdens [.c false (.v false (.rs 3 (.int .i64))), .c false (.v true (.int .i64))]) : evSig (tb58 n) Tryz.f58 [.c false (.v false (.rs 3 (.int .i64))), .c false (.v true (.int .i64))] [.c false (.v true .bool)] x = F58 n x.1 x.2.1 := by kernel_rfl
theorem con58_ok (n : Nat) : Con.ok Tryz.prog 58 (con58 n) := conOf_ok (tb58_ok n) (body_la (by kernel_rfl : Tryz.f58.body = some code58) (la58 n)) Tryz.func58 (enters Tryz.func58 (by kernel_rfl) (by kernel_rfl)) rfl rfl (ev58 n)
/-! ### loop.example/fathomline/spec.l12Form -/
def L35_2 (n : Nat) : Nat → List (Int × Int × Bool) → List (List (Int × Int × Int)) × Unit → (List Int × List (List Int)) × Unit → Int → List Int → Int → Option (odens [(.ret, [(6, (.c false (.v true .bool)))]), ((.exit 2), [(1, (.c false (.v false (.rs 76 (.pair (.int .i64) (.pair (.int .i64) .bool)))))), (3, (.b 34 [(.v false (.rs 57 (.rs 72 (.pair (.int .i64) (.pair (.int .i64) (.int .i64))))))])), (5, (.b 36 [(.v false (.pair (.rs 3 (.int .i64)) (.rs 25 (.rs 3 (.int .i64)))))])), (7, (.c false (.v true (.int .i64))))])])
  | 0, _, _, _, _, _, _ => none
  | m + 1, x9, x10, x11, x12, x13, x14 =>
    cond (Decidable.decide (x14 < (↑x13.length : Int)))
    (if (0 : Int) ≤ x12 then
     if x12 < (↑(List.length x11.fst.snd) : Int) then
     if (0 : Int) ≤ x14 then
     if x14 < (↑x13.length : Int) then
     if x14.toNat < x13.length then
     (F58 n (List.getD x11.fst.snd x12.toNat []) (x13.getD x14.toNat (0 : Int))).bind fun y15 =>
     cond (!y15.fst)
     (some (Sum.inl (Bool.false, ())))
     (L35_2 n m (x9) ((x10.fst, ())) (((x11.fst.fst, x11.fst.snd), ())) (x12) (x13) (Go.IntKind.i64.wrap (x14 + (1 : Int))))
     else none
     else none
     else none
     else none
     else none)
    (some (Sum.inr (Sum.inl (x9, (x10.fst, ()), ((x11.fst.fst, x11.fst.snd), ()), x12, ()))))
def L35_0 (n : Nat) : Nat → List (Int × Int × Bool) → List (List (Int × Int × Int)) × Unit → (List Int × List (List Int)) × Unit → Int → Option (odens [(.ret, [(6, (.c false (.v true .bool)))]), ((.exit 0), [(1, (.c false (.v false (.rs 76 (.pair (.int .i64) (.pair (.int .i64) .bool)))))), (3, (.b 34 [(.v false (.rs 57 (.rs 72 (.pair (.int .i64) (.pair (.int .i64) (.int .i64))))))])), (5, (.b 36 [(.v false (.pair (.rs 3 (.int .i64)) (.rs 25 (.rs 3 (.int .i64)))))]))])])
  | 0, _, _, _, _ => none
  | m + 1, x4, x5, x6, x7 =>
    cond (Decidable.decide (x7 < (3 : Int)))
    ((F57 n (x5.fst) (x4) (x7)).bind fun y8 =>
     if (0 : Int) ≤ x7 then
     if x7 < (↑(List.length x6.fst.snd) : Int) then
     cond ((↑(List.length y8.fst) : Int) != (↑(List.length (List.getD x6.fst.snd x7.toNat [])) : Int))
     (some (Sum.inl (Bool.false, ())))
     (match L35_2 n n (x4) ((x5.fst, ())) (((x6.fst.fst, x6.fst.snd), ())) (x7) (y8.fst) ((0 : Int)) with
      | none => none
      | some (Sum.inl v16) =>
       some (Sum.inl (v16.fst, ()))
      | some (Sum.inr (Sum.inl v17)) =>
       L35_0 n m (v17.fst) ((v17.snd.fst.fst, ())) (((v17.snd.snd.fst.fst.fst, v17.snd.snd.fst.fst.snd), ())) (Go.IntKind.i64.wrap (v17.snd.snd.snd.fst + (1 : Int))))
     else none
     else none)
    (some (Sum.inr (Sum.inl (x4, (x5.fst, ()), ((x6.fst.fst, x6.fst.snd), ()), ()))))
def J35_16 (n : Nat) (x28 : List (Int × Int × Bool)) (x29 : List (List (Int × Int × Int)) × Unit) (x30 : (List Int × List (List Int)) × Unit) (x31 : Int) : Option (odens [(.normal, [(1, (.c false (.v false (.rs 76 (.pair (.int .i64) (.pair (.int .i64) .bool)))))), (3, (.b 34 [(.v false (.rs 57 (.rs 72 (.pair (.int .i64) (.pair (.int .i64) (.int .i64))))))])), (5, (.b 36 [(.v false (.pair (.rs 3 (.int .i64)) (.rs 25 (.rs 3 (.int .i64)))))])), (10, (.c false (.v true (.int .i64))))])]) :=
    some (Sum.inl (x28, (x29.fst, ()), ((x30.fst.fst, x30.fst.snd), ()), Go.IntKind.i64.wrap (x31 + (1 : Int)), ()))
def L35_4 (n : Nat) : Nat → List (Int × Int × Bool) → List (List (Int × Int × Int)) × Unit → (List Int × List (List Int)) × Unit → Int → Option (odens [(.ret, [(6, (.c false (.v true .bool)))]), ((.exit 4), [])])
  | 0, _, _, _, _ => none
  | m + 1, x20, x21, x22, x23 =>
    cond (Decidable.decide (x23 < (↑x20.length : Int)))
    (if (0 : Int) ≤ x23 then
     if x23 < (↑x20.length : Int) then
     (F59 n (x21.fst) (((x20.getD x23.toNat ((0 : Int), (0 : Int), Bool.false)).fst, (x20.getD x23.toNat ((0 : Int), (0 : Int), Bool.false)).snd.fst, (x20.getD x23.toNat ((0 : Int), (0 : Int), Bool.false)).snd.snd))).bind fun y24 =>
     (F37 n ((y24.fst.fst, y24.fst.snd.fst, y24.fst.snd.snd))).bind fun y25 =>
     cond (!y25.fst)
     (if (0 : Int) ≤ x23 then
      if x23 < (↑(List.length x22.fst.fst) : Int) then
      cond (List.getD x22.fst.fst x23.toNat (0 : Int) != (-2 : Int))
      (some (Sum.inl (Bool.false, ())))
      ((F37 n ((y24.fst.fst, y24.fst.snd.fst, y24.fst.snd.snd))).bind fun y26 =>
       cond (y26.fst)
       (if (0 : Int) ≤ x23 then
        if x23 < (↑(List.length x22.fst.fst) : Int) then
        cond (List.getD x22.fst.fst x23.toNat (0 : Int) != (-1 : Int))
        (if (0 : Int) ≤ y24.fst.snd.fst then
         if y24.fst.snd.fst < (↑(List.length x22.fst.snd) : Int) then
         if (0 : Int) ≤ x23 then
         if x23 < (↑(List.length x22.fst.fst) : Int) then
         (F58 n (List.getD x22.fst.snd (Int.toNat y24.fst.snd.fst) []) (List.getD x22.fst.fst x23.toNat (0 : Int))).bind fun y27 =>
         cond (!y27.fst)
         (some (Sum.inl (Bool.false, ())))
         (match J35_16 n (x20) ((x21.fst, ())) (((x22.fst.fst, x22.fst.snd), ())) (x23) with
          | none => none
          | some (Sum.inl v32) =>
           L35_4 n m (v32.fst) ((v32.snd.fst.fst, ())) (((v32.snd.snd.fst.fst.fst, v32.snd.snd.fst.fst.snd), ())) (v32.snd.snd.snd.fst))
         else none
         else none
         else none
         else none)
        (match J35_16 n (x20) ((x21.fst, ())) (((x22.fst.fst, x22.fst.snd), ())) (x23) with
         | none => none
         | some (Sum.inl v33) =>
          L35_4 n m (v33.fst) ((v33.snd.fst.fst, ())) (((v33.snd.snd.fst.fst.fst, v33.snd.snd.fst.fst.snd), ())) (v33.snd.snd.snd.fst))
        else none
        else none)
       (match J35_16 n (x20) ((x21.fst, ())) (((x22.fst.fst, x22.fst.snd), ())) (x23) with
        | none => none
        | some (Sum.inl v34) =>
         L35_4 n m (v34.fst) ((v34.snd.fst.fst, ())) (((v34.snd.snd.fst.fst.fst, v34.snd.snd.fst.fst.snd), ())) (v34.snd.snd.snd.fst)))
      else none
      else none)
     ((F37 n ((y24.fst.fst, y24.fst.snd.fst, y24.fst.snd.snd))).bind fun y35 =>
      cond (y35.fst)
      (if (0 : Int) ≤ x23 then
       if x23 < (↑(List.length x22.fst.fst) : Int) then
       cond (List.getD x22.fst.fst x23.toNat (0 : Int) != (-1 : Int))
       (if (0 : Int) ≤ y24.fst.snd.fst then
        if y24.fst.snd.fst < (↑(List.length x22.fst.snd) : Int) then
        if (0 : Int) ≤ x23 then
        if x23 < (↑(List.length x22.fst.fst) : Int) then
        (F58 n (List.getD x22.fst.snd (Int.toNat y24.fst.snd.fst) []) (List.getD x22.fst.fst x23.toNat (0 : Int))).bind fun y36 =>
        cond (!y36.fst)
        (some (Sum.inl (Bool.false, ())))
        (match J35_16 n (x20) ((x21.fst, ())) (((x22.fst.fst, x22.fst.snd), ())) (x23) with
         | none => none
         | some (Sum.inl v37) =>
          L35_4 n m (v37.fst) ((v37.snd.fst.fst, ())) (((v37.snd.snd.fst.fst.fst, v37.snd.snd.fst.fst.snd), ())) (v37.snd.snd.snd.fst))
        else none
        else none
        else none
        else none)
       (match J35_16 n (x20) ((x21.fst, ())) (((x22.fst.fst, x22.fst.snd), ())) (x23) with
        | none => none
        | some (Sum.inl v38) =>
         L35_4 n m (v38.fst) ((v38.snd.fst.fst, ())) (((v38.snd.snd.fst.fst.fst, v38.snd.snd.fst.fst.snd), ())) (v38.snd.snd.snd.fst))
       else none
       else none)
      (match J35_16 n (x20) ((x21.fst, ())) (((x22.fst.fst, x22.fst.snd), ())) (x23) with
       | none => none
       | some (Sum.inl v39) =>
        L35_4 n m (v39.fst) ((v39.snd.fst.fst, ())) (((v39.snd.snd.fst.fst.fst, v39.snd.snd.fst.fst.snd), ())) (v39.snd.snd.snd.fst)))
     else none
     else none)
    (some (Sum.inr (Sum.inl (()))))
def J35_3 (n : Nat) (x1 : List (Int × Int × Bool)) (x2 : List (List (Int × Int × Int)) × Unit) (x3 : (List Int × List (List Int)) × Unit) : Option (odens [(.ret, [(6, (.c false (.v true .bool)))])]) :=
    match L35_0 n n (x1) ((x2.fst, ())) (((x3.fst.fst, x3.fst.snd), ())) ((0 : Int)) with
    | none => none
    | some (Sum.inl v18) =>
     some (Sum.inl (v18.fst, ()))
    | some (Sum.inr (Sum.inl v19)) =>
     match L35_4 n n (v19.fst) ((v19.snd.fst.fst, ())) (((v19.snd.snd.fst.fst.fst, v19.snd.snd.fst.fst.snd), ())) ((0 : Int)) with
     | none => none
     | some (Sum.inl v40) =>
      some (Sum.inl (v40.fst, ()))
     | some (Sum.inr (Sum.inl v41)) =>
      some (Sum.inl (Bool.true, ()))
def F35 (n : Nat) (a0 : List (List (Int × Int × Int))) (a1 : List (Int × Int × Bool)) (a2 : List Int × List (List Int)) : Option (rdens [.c true (.v false (.rs 57 (.rs 72 (.pair (.int .i64) (.pair (.int .i64) (.int .i64)))))), .c false (.v false (.rs 76 (.pair (.int .i64) (.pair (.int .i64) .bool)))), .c true (.v false (.pair (.rs 3 (.int .i64)) (.rs 25 (.rs 3 (.int .i64)))))] [.c false (.v true .bool)]) :=
  cond ((↑(List.length a2.fst) : Int) != (↑a1.length : Int))
  (some (Bool.false, ()))
  (cond ((↑(List.length a2.snd) : Int) != (3 : Int))
   (some (Bool.false, ()))
   (match J35_3 n (a1) ((a0, ())) (((a2.fst, a2.snd), ())) with
    | none => none
    | some (Sum.inl v42) =>
     some (v42.fst, ())))
noncomputable def con35 (n : Nat) : Con := conOf [.c true (.v false (.rs 57 (.rs 72 (.pair (.int .i64) (.pair (.int .i64) (.int .i64)))))), .c false (.v false (.rs 76 (.pair (.int .i64) (.pair (.int .i64) .bool)))), .c true (.v false (.pair (.rs 3 (.int .i64)) (.rs 25 (.rs 3 (.int .i64)))))] [.c false (.v true .bool)] fun x => F35 n x.1 x.2.1 x.2.2.1
noncomputable def tb35 (n : Nat) : Tb := ⟨tiOf Tryz.prog, conL [(57, con57 n), (58, con58 n), (59, con59 n), (37, con37 n)], n, [], 108, lpL [(2, ⟨[(1, (.c false (.v false (.rs 76 (.pair (.int .i64) (.pair (.int .i64) .bool)))))), (3, (.b 34 [(.v false (.rs 57 (.rs 72 (.pair (.int .i64) (.pair (.int .i64) (.int .i64))))))])), (5, (.b 36 [(.v false (.pair (.rs 3 (.int .i64)) (.rs 25 (.rs 3 (.int .i64)))))])), (7, (.c false (.v true (.int .i64)))), (8, (.c false (.r 3 (.int .i64)))), (9, (.c false (.v true (.int .i64))))], [(.ret, [(6, (.c false (.v true .bool)))]), ((.exit 2), [(1, (.c false (.v false (.rs 76 (.pair (.int .i64) (.pair (.int .i64) .bool)))))), (3, (.b 34 [(.v false (.rs 57 (.rs 72 (.pair (.int .i64) (.pair (.int .i64) (.int .i64))))))])), (5, (.b 36 [(.v false (.pair (.rs 3 (.int .i64)) (.rs 25 (.rs 3 (.int .i64)))))])), (7, (.c false (.v true (.int .i64))))])], fun m v => L35_2 n m v.1 v.2.1 v.2.2.1 v.2.2.2.1 v.2.2.2.2.1 v.2.2.2.2.2.1⟩), (0, ⟨[(1, (.c false (.v false (.rs 76 (.pair (.int .i64) (.pair (.int .i64) .bool)))))), (3, (.b 34 [(.v false (.rs 57 (.rs 72 (.pair (.int .i64) (.pair (.int .i64) (.int .i64))))))])), (5, (.b 36 [(.v false (.pair (.rs 3 (.int .i64)) (.rs 25 (.rs 3 (.int .i64)))))])), (7, (.c false (.v true (.int .i64))))], [(.ret, [(6, (.c false (.v true .bool)))]), ((.exit 0), [(1, (.c false (.v false (.rs 76 (.pair (.int .i64) (.pair (.int .i64) .bool)))))), (3, (.b 34 [(.v false (.rs 57 (.rs 72 (.pair (.int .i64) (.pair (.int .i64) (.int .i64))))))])), (5, (.b 36 [(.v false (.pair (.rs 3 (.int .i64)) (.rs 25 (.rs 3 (.int .i64)))))]))])], fun m v => L35_0 n m v.1 v.2.1 v.2.2.1 v.2.2.2.1⟩), (4, ⟨[(1, (.c false (.v false (.rs 76 (.pair (.int .i64) (.pair (.int .i64) .bool)))))), (3, (.b 34 [(.v false (.rs 57 (.rs 72 (.pair (.int .i64) (.pair (.int .i64) (.int .i64))))))])), (5, (.b 36 [(.v false (.pair (.rs 3 (.int .i64)) (.rs 25 (.rs 3 (.int .i64)))))])), (10, (.c false (.v true (.int .i64))))], [(.ret, [(6, (.c false (.v true .bool)))]), ((.exit 4), [])], fun m v => L35_4 n m v.1 v.2.1 v.2.2.1 v.2.2.2.1⟩)], ctL [(16, ⟨[(1, (.c false (.v false (.rs 76 (.pair (.int .i64) (.pair (.int .i64) .bool)))))), (3, (.b 34 [(.v false (.rs 57 (.rs 72 (.pair (.int .i64) (.pair (.int .i64) (.int .i64))))))])), (5, (.b 36 [(.v false (.pair (.rs 3 (.int .i64)) (.rs 25 (.rs 3 (.int .i64)))))])), (10, (.c false (.v true (.int .i64))))], [(.normal, [(1, (.c false (.v false (.rs 76 (.pair (.int .i64) (.pair (.int .i64) .bool)))))), (3, (.b 34 [(.v false (.rs 57 (.rs 72 (.pair (.int .i64) (.pair (.int .i64) (.int .i64))))))])), (5, (.b 36 [(.v false (.pair (.rs 3 (.int .i64)) (.rs 25 (.rs 3 (.int .i64)))))])), (10, (.c false (.v true (.int .i64))))])], fun v => J35_16 n v.1 v.2.1 v.2.2.1 v.2.2.2.1⟩), (3, ⟨[(1, (.c false (.v false (.rs 76 (.pair (.int .i64) (.pair (.int .i64) .bool)))))), (3, (.b 34 [(.v false (.rs 57 (.rs 72 (.pair (.int .i64) (.pair (.int .i64) (.int .i64))))))])), (5, (.b 36 [(.v false (.pair (.rs 3 (.int .i64)) (.rs 25 (.rs 3 (.int .i64)))))]))], [(.ret, [(6, (.c false (.v true .bool)))])], fun v => J35_3 n v.1 v.2.1 v.2.2.1⟩)], [], true⟩
noncomputable def code35 : Code := Tryz.f35.body.getD .skip
theorem tb35_ok (n : Nat) : (tb35 n).ok Tryz.prog := tbOk mixed (⟨con57_ok n, ⟨con58_ok n, ⟨con59_ok n, ⟨con37_ok n, trivial⟩⟩⟩⟩)
theorem lp35_2 (n : Nat) : LpAt (tb35 n) (loopBody code35 2) 2 := lpAt rfl (fun _ => by kernel_rfl) (fun _ _ => by kernel_rfl)
theorem lp35_0 (n : Nat) : LpAt (tb35 n) (loopBody code35 0) 0 := lpAt rfl (fun _ => by kernel_rfl) (fun _ _ => by kernel_rfl)
theorem lp35_4 (n : Nat) : LpAt (tb35 n) (loopBody code35 4) 4 := lpAt rfl (fun _ => by kernel_rfl) (fun _ _ => by kernel_rfl)
theorem blocks35 : blocks code35 = [(0, .loop (loopBody code35 0)), (1, blockBody code35 1), (2, .loop (loopBody code35 2)), (3, blockBody code35 3), (4, .loop (loopBody code35 4)), (5, blockBody code35 5)] := by kernel_rfl
theorem ct35_3 (n : Nat) : CtOk (tb35 n) (sec code35 1).2 ⟨[(1, (.c false (.v false (.rs 76 (.pair (.int .i64) (.pair (.int .i64) .bool)))))), (3, (.b 34 [(.v false (.rs 57 (.rs 72 (.pair (.int .i64) (.pair (.int .i64) (.int .i64))))))])), (5, (.b 36 [(.v false (.pair (.rs 3 (.int .i64)) (.rs 25 (.rs 3 (.int .i64)))))]))], [(.ret, [(6, (.c false (.v true .bool)))])], fun v => J35_3 n v.1 v.2.1 v.2.2.1⟩ := fun _ => by kernel_rfl
theorem ct35_16 (n : Nat) : CtOk (tb35 n) (sec code35 23).2 ⟨[(1, (.c false (.v false (.rs 76 (.pair (.int .i64) (.pair (.int .i64) .bool)))))), (3, (.b 34 [(.v false (.rs 57 (.rs 72 (.pair (.int .i64) (.pair (.int .i64) (.int .i64))))))])), (5, (.b 36 [(.v false (.pair (.rs 3 (.int .i64)) (.rs 25 (.rs 3 (.int .i64)))))])), (10, (.c false (.v true (.int .i64))))], [(.normal, [(1, (.c false (.v false (.rs 76 (.pair (.int .i64) (.pair (.int .i64) .bool)))))), (3, (.b 34 [(.v false (.rs 57 (.rs 72 (.pair (.int .i64) (.pair (.int .i64) (.int .i64))))))])), (5, (.b 36 [(.v false (.pair (.rs 3 (.int .i64)) (.rs 25 (.rs 3 (.int .i64)))))])), (10, (.c false (.v true (.int .i64))))])], fun v => J35_16 n v.1 v.2.1 v.2.2.1 v.2.2.2.1⟩ := fun _ => by kernel_rfl
theorem secs35 : seconds code35 = [(some 1, (sec code35 0).2), (some 3, (sec code35 1).2), (none, (sec code35 2).2), (none, (sec code35 3).2), (some 14, (sec code35 4).2), (some 4, (sec code35 5).2), (some 6, (sec code35 6).2), (none, (sec code35 7).2), (some 5, (sec code35 8).2), (some 7, (sec code35 9).2), (some 9, (sec code35 10).2), (none, (sec code35 11).2), (none, (sec code35 12).2), (some 10, (sec code35 13).2), (some 12, (sec code35 14).2), (none, (sec code35 15).2), (some 11, (sec code35 16).2), (none, (sec code35 17).2), (none, (sec code35 18).2), (some 20, (sec code35 19).2), (some 15, (sec code35 20).2), (some 17, (sec code35 21).2), (none, (sec code35 22).2), (some 16, (sec code35 23).2), (some 18, (sec code35 24).2), (none, (sec code35 25).2), (none, (sec code35 26).2), (none, (sec code35 27).2)] := by kernel_rfl
theorem la35 (n : Nat) : LpAll (tb35 n) code35 := lpAll blocks35 (bl_loop (lp35_0 n) (bl_none rfl (bl_loop (lp35_2 n) (bl_none rfl (bl_loop (lp35_4 n) (bl_none rfl (bl_nil))))))) secs35 (cs_none rfl (cs_one rfl (ct35_3 n) (cs_none rfl (cs_none rfl (cs_none rfl (cs_none rfl (cs_none rfl (cs_none rfl (cs_none rfl (cs_none rfl (cs_none rfl (cs_none rfl (cs_none rfl (cs_none rfl (cs_none rfl (cs_none rfl (cs_none rfl (cs_none rfl (cs_none rfl (cs_none rfl (cs_none rfl (cs_none rfl (cs_none rfl (cs_one rfl (ct35_16 n) (cs_none rfl (cs_none rfl (cs_none rfl (cs_none rfl (cs_nil))))))))))))))))))))))))))))) (by kernel_rfl)
theorem ev35 (n : Nat) (x : pdens [.c true (.v false (.rs 57 (.rs 72 (.pair (.int .i64) (.pair (.int .i64) (.int .i64)))))), .c false (.v false (.rs 76 (.pair (.int .i64) (.pair (.int .i64) .bool)))), .c true (.v false (.pair (.rs 3 (.int .i64)) (.rs 25 (.rs 3 (.int .i64)))))]) : evSig (tb35 n) Tryz.f35 [.c true (.v false (.rs 57 (.rs 72 (.pair (.int .i64) (.pair (.int .i64) (.int .i64)))))), .c false (.v false (.rs 76 (.pair (.int .i64) (.pair (.int .i64) .bool)))), .c true (.v false (.pair (.rs 3 (.int .i64)) (.rs 25 (.rs 3 (.int .i64)))))] [.c false (.v true .bool)] x = F35 n x.1 x.2.1 x.2.2.1 := by kernel_rfl
theorem con35_ok (n : Nat) : Con.ok Tryz.prog 35 (con35 n) := conOf_ok (tb35_ok n) (body_la (by kernel_rfl : Tryz.f35.body = some code35) (la35 n)) Tryz.func35 (enters Tryz.func35 (by kernel_rfl) (by kernel_rfl)) rfl rfl (ev35 n)
/-! ### loop.example/fathomline/spec.l12Source -/
def J63_3 (n : Nat) (x7 : List (Int × Int × Bool)) (x8 : Int) (x9 : List (List (Int × Int × Int)) × Unit) (x10 : Int) : Option (odens [(.normal, [(1, (.c false (.v false (.rs 76 (.pair (.int .i64) (.pair (.int .i64) .bool)))))), (2, (.c false (.v true (.int .i64)))), (3, (.b 34 [(.v false (.rs 57 (.rs 72 (.pair (.int .i64) (.pair (.int .i64) (.int .i64))))))])), (7, (.c false (.v true (.int .i64))))])]) :=
    some (Sum.inl (x7, x8, (x9.fst, ()), Go.IntKind.i64.wrap (x10 - (1 : Int)), ()))
def L63_0 (n : Nat) : Nat → List (Int × Int × Bool) → Int → List (List (Int × Int × Int)) × Unit → Int → Option (odens [(.ret, [(6, (.c false (.v true (.int .i64))))]), ((.exit 0), [])])
  | 0, _, _, _, _ => none
  | m + 1, x1, x2, x3, x4 =>
    cond (Decidable.decide (x4 ≥ (0 : Int)))
    (if (0 : Int) ≤ x4 then
     if x4 < (↑x1.length : Int) then
     if (0 : Int) ≤ x2 then
     if x2 < (↑x1.length : Int) then
     cond ((x1.getD x4.toNat ((0 : Int), (0 : Int), Bool.false)).fst == (x1.getD x2.toNat ((0 : Int), (0 : Int), Bool.false)).fst)
     (if (0 : Int) ≤ x4 then
      if x4 < (↑x1.length : Int) then
      (F59 n (x3.fst) (((x1.getD x4.toNat ((0 : Int), (0 : Int), Bool.false)).fst, (x1.getD x4.toNat ((0 : Int), (0 : Int), Bool.false)).snd.fst, (x1.getD x4.toNat ((0 : Int), (0 : Int), Bool.false)).snd.snd))).bind fun y5 =>
      (F37 n ((y5.fst.fst, y5.fst.snd.fst, y5.fst.snd.snd))).bind fun y6 =>
      cond (y6.fst)
      (some (Sum.inl (x4, ())))
      (match J63_3 n (x1) (x2) ((x3.fst, ())) (x4) with
       | none => none
       | some (Sum.inl v11) =>
        L63_0 n m (v11.fst) (v11.snd.fst) ((v11.snd.snd.fst.fst, ())) (v11.snd.snd.snd.fst))
      else none
      else none)
     (match J63_3 n (x1) (x2) ((x3.fst, ())) (x4) with
      | none => none
      | some (Sum.inl v12) =>
       L63_0 n m (v12.fst) (v12.snd.fst) ((v12.snd.snd.fst.fst, ())) (v12.snd.snd.snd.fst))
     else none
     else none
     else none
     else none)
    (some (Sum.inr (Sum.inl (()))))
def F63 (n : Nat) (a0 : List (List (Int × Int × Int))) (a1 : List (Int × Int × Bool)) (a2 : Int) : Option (rdens [.c true (.v false (.rs 57 (.rs 72 (.pair (.int .i64) (.pair (.int .i64) (.int .i64)))))), .c false (.v false (.rs 76 (.pair (.int .i64) (.pair (.int .i64) .bool)))), .c false (.v true (.int .i64))] [.c false (.v true (.int .i64))]) :=
  match L63_0 n n (a1) (a2) ((a0, ())) (Go.IntKind.i64.wrap (a2 - (1 : Int))) with
  | none => none
  | some (Sum.inl v13) =>
   some (v13.fst, ())
  | some (Sum.inr (Sum.inl v14)) =>
   some ((-1 : Int), ())
noncomputable def con63 (n : Nat) : Con := conOf [.c true (.v false (.rs 57 (.rs 72 (.pair (.int .i64) (.pair (.int .i64) (.int .i64)))))), .c false (.v false (.rs 76 (.pair (.int .i64) (.pair (.int .i64) .bool)))), .c false (.v true (.int .i64))] [.c false (.v true (.int .i64))] fun x => F63 n x.1 x.2.1 x.2.2.1
noncomputable def tb63 (n : Nat) : Tb := ⟨tiOf Tryz.prog, conL [(59, con59 n), (37, con37 n)], n, [], 35, lpL [(0, ⟨[(1, (.c false (.v false (.rs 76 (.pair (.int .i64) (.pair (.int .i64) .bool)))))), (2, (.c false (.v true (.int .i64)))), (3, (.b 34 [(.v false (.rs 57 (.rs 72 (.pair (.int .i64) (.pair (.int .i64) (.int .i64))))))])), (7, (.c false (.v true (.int .i64))))], [(.ret, [(6, (.c false (.v true (.int .i64))))]), ((.exit 0), [])], fun m v => L63_0 n m v.1 v.2.1 v.2.2.1 v.2.2.2.1⟩)], ctL [(3, ⟨[(1, (.c false (.v false (.rs 76 (.pair (.int .i64) (.pair (.int .i64) .bool)))))), (2, (.c false (.v true (.int .i64)))), (3, (.b 34 [(.v false (.rs 57 (.rs 72 (.pair (.int .i64) (.pair (.int .i64) (.int .i64))))))])), (7, (.c false (.v true (.int .i64))))], [(.normal, [(1, (.c false (.v false (.rs 76 (.pair (.int .i64) (.pair (.int .i64) .bool)))))), (2, (.c false (.v true (.int .i64)))), (3, (.b 34 [(.v false (.rs 57 (.rs 72 (.pair (.int .i64) (.pair (.int .i64) (.int .i64))))))])), (7, (.c false (.v true (.int .i64))))])], fun v => J63_3 n v.1 v.2.1 v.2.2.1 v.2.2.2.1⟩)], [], true⟩
noncomputable def code63 : Code := Tryz.f63.body.getD .skip
theorem tb63_ok (n : Nat) : (tb63 n).ok Tryz.prog := tbOk mixed (⟨con59_ok n, ⟨con37_ok n, trivial⟩⟩)
theorem lp63_0 (n : Nat) : LpAt (tb63 n) (loopBody code63 0) 0 := lpAt rfl (fun _ => by kernel_rfl) (fun _ _ => by kernel_rfl)
theorem blocks63 : blocks code63 = [(0, .loop (loopBody code63 0)), (1, blockBody code63 1)] := by kernel_rfl
theorem ct63_3 (n : Nat) : CtOk (tb63 n) (sec code63 5).2 ⟨[(1, (.c false (.v false (.rs 76 (.pair (.int .i64) (.pair (.int .i64) .bool)))))), (2, (.c false (.v true (.int .i64)))), (3, (.b 34 [(.v false (.rs 57 (.rs 72 (.pair (.int .i64) (.pair (.int .i64) (.int .i64))))))])), (7, (.c false (.v true (.int .i64))))], [(.normal, [(1, (.c false (.v false (.rs 76 (.pair (.int .i64) (.pair (.int .i64) .bool)))))), (2, (.c false (.v true (.int .i64)))), (3, (.b 34 [(.v false (.rs 57 (.rs 72 (.pair (.int .i64) (.pair (.int .i64) (.int .i64))))))])), (7, (.c false (.v true (.int .i64))))])], fun v => J63_3 n v.1 v.2.1 v.2.2.1 v.2.2.2.1⟩ := fun _ => by kernel_rfl
theorem secs63 : seconds code63 = [(some 1, (sec code63 0).2), (some 6, (sec code63 1).2), (some 2, (sec code63 2).2), (some 4, (sec code63 3).2), (none, (sec code63 4).2), (some 3, (sec code63 5).2), (none, (sec code63 6).2), (none, (sec code63 7).2), (none, (sec code63 8).2)] := by kernel_rfl
theorem la63 (n : Nat) : LpAll (tb63 n) code63 := lpAll blocks63 (bl_loop (lp63_0 n) (bl_none rfl (bl_nil))) secs63 (cs_none rfl (cs_none rfl (cs_none rfl (cs_none rfl (cs_none rfl (cs_one rfl (ct63_3 n) (cs_none rfl (cs_none rfl (cs_none rfl (cs_nil)))))))))) (by kernel_rfl)
theorem ev63 (n : Nat) (x : pdens [.c true (.v false (.rs 57 (.rs 72 (.pair (.int .i64) (.pair (.int .i64) (.int .i64)))))), .c false (.v false (.rs 76 (.pair (.int .i64) (.pair (.int .i64) .bool)))), .c false (.v true (.int .i64))]) : evSig (tb63 n) Tryz.f63 [.c true (.v false (.rs 57 (.rs 72 (.pair (.int .i64) (.pair (.int .i64) (.int .i64)))))), .c false (.v false (.rs 76 (.pair (.int .i64) (.pair (.int .i64) .bool)))), .c false (.v true (.int .i64))] [.c false (.v true (.int .i64))] x = F63 n x.1 x.2.1 x.2.2.1 := by kernel_rfl
theorem con63_ok (n : Nat) : Con.ok Tryz.prog 63 (con63 n) := conOf_ok (tb63_ok n) (body_la (by kernel_rfl : Tryz.f63.body = some code63) (la63 n)) Tryz.func63 (enters Tryz.func63 (by kernel_rfl) (by kernel_rfl)) rfl rfl (ev63 n)
/-! ### loop.example/fathomline/spec.l12Val -/
def G60 (R : List (List (Int × Int × Int)) → List (Int × Int × Bool) → List Int × List (List Int) → Int → Int → Option (rdens [.c true (.v false (.rs 57 (.rs 72 (.pair (.int .i64) (.pair (.int .i64) (.int .i64)))))), .c false (.v false (.rs 76 (.pair (.int .i64) (.pair (.int .i64) .bool)))), .c true (.v false (.pair (.rs 3 (.int .i64)) (.rs 25 (.rs 3 (.int .i64))))), .c false (.v true (.int .i64)), .c false (.v true (.int .i64))] [.c false (.v true (.int .i64))])) (n : Nat) (a0 : List (List (Int × Int × Int))) (a1 : List (Int × Int × Bool)) (a2 : List Int × List (List Int)) (a3 : Int) (a4 : Int) : Option (rdens [.c true (.v false (.rs 57 (.rs 72 (.pair (.int .i64) (.pair (.int .i64) (.int .i64)))))), .c false (.v false (.rs 76 (.pair (.int .i64) (.pair (.int .i64) .bool)))), .c true (.v false (.pair (.rs 3 (.int .i64)) (.rs 25 (.rs 3 (.int .i64))))), .c false (.v true (.int .i64)), .c false (.v true (.int .i64))] [.c false (.v true (.int .i64))]) :=
  cond (Decidable.decide (a3 < (0 : Int)))
  (some ((0 : Int), ()))
  (cond (Decidable.decide (a4 < (1 : Int)))
   (some ((-1 : Int), ()))
   (if (0 : Int) ≤ a3 then
    if a3 < (↑a1.length : Int) then
    (F59 n (a0) (((a1.getD a3.toNat ((0 : Int), (0 : Int), Bool.false)).fst, (a1.getD a3.toNat ((0 : Int), (0 : Int), Bool.false)).snd.fst, (a1.getD a3.toNat ((0 : Int), (0 : Int), Bool.false)).snd.snd))).bind fun y1 =>
    (F37 n ((y1.fst.fst, y1.fst.snd.fst, y1.fst.snd.snd))).bind fun y2 =>
    cond (y2.fst)
    (if (0 : Int) ≤ a3 then
     if a3 < (↑(List.length a2.fst) : Int) then
     (R (a0) (a1) ((a2.fst, a2.snd)) (List.getD a2.fst a3.toNat (0 : Int)) (Go.IntKind.i64.wrap (a4 - (1 : Int)))).bind fun y3 =>
     some (y3.fst, ())
     else none
     else none)
    (cond (y1.fst.fst == (3 : Int))
     ((F63 n (a0) (a1) (a3)).bind fun y4 =>
      (R (a0) (a1) ((a2.fst, a2.snd)) (y4.fst) (Go.IntKind.i64.wrap (a4 - (1 : Int)))).bind fun y5 =>
      some (y5.fst, ()))
     (some (y1.fst.snd.snd, ())))
    else none
    else none))
def F60 : Nat → List (List (Int × Int × Int)) → List (Int × Int × Bool) → List Int × List (List Int) → Int → Int → Option (rdens [.c true (.v false (.rs 57 (.rs 72 (.pair (.int .i64) (.pair (.int .i64) (.int .i64)))))), .c false (.v false (.rs 76 (.pair (.int .i64) (.pair (.int .i64) .bool)))), .c true (.v false (.pair (.rs 3 (.int .i64)) (.rs 25 (.rs 3 (.int .i64))))), .c false (.v true (.int .i64)), .c false (.v true (.int .i64))] [.c false (.v true (.int .i64))])
  | 0, _, _, _, _, _ => none
  | n + 1, a0, a1, a2, a3, a4 => G60 (F60 n) n a0 a1 a2 a3 a4
noncomputable def con60 (n : Nat) : Con := conOf [.c true (.v false (.rs 57 (.rs 72 (.pair (.int .i64) (.pair (.int .i64) (.int .i64)))))), .c false (.v false (.rs 76 (.pair (.int .i64) (.pair (.int .i64) .bool)))), .c true (.v false (.pair (.rs 3 (.int .i64)) (.rs 25 (.rs 3 (.int .i64))))), .c false (.v true (.int .i64)), .c false (.v true (.int .i64))] [.c false (.v true (.int .i64))] fun x => F60 n x.1 x.2.1 x.2.2.1 x.2.2.2.1 x.2.2.2.2.1
noncomputable def tb60 (n : Nat) : Tb := ⟨tiOf Tryz.prog, conL [(59, con59 n), (37, con37 n), (60, con60 n), (63, con63 n)], n, [], 52, lpL [], ctL [], [], true⟩
noncomputable def code60 : Code := Tryz.f60.body.getD .skip
theorem tb60_ok (n : Nat) (h : Con.ok Tryz.prog 60 (con60 n)) : (tb60 n).ok Tryz.prog := tbOk mixed (⟨con59_ok n, ⟨con37_ok n, ⟨h, ⟨con63_ok n, trivial⟩⟩⟩⟩)
theorem blocks60 : blocks code60 = [(0, blockBody code60 0)] := by kernel_rfl
theorem la60 (n : Nat) : LpAll (tb60 n) code60 := lpAll blocks60 (bl_none rfl (bl_nil)) rfl (cs_no fun _ => rfl) (by kernel_rfl)
theorem ev60 (n : Nat) (x : pdens [.c true (.v false (.rs 57 (.rs 72 (.pair (.int .i64) (.pair (.int .i64) (.int .i64)))))), .c false (.v false (.rs 76 (.pair (.int .i64) (.pair (.int .i64) .bool)))), .c true (.v false (.pair (.rs 3 (.int .i64)) (.rs 25 (.rs 3 (.int .i64))))), .c false (.v true (.int .i64)), .c false (.v true (.int .i64))]) : evSig (tb60 n) Tryz.f60 [.c true (.v false (.rs 57 (.rs 72 (.pair (.int .i64) (.pair (.int .i64) (.int .i64)))))), .c false (.v false (.rs 76 (.pair (.int .i64) (.pair (.int .i64) .bool)))), .c true (.v false (.pair (.rs 3 (.int .i64)) (.rs 25 (.rs 3 (.int .i64))))), .c false (.v true (.int .i64)), .c false (.v true (.int .i64))] [.c false (.v true (.int .i64))] x = F60 (n + 1) x.1 x.2.1 x.2.2.1 x.2.2.2.1 x.2.2.2.2.1 := by kernel_rfl
theorem con60_ok : ∀ n : Nat, Con.ok Tryz.prog 60 (con60 n)
  | 0 => con_none (enters Tryz.func60 (by kernel_rfl) (by kernel_rfl)) fun _ => rfl
  | n + 1 => conOf_ok (tb60_ok n (con60_ok n)) (body_la (by kernel_rfl : Tryz.f60.body = some code60) (la60 n)) Tryz.func60 (enters Tryz.func60 (by kernel_rfl) (by kernel_rfl)) rfl rfl (ev60 n)
/-! ### loop.example/fathomline/spec.l12Ends -/
def L36_0 (n : Nat) : Nat → List (Int × Int × Bool) → List (List (Int × Int × Int)) × Unit → (List Int × List (List Int)) × Unit → Int → Option (odens [(.ret, [(6, (.c false (.v true .bool)))]), ((.exit 0), [])])
  | 0, _, _, _, _ => none
  | m + 1, x1, x2, x3, x4 =>
    cond (Decidable.decide (x4 < (↑x1.length : Int)))
    ((F60 n (x2.fst) (x1) ((x3.fst.fst, x3.fst.snd)) (x4) (Go.IntKind.i64.wrap (Go.IntKind.i64.wrap ((2 : Int) * (↑x1.length : Int)) + (2 : Int)))).bind fun y5 =>
     cond (Decidable.decide (y5.fst < (0 : Int)))
     (some (Sum.inl (Bool.false, ())))
     (L36_0 n m (x1) ((x2.fst, ())) (((x3.fst.fst, x3.fst.snd), ())) (Go.IntKind.i64.wrap (x4 + (1 : Int)))))
    (some (Sum.inr (Sum.inl (()))))
def F36 (n : Nat) (a0 : List (List (Int × Int × Int))) (a1 : List (Int × Int × Bool)) (a2 : List Int × List (List Int)) : Option (rdens [.c true (.v false (.rs 57 (.rs 72 (.pair (.int .i64) (.pair (.int .i64) (.int .i64)))))), .c false (.v false (.rs 76 (.pair (.int .i64) (.pair (.int .i64) .bool)))), .c true (.v false (.pair (.rs 3 (.int .i64)) (.rs 25 (.rs 3 (.int .i64)))))] [.c false (.v true .bool)]) :=
  match L36_0 n n (a1) ((a0, ())) (((a2.fst, a2.snd), ())) ((0 : Int)) with
  | none => none
  | some (Sum.inl v6) =>
   some (v6.fst, ())
  | some (Sum.inr (Sum.inl v7)) =>
   some (Bool.true, ())
noncomputable def con36 (n : Nat) : Con := conOf [.c true (.v false (.rs 57 (.rs 72 (.pair (.int .i64) (.pair (.int .i64) (.int .i64)))))), .c false (.v false (.rs 76 (.pair (.int .i64) (.pair (.int .i64) .bool)))), .c true (.v false (.pair (.rs 3 (.int .i64)) (.rs 25 (.rs 3 (.int .i64)))))] [.c false (.v true .bool)] fun x => F36 n x.1 x.2.1 x.2.2.1
noncomputable def tb36 (n : Nat) : Tb := ⟨tiOf Tryz.prog, conL [(60, con60 n)], n, [], 24, lpL [(0, ⟨[(1, (.c false (.v false (.rs 76 (.pair (.int .i64) (.pair (.int .i64) .bool)))))), (3, (.b 34 [(.v false (.rs 57 (.rs 72 (.pair (.int .i64) (.pair (.int .i64) (.int .i64))))))])), (5, (.b 36 [(.v false (.pair (.rs 3 (.int .i64)) (.rs 25 (.rs 3 (.int .i64)))))])), (7, (.c false (.v true (.int .i64))))], [(.ret, [(6, (.c false (.v true .bool)))]), ((.exit 0), [])], fun m v => L36_0 n m v.1 v.2.1 v.2.2.1 v.2.2.2.1⟩)], ctL [], [], true⟩
noncomputable def code36 : Code := Tryz.f36.body.getD .skip
theorem tb36_ok (n : Nat) : (tb36 n).ok Tryz.prog := tbOk mixed (⟨con60_ok n, trivial⟩)
theorem lp36_0 (n : Nat) : LpAt (tb36 n) (loopBody code36 0) 0 := lpAt rfl (fun _ => by kernel_rfl) (fun _ _ => by kernel_rfl)
theorem blocks36 : blocks code36 = [(0, .loop (loopBody code36 0)), (1, blockBody code36 1)] := by kernel_rfl
theorem la36 (n : Nat) : LpAll (tb36 n) code36 := lpAll blocks36 (bl_loop (lp36_0 n) (bl_none rfl (bl_nil))) rfl (cs_no fun _ => rfl) (by kernel_rfl)
theorem ev36 (n : Nat) (x : pdens [.c true (.v false (.rs 57 (.rs 72 (.pair (.int .i64) (.pair (.int .i64) (.int .i64)))))), .c false (.v false (.rs 76 (.pair (.int .i64) (.pair (.int .i64) .bool)))), .c true (.v false (.pair (.rs 3 (.int .i64)) (.rs 25 (.rs 3 (.int .i64)))))]) : evSig (tb36 n) Tryz.f36 [.c true (.v false (.rs 57 (.rs 72 (.pair (.int .i64) (.pair (.int .i64) (.int .i64)))))), .c false (.v false (.rs 76 (.pair (.int .i64) (.pair (.int .i64) .bool)))), .c true (.v false (.pair (.rs 3 (.int .i64)) (.rs 25 (.rs 3 (.int .i64)))))] [.c false (.v true .bool)] x = F36 n x.1 x.2.1 x.2.2.1 := by kernel_rfl
theorem con36_ok (n : Nat) : Con.ok Tryz.prog 36 (con36 n) := conOf_ok (tb36_ok n) (body_la (by kernel_rfl : Tryz.f36.body = some code36) (la36 n)) Tryz.func36 (enters Tryz.func36 (by kernel_rfl) (by kernel_rfl)) rfl rfl (ev36 n)
/-! ### loop.example/fathomline/spec.ExecOk -/
def F15 (n : Nat) (a0 : List (List (Int × Int × Int))) (a1 : List Int × List (List Int)) : Option (rdens [.c true (.v false (.rs 57 (.rs 72 (.pair (.int .i64) (.pair (.int .i64) (.int .i64)))))), .c true (.v false (.pair (.rs 3 (.int .i64)) (.rs 25 (.rs 3 (.int .i64)))))] [.c false (.v true .bool)]) :=
  (F33 n (a0)).bind fun y1 =>
  cond (!y1.fst)
  (some (Bool.false, ()))
  ((F34 n (a0)).bind fun y2 =>
   (F35 n (a0) (y2.fst) ((a1.fst, a1.snd))).bind fun y3 =>
   cond (!y3.fst)
   (some (Bool.false, ()))
   ((F36 n (a0) (y2.fst) ((a1.fst, a1.snd))).bind fun y4 =>
    some (y4.fst, ())))
noncomputable def con15 (n : Nat) : Con := conOf [.c true (.v false (.rs 57 (.rs 72 (.pair (.int .i64) (.pair (.int .i64) (.int .i64)))))), .c true (.v false (.pair (.rs 3 (.int .i64)) (.rs 25 (.rs 3 (.int .i64)))))] [.c false (.v true .bool)] fun x => F15 n x.1 x.2.1
noncomputable def tb15 (n : Nat) : Tb := ⟨tiOf Tryz.prog, conL [(33, con33 n), (34, con34 n), (35, con35 n), (36, con36 n)], n, [], 20, lpL [], ctL [], [], true⟩
noncomputable def code15 : Code := Tryz.f15.body.getD .skip
theorem tb15_ok (n : Nat) : (tb15 n).ok Tryz.prog := tbOk mixed (⟨con33_ok n, ⟨con34_ok n, ⟨con35_ok n, ⟨con36_ok n, trivial⟩⟩⟩⟩)
theorem blocks15 : blocks code15 = [] := by kernel_rfl
theorem la15 (n : Nat) : LpAll (tb15 n) code15 := lpAll blocks15 (bl_nil) rfl (cs_no fun _ => rfl) (by kernel_rfl)
theorem ev15 (n : Nat) (x : pdens [.c true (.v false (.rs 57 (.rs 72 (.pair (.int .i64) (.pair (.int .i64) (.int .i64)))))), .c true (.v false (.pair (.rs 3 (.int .i64)) (.rs 25 (.rs 3 (.int .i64)))))]) : evSig (tb15 n) Tryz.f15 [.c true (.v false (.rs 57 (.rs 72 (.pair (.int .i64) (.pair (.int .i64) (.int .i64)))))), .c true (.v false (.pair (.rs 3 (.int .i64)) (.rs 25 (.rs 3 (.int .i64)))))] [.c false (.v true .bool)] x = F15 n x.1 x.2.1 := by kernel_rfl
theorem con15_ok (n : Nat) : Con.ok Tryz.prog 15 (con15 n) := conOf_ok (tb15_ok n) (body_la (by kernel_rfl : Tryz.f15.body = some code15) (la15 n)) Tryz.func15 (enters Tryz.func15 (by kernel_rfl) (by kernel_rfl)) rfl rfl (ev15 n)
end Go.Proofs.YtdacfaincamliaaGreat.Ev
