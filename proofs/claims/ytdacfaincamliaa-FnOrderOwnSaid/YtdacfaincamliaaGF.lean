/- Plain functions that the loaded code comes to, and that it does. Conditions: none. -/
import Derived.Test.YtdacfaincamliaaGE
namespace Go.Proofs.Ytdacfaincamliaa.Ev
open Go Go.Proofs
/-! ### loop.example/fathomline/spec.l12Do -/
def F107 (n : Nat) (a0 : List (List (Int × Int × Int))) (a1 : Int × Int × Bool) : Option (rdens [.c true (.v false yP), .c true (.v true yE)] [.c true (.v true yD)]) :=
  if (0 : Int) ≤ a1.fst then
  if a1.fst < (↑a0.length : Int) then
  if (0 : Int) ≤ a1.snd.fst then
  if a1.snd.fst < (↑(List.length (a0.getD (Int.toNat a1.fst) [])) : Int) then
  some (((List.getD (a0.getD (Int.toNat a1.fst) []) (Int.toNat a1.snd.fst) ((0 : Int), (0 : Int), (0 : Int))).fst, (List.getD (a0.getD (Int.toNat a1.fst) []) (Int.toNat a1.snd.fst) ((0 : Int), (0 : Int), (0 : Int))).snd.fst, (List.getD (a0.getD (Int.toNat a1.fst) []) (Int.toNat a1.snd.fst) ((0 : Int), (0 : Int), (0 : Int))).snd.snd), ())
  else none
  else none
  else none
  else none
noncomputable def con107 (n : Nat) : Con := conOf [.c true (.v false yP), .c true (.v true yE)] [.c true (.v true yD)] fun x => F107 n x.1 x.2.1
noncomputable def tb107 (n : Nat) : Tb := ⟨tiOf Try.prog, conL [], n, [], 15, lpL [], ctL [], [], true⟩
noncomputable def code107 : Code := Try.f107.body.getD .skip
theorem tb107_ok (n : Nat) : (tb107 n).ok Try.prog := tbOk mixed (trivial)
theorem blocks107 : blocks code107 = [] := by kernel_rfl
theorem la107 (n : Nat) : LpAll (tb107 n) code107 := lpAll blocks107 (bl_nil) rfl (cs_no fun _ => rfl) (by kernel_rfl)
theorem ev107 (n : Nat) (x : pdens [.c true (.v false yP), .c true (.v true yE)]) : evSig (tb107 n) Try.f107 [.c true (.v false yP), .c true (.v true yE)] [.c true (.v true yD)] x = F107 n x.1 x.2.1 := by kernel_rfl
theorem con107_ok (n : Nat) : Con.ok Try.prog 107 (con107 n) := conOf_ok (tb107_ok n) (body_la (by kernel_rfl : Try.f107.body = some code107) (la107 n)) Try.func107 (enters Try.func107 (by kernel_rfl) (by kernel_rfl)) rfl rfl (ev107 n)
/-! ### loop.example/fathomline/spec.l12Writes -/
def J105_4 (n : Nat) (x8 : List (Int × Int × Bool)) (x9 : Int) (x10 : List (List (Int × Int × Int)) × Unit) (x11 : List Int) (x12 : Int) : Option (odens [(.normal, [(1, (.c false (.v false (.rs 67 yE)))), (2, kI), (3, (.b 33 [(.v false yP)])), (7, (.c false (.r 3 (.int .i64)))), (8, kI)])]) :=
    some (Sum.inl (x8, x9, (x10.fst, ()), x11, Go.IntKind.i64.wrap (x12 + (1 : Int)), ()))
def L105_0 (n : Nat) : Nat → List (Int × Int × Bool) → Int → List (List (Int × Int × Int)) × Unit → List Int → Int → Option (odens [((.exit 0), [(7, (.c false (.r 3 (.int .i64))))])])
  | 0, _, _, _, _, _ => none
  | m + 1, x1, x2, x3, x4, x5 =>
    cond (Decidable.decide (x5 < (↑x1.length : Int)))
    (if (0 : Int) ≤ x5 then
     if x5 < (↑x1.length : Int) then
     (F107 n (x3.fst) (((x1.getD x5.toNat ((0 : Int), (0 : Int), Bool.false)).fst, (x1.getD x5.toNat ((0 : Int), (0 : Int), Bool.false)).snd.fst, (x1.getD x5.toNat ((0 : Int), (0 : Int), Bool.false)).snd.snd))).bind fun y6 =>
     (F80 n ((y6.fst.fst, y6.fst.snd.fst, y6.fst.snd.snd))).bind fun y7 =>
     cond (y7.fst)
     (cond (y6.fst.snd.fst == x2)
      (if (x4.length + [x5].length) * (8 : Nat) ≤ (140737488355328 : Nat) then
       match J105_4 n (x1) (x2) ((x3.fst, ())) (x4 ++ [x5]) (x5) with
       | none => none
       | some (Sum.inl v13) =>
        L105_0 n m (v13.fst) (v13.snd.fst) ((v13.snd.snd.fst.fst, ())) (v13.snd.snd.snd.fst) (v13.snd.snd.snd.snd.fst)
       else none)
      (match J105_4 n (x1) (x2) ((x3.fst, ())) (x4) (x5) with
       | none => none
       | some (Sum.inl v14) =>
        L105_0 n m (v14.fst) (v14.snd.fst) ((v14.snd.snd.fst.fst, ())) (v14.snd.snd.snd.fst) (v14.snd.snd.snd.snd.fst)))
     (match J105_4 n (x1) (x2) ((x3.fst, ())) (x4) (x5) with
      | none => none
      | some (Sum.inl v15) =>
       L105_0 n m (v15.fst) (v15.snd.fst) ((v15.snd.snd.fst.fst, ())) (v15.snd.snd.snd.fst) (v15.snd.snd.snd.snd.fst))
     else none
     else none)
    (some (Sum.inl (x4, ())))
def F105 (n : Nat) (a0 : List (List (Int × Int × Int))) (a1 : List (Int × Int × Bool)) (a2 : Int) : Option (rdens [.c true (.v false yP), .c false (.v false (.rs 67 yE)), .c false (.v true (.int .i64))] [.c false (.r 3 (.int .i64))]) :=
  match L105_0 n n (a1) (a2) ((a0, ())) ([]) ((0 : Int)) with
  | none => none
  | some (Sum.inl v16) =>
   some (v16.fst, ())
noncomputable def con105 (n : Nat) : Con := conOf [.c true (.v false yP), .c false (.v false (.rs 67 yE)), .c false (.v true (.int .i64))] [.c false (.r 3 (.int .i64))] fun x => F105 n x.1 x.2.1 x.2.2.1
noncomputable def tb105 (n : Nat) : Tb := ⟨tiOf Try.prog, conL [(107, con107 n), (80, con80 n)], n, [], 36, lpL [(0, ⟨[(1, (.c false (.v false (.rs 67 yE)))), (2, kI), (3, (.b 33 [(.v false yP)])), (7, (.c false (.r 3 (.int .i64)))), (8, kI)], [((.exit 0), [(7, (.c false (.r 3 (.int .i64))))])], fun m v => L105_0 n m v.1 v.2.1 v.2.2.1 v.2.2.2.1 v.2.2.2.2.1⟩)], ctL [(4, ⟨[(1, (.c false (.v false (.rs 67 yE)))), (2, kI), (3, (.b 33 [(.v false yP)])), (7, (.c false (.r 3 (.int .i64)))), (8, kI)], [(.normal, [(1, (.c false (.v false (.rs 67 yE)))), (2, kI), (3, (.b 33 [(.v false yP)])), (7, (.c false (.r 3 (.int .i64)))), (8, kI)])], fun v => J105_4 n v.1 v.2.1 v.2.2.1 v.2.2.2.1 v.2.2.2.2.1⟩)], [], true⟩
noncomputable def code105 : Code := Try.f105.body.getD .skip
theorem tb105_ok (n : Nat) : (tb105 n).ok Try.prog := tbOk mixed (⟨con107_ok n, ⟨con80_ok n, trivial⟩⟩)
theorem lp105_0 (n : Nat) : LpAt (tb105 n) (loopBody code105 0) 0 := lpAt rfl (fun _ => by kernel_rfl) (fun _ _ => by kernel_rfl)
theorem blocks105 : blocks code105 = [(0, .loop (loopBody code105 0)), (1, blockBody code105 1)] := by kernel_rfl
theorem ct105_4 (n : Nat) : CtOk (tb105 n) (sec code105 6).2 ⟨[(1, (.c false (.v false (.rs 67 yE)))), (2, kI), (3, (.b 33 [(.v false yP)])), (7, (.c false (.r 3 (.int .i64)))), (8, kI)], [(.normal, [(1, (.c false (.v false (.rs 67 yE)))), (2, kI), (3, (.b 33 [(.v false yP)])), (7, (.c false (.r 3 (.int .i64)))), (8, kI)])], fun v => J105_4 n v.1 v.2.1 v.2.2.1 v.2.2.2.1 v.2.2.2.2.1⟩ := fun _ => by kernel_rfl
theorem secs105 : seconds code105 = [(some 1, (sec code105 0).2), (some 2, (sec code105 1).2), (some 8, (sec code105 2).2), (some 3, (sec code105 3).2), (some 5, (sec code105 4).2), (none, (sec code105 5).2), (some 4, (sec code105 6).2), (some 6, (sec code105 7).2), (none, (sec code105 8).2), (none, (sec code105 9).2)] := by kernel_rfl
theorem la105 (n : Nat) : LpAll (tb105 n) code105 := lpAll blocks105 (bl_loop (lp105_0 n) (bl_none rfl (bl_nil))) secs105 (cs_none rfl (cs_none rfl (cs_none rfl (cs_none rfl (cs_none rfl (cs_none rfl (cs_one rfl (ct105_4 n) (cs_none rfl (cs_none rfl (cs_none rfl (cs_nil))))))))))) (by kernel_rfl)
theorem ev105 (n : Nat) (x : pdens [.c true (.v false yP), .c false (.v false (.rs 67 yE)), .c false (.v true (.int .i64))]) : evSig (tb105 n) Try.f105 [.c true (.v false yP), .c false (.v false (.rs 67 yE)), .c false (.v true (.int .i64))] [.c false (.r 3 (.int .i64))] x = F105 n x.1 x.2.1 x.2.2.1 := by kernel_rfl
theorem con105_ok (n : Nat) : Con.ok Try.prog 105 (con105 n) := conOf_ok (tb105_ok n) (body_la (by kernel_rfl : Try.f105.body = some code105) (la105 n)) Try.func105 (enters Try.func105 (by kernel_rfl) (by kernel_rfl)) rfl rfl (ev105 n)
/-! ### loop.example/fathomline/spec.l12Has -/
def L106_0 (n : Nat) : Nat → List Int → Int → Int → Option (odens [(.ret, [(4, kB)]), ((.exit 0), [])])
  | 0, _, _, _ => none
  | m + 1, x1, x2, x3 =>
    cond (Decidable.decide (x3 < (↑x1.length : Int)))
    (if (0 : Int) ≤ x3 then
     if x3 < (↑x1.length : Int) then
     cond (x1.getD x3.toNat (0 : Int) == x2)
     (some (Sum.inl (Bool.true, ())))
     (L106_0 n m (x1) (x2) (Go.IntKind.i64.wrap (x3 + (1 : Int))))
     else none
     else none)
    (some (Sum.inr (Sum.inl (()))))
def F106 (n : Nat) (a0 : List Int) (a1 : Int) : Option (rdens [.c false (.v false (.rs 3 (.int .i64))), .c false (.v true (.int .i64))] [.c false (.v true .bool)]) :=
  match L106_0 n n (a0) (a1) ((0 : Int)) with
  | none => none
  | some (Sum.inl v4) =>
   some (v4.fst, ())
  | some (Sum.inr (Sum.inl v5)) =>
   some (Bool.false, ())
noncomputable def con106 (n : Nat) : Con := conOf [.c false (.v false (.rs 3 (.int .i64))), .c false (.v true (.int .i64))] [.c false (.v true .bool)] fun x => F106 n x.1 x.2.1
noncomputable def tb106 (n : Nat) : Tb := ⟨tiOf Try.prog, conL [], n, [], 18, lpL [(0, ⟨[(0, (.c false (.v false (.rs 3 (.int .i64))))), (1, kI), (5, kI)], [(.ret, [(4, kB)]), ((.exit 0), [])], fun m v => L106_0 n m v.1 v.2.1 v.2.2.1⟩)], ctL [], [], true⟩
noncomputable def code106 : Code := Try.f106.body.getD .skip
theorem tb106_ok (n : Nat) : (tb106 n).ok Try.prog := tbOk mixed (trivial)
theorem lp106_0 (n : Nat) : LpAt (tb106 n) (loopBody code106 0) 0 := lpAt rfl (fun _ => by kernel_rfl) (fun _ _ => by kernel_rfl)
theorem blocks106 : blocks code106 = [(0, .loop (loopBody code106 0)), (1, blockBody code106 1)] := by kernel_rfl
theorem la106 (n : Nat) : LpAll (tb106 n) code106 := lpAll blocks106 (bl_loop (lp106_0 n) (bl_none rfl (bl_nil))) rfl (cs_no fun _ => rfl) (by kernel_rfl)
theorem ev106 (n : Nat) (x : pdens [.c false (.v false (.rs 3 (.int .i64))), .c false (.v true (.int .i64))]) : evSig (tb106 n) Try.f106 [.c false (.v false (.rs 3 (.int .i64))), .c false (.v true (.int .i64))] [.c false (.v true .bool)] x = F106 n x.1 x.2.1 := by kernel_rfl
theorem con106_ok (n : Nat) : Con.ok Try.prog 106 (con106 n) := conOf_ok (tb106_ok n) (body_la (by kernel_rfl : Try.f106.body = some code106) (la106 n)) Try.func106 (enters Try.func106 (by kernel_rfl) (by kernel_rfl)) rfl rfl (ev106 n)
/-! ### loop.example/fathomline/spec.l12Form -/
def L66_2 (n : Nat) : Nat → List (Int × Int × Bool) → List (List (Int × Int × Int)) × Unit → (List Int × List (List Int)) × Unit → Int → List Int → Int → Option (odens [(.ret, [(6, kB)]), ((.exit 2), [(1, (.c false (.v false (.rs 67 yE)))), (3, (.b 33 [(.v false yP)])), (5, (.b 48 [(.v false yX)])), (7, kI)])])
  | 0, _, _, _, _, _, _ => none
  | m + 1, x9, x10, x11, x12, x13, x14 =>
    cond (Decidable.decide (x14 < (↑x13.length : Int)))
    (if (0 : Int) ≤ x12 then
     if x12 < (↑(List.length x11.fst.snd) : Int) then
     if (0 : Int) ≤ x14 then
     if x14 < (↑x13.length : Int) then
     if x14.toNat < x13.length then
     (F106 n (List.getD x11.fst.snd x12.toNat []) (x13.getD x14.toNat (0 : Int))).bind fun y15 =>
     cond (!y15.fst)
     (some (Sum.inl (Bool.false, ())))
     (L66_2 n m (x9) ((x10.fst, ())) (((x11.fst.fst, x11.fst.snd), ())) (x12) (x13) (Go.IntKind.i64.wrap (x14 + (1 : Int))))
     else none
     else none
     else none
     else none
     else none)
    (some (Sum.inr (Sum.inl (x9, (x10.fst, ()), ((x11.fst.fst, x11.fst.snd), ()), x12, ()))))
def L66_0 (n : Nat) : Nat → List (Int × Int × Bool) → List (List (Int × Int × Int)) × Unit → (List Int × List (List Int)) × Unit → Int → Option (odens [(.ret, [(6, kB)]), ((.exit 0), [(1, (.c false (.v false (.rs 67 yE)))), (3, (.b 33 [(.v false yP)])), (5, (.b 48 [(.v false yX)]))])])
  | 0, _, _, _, _ => none
  | m + 1, x4, x5, x6, x7 =>
    cond (Decidable.decide (x7 < (3 : Int)))
    ((F105 n (x5.fst) (x4) (x7)).bind fun y8 =>
     if (0 : Int) ≤ x7 then
     if x7 < (↑(List.length x6.fst.snd) : Int) then
     cond ((↑(List.length y8.fst) : Int) != (↑(List.length (List.getD x6.fst.snd x7.toNat [])) : Int))
     (some (Sum.inl (Bool.false, ())))
     (match L66_2 n n (x4) ((x5.fst, ())) (((x6.fst.fst, x6.fst.snd), ())) (x7) (y8.fst) ((0 : Int)) with
      | none => none
      | some (Sum.inl v16) =>
       some (Sum.inl (v16.fst, ()))
      | some (Sum.inr (Sum.inl v17)) =>
       L66_0 n m (v17.fst) ((v17.snd.fst.fst, ())) (((v17.snd.snd.fst.fst.fst, v17.snd.snd.fst.fst.snd), ())) (Go.IntKind.i64.wrap (v17.snd.snd.snd.fst + (1 : Int))))
     else none
     else none)
    (some (Sum.inr (Sum.inl (x4, (x5.fst, ()), ((x6.fst.fst, x6.fst.snd), ()), ()))))
def J66_16 (n : Nat) (x28 : List (Int × Int × Bool)) (x29 : List (List (Int × Int × Int)) × Unit) (x30 : (List Int × List (List Int)) × Unit) (x31 : Int) : Option (odens [(.normal, [(1, (.c false (.v false (.rs 67 yE)))), (3, (.b 33 [(.v false yP)])), (5, (.b 48 [(.v false yX)])), (10, kI)])]) :=
    some (Sum.inl (x28, (x29.fst, ()), ((x30.fst.fst, x30.fst.snd), ()), Go.IntKind.i64.wrap (x31 + (1 : Int)), ()))
def L66_4 (n : Nat) : Nat → List (Int × Int × Bool) → List (List (Int × Int × Int)) × Unit → (List Int × List (List Int)) × Unit → Int → Option (odens [(.ret, [(6, kB)]), ((.exit 4), [])])
  | 0, _, _, _, _ => none
  | m + 1, x20, x21, x22, x23 =>
    cond (Decidable.decide (x23 < (↑x20.length : Int)))
    (if (0 : Int) ≤ x23 then
     if x23 < (↑x20.length : Int) then
     (F107 n (x21.fst) (((x20.getD x23.toNat ((0 : Int), (0 : Int), Bool.false)).fst, (x20.getD x23.toNat ((0 : Int), (0 : Int), Bool.false)).snd.fst, (x20.getD x23.toNat ((0 : Int), (0 : Int), Bool.false)).snd.snd))).bind fun y24 =>
     (F79 n ((y24.fst.fst, y24.fst.snd.fst, y24.fst.snd.snd))).bind fun y25 =>
     cond (!y25.fst)
     (if (0 : Int) ≤ x23 then
      if x23 < (↑(List.length x22.fst.fst) : Int) then
      cond (List.getD x22.fst.fst x23.toNat (0 : Int) != (-2 : Int))
      (some (Sum.inl (Bool.false, ())))
      ((F79 n ((y24.fst.fst, y24.fst.snd.fst, y24.fst.snd.snd))).bind fun y26 =>
       cond (y26.fst)
       (if (0 : Int) ≤ x23 then
        if x23 < (↑(List.length x22.fst.fst) : Int) then
        cond (List.getD x22.fst.fst x23.toNat (0 : Int) != (-1 : Int))
        (if (0 : Int) ≤ y24.fst.snd.fst then
         if y24.fst.snd.fst < (↑(List.length x22.fst.snd) : Int) then
         if (0 : Int) ≤ x23 then
         if x23 < (↑(List.length x22.fst.fst) : Int) then
         (F106 n (List.getD x22.fst.snd (Int.toNat y24.fst.snd.fst) []) (List.getD x22.fst.fst x23.toNat (0 : Int))).bind fun y27 =>
         cond (!y27.fst)
         (some (Sum.inl (Bool.false, ())))
         (match J66_16 n (x20) ((x21.fst, ())) (((x22.fst.fst, x22.fst.snd), ())) (x23) with
          | none => none
          | some (Sum.inl v32) =>
           L66_4 n m (v32.fst) ((v32.snd.fst.fst, ())) (((v32.snd.snd.fst.fst.fst, v32.snd.snd.fst.fst.snd), ())) (v32.snd.snd.snd.fst))
         else none
         else none
         else none
         else none)
        (match J66_16 n (x20) ((x21.fst, ())) (((x22.fst.fst, x22.fst.snd), ())) (x23) with
         | none => none
         | some (Sum.inl v33) =>
          L66_4 n m (v33.fst) ((v33.snd.fst.fst, ())) (((v33.snd.snd.fst.fst.fst, v33.snd.snd.fst.fst.snd), ())) (v33.snd.snd.snd.fst))
        else none
        else none)
       (match J66_16 n (x20) ((x21.fst, ())) (((x22.fst.fst, x22.fst.snd), ())) (x23) with
        | none => none
        | some (Sum.inl v34) =>
         L66_4 n m (v34.fst) ((v34.snd.fst.fst, ())) (((v34.snd.snd.fst.fst.fst, v34.snd.snd.fst.fst.snd), ())) (v34.snd.snd.snd.fst)))
      else none
      else none)
     ((F79 n ((y24.fst.fst, y24.fst.snd.fst, y24.fst.snd.snd))).bind fun y35 =>
      cond (y35.fst)
      (if (0 : Int) ≤ x23 then
       if x23 < (↑(List.length x22.fst.fst) : Int) then
       cond (List.getD x22.fst.fst x23.toNat (0 : Int) != (-1 : Int))
       (if (0 : Int) ≤ y24.fst.snd.fst then
        if y24.fst.snd.fst < (↑(List.length x22.fst.snd) : Int) then
        if (0 : Int) ≤ x23 then
        if x23 < (↑(List.length x22.fst.fst) : Int) then
        (F106 n (List.getD x22.fst.snd (Int.toNat y24.fst.snd.fst) []) (List.getD x22.fst.fst x23.toNat (0 : Int))).bind fun y36 =>
        cond (!y36.fst)
        (some (Sum.inl (Bool.false, ())))
        (match J66_16 n (x20) ((x21.fst, ())) (((x22.fst.fst, x22.fst.snd), ())) (x23) with
         | none => none
         | some (Sum.inl v37) =>
          L66_4 n m (v37.fst) ((v37.snd.fst.fst, ())) (((v37.snd.snd.fst.fst.fst, v37.snd.snd.fst.fst.snd), ())) (v37.snd.snd.snd.fst))
        else none
        else none
        else none
        else none)
       (match J66_16 n (x20) ((x21.fst, ())) (((x22.fst.fst, x22.fst.snd), ())) (x23) with
        | none => none
        | some (Sum.inl v38) =>
         L66_4 n m (v38.fst) ((v38.snd.fst.fst, ())) (((v38.snd.snd.fst.fst.fst, v38.snd.snd.fst.fst.snd), ())) (v38.snd.snd.snd.fst))
       else none
       else none)
      (match J66_16 n (x20) ((x21.fst, ())) (((x22.fst.fst, x22.fst.snd), ())) (x23) with
       | none => none
       | some (Sum.inl v39) =>
        L66_4 n m (v39.fst) ((v39.snd.fst.fst, ())) (((v39.snd.snd.fst.fst.fst, v39.snd.snd.fst.fst.snd), ())) (v39.snd.snd.snd.fst)))
     else none
     else none)
    (some (Sum.inr (Sum.inl (()))))
def J66_3 (n : Nat) (x1 : List (Int × Int × Bool)) (x2 : List (List (Int × Int × Int)) × Unit) (x3 : (List Int × List (List Int)) × Unit) : Option (odens [(.ret, [(6, kB)])]) :=
    match L66_0 n n (x1) ((x2.fst, ())) (((x3.fst.fst, x3.fst.snd), ())) ((0 : Int)) with
    | none => none
    | some (Sum.inl v18) =>
     some (Sum.inl (v18.fst, ()))
    | some (Sum.inr (Sum.inl v19)) =>
     match L66_4 n n (v19.fst) ((v19.snd.fst.fst, ())) (((v19.snd.snd.fst.fst.fst, v19.snd.snd.fst.fst.snd), ())) ((0 : Int)) with
     | none => none
     | some (Sum.inl v40) =>
      some (Sum.inl (v40.fst, ()))
     | some (Sum.inr (Sum.inl v41)) =>
      some (Sum.inl (Bool.true, ()))
def F66 (n : Nat) (a0 : List (List (Int × Int × Int))) (a1 : List (Int × Int × Bool)) (a2 : List Int × List (List Int)) : Option (rdens [.c true (.v false yP), .c false (.v false (.rs 67 yE)), .c true (.v false yX)] [.c false (.v true .bool)]) :=
  cond ((↑(List.length a2.fst) : Int) != (↑a1.length : Int))
  (some (Bool.false, ()))
  (cond ((↑(List.length a2.snd) : Int) != (3 : Int))
   (some (Bool.false, ()))
   (match J66_3 n (a1) ((a0, ())) (((a2.fst, a2.snd), ())) with
    | none => none
    | some (Sum.inl v42) =>
     some (v42.fst, ())))
noncomputable def con66 (n : Nat) : Con := conOf [.c true (.v false yP), .c false (.v false (.rs 67 yE)), .c true (.v false yX)] [.c false (.v true .bool)] fun x => F66 n x.1 x.2.1 x.2.2.1
noncomputable def tb66 (n : Nat) : Tb := ⟨tiOf Try.prog, conL [(105, con105 n), (106, con106 n), (107, con107 n), (79, con79 n)], n, [], 108, lpL [(2, ⟨[(1, (.c false (.v false (.rs 67 yE)))), (3, (.b 33 [(.v false yP)])), (5, (.b 48 [(.v false yX)])), (7, kI), (8, (.c false (.r 3 (.int .i64)))), (9, kI)], [(.ret, [(6, kB)]), ((.exit 2), [(1, (.c false (.v false (.rs 67 yE)))), (3, (.b 33 [(.v false yP)])), (5, (.b 48 [(.v false yX)])), (7, kI)])], fun m v => L66_2 n m v.1 v.2.1 v.2.2.1 v.2.2.2.1 v.2.2.2.2.1 v.2.2.2.2.2.1⟩), (0, ⟨[(1, (.c false (.v false (.rs 67 yE)))), (3, (.b 33 [(.v false yP)])), (5, (.b 48 [(.v false yX)])), (7, kI)], [(.ret, [(6, kB)]), ((.exit 0), [(1, (.c false (.v false (.rs 67 yE)))), (3, (.b 33 [(.v false yP)])), (5, (.b 48 [(.v false yX)]))])], fun m v => L66_0 n m v.1 v.2.1 v.2.2.1 v.2.2.2.1⟩), (4, ⟨[(1, (.c false (.v false (.rs 67 yE)))), (3, (.b 33 [(.v false yP)])), (5, (.b 48 [(.v false yX)])), (10, kI)], [(.ret, [(6, kB)]), ((.exit 4), [])], fun m v => L66_4 n m v.1 v.2.1 v.2.2.1 v.2.2.2.1⟩)], ctL [(16, ⟨[(1, (.c false (.v false (.rs 67 yE)))), (3, (.b 33 [(.v false yP)])), (5, (.b 48 [(.v false yX)])), (10, kI)], [(.normal, [(1, (.c false (.v false (.rs 67 yE)))), (3, (.b 33 [(.v false yP)])), (5, (.b 48 [(.v false yX)])), (10, kI)])], fun v => J66_16 n v.1 v.2.1 v.2.2.1 v.2.2.2.1⟩), (3, ⟨[(1, (.c false (.v false (.rs 67 yE)))), (3, (.b 33 [(.v false yP)])), (5, (.b 48 [(.v false yX)]))], [(.ret, [(6, kB)])], fun v => J66_3 n v.1 v.2.1 v.2.2.1⟩)], [], true⟩
noncomputable def code66 : Code := Try.f66.body.getD .skip
theorem tb66_ok (n : Nat) : (tb66 n).ok Try.prog := tbOk mixed (⟨con105_ok n, ⟨con106_ok n, ⟨con107_ok n, ⟨con79_ok n, trivial⟩⟩⟩⟩)
theorem lp66_2 (n : Nat) : LpAt (tb66 n) (loopBody code66 2) 2 := lpAt rfl (fun _ => by kernel_rfl) (fun _ _ => by kernel_rfl)
theorem lp66_0 (n : Nat) : LpAt (tb66 n) (loopBody code66 0) 0 := lpAt rfl (fun _ => by kernel_rfl) (fun _ _ => by kernel_rfl)
theorem lp66_4 (n : Nat) : LpAt (tb66 n) (loopBody code66 4) 4 := lpAt rfl (fun _ => by kernel_rfl) (fun _ _ => by kernel_rfl)
theorem blocks66 : blocks code66 = [(0, .loop (loopBody code66 0)), (1, blockBody code66 1), (2, .loop (loopBody code66 2)), (3, blockBody code66 3), (4, .loop (loopBody code66 4)), (5, blockBody code66 5)] := by kernel_rfl
theorem ct66_3 (n : Nat) : CtOk (tb66 n) (sec code66 1).2 ⟨[(1, (.c false (.v false (.rs 67 yE)))), (3, (.b 33 [(.v false yP)])), (5, (.b 48 [(.v false yX)]))], [(.ret, [(6, kB)])], fun v => J66_3 n v.1 v.2.1 v.2.2.1⟩ := fun _ => by kernel_rfl
theorem ct66_16 (n : Nat) : CtOk (tb66 n) (sec code66 23).2 ⟨[(1, (.c false (.v false (.rs 67 yE)))), (3, (.b 33 [(.v false yP)])), (5, (.b 48 [(.v false yX)])), (10, kI)], [(.normal, [(1, (.c false (.v false (.rs 67 yE)))), (3, (.b 33 [(.v false yP)])), (5, (.b 48 [(.v false yX)])), (10, kI)])], fun v => J66_16 n v.1 v.2.1 v.2.2.1 v.2.2.2.1⟩ := fun _ => by kernel_rfl
theorem secs66 : seconds code66 = [(some 1, (sec code66 0).2), (some 3, (sec code66 1).2), (none, (sec code66 2).2), (none, (sec code66 3).2), (some 14, (sec code66 4).2), (some 4, (sec code66 5).2), (some 6, (sec code66 6).2), (none, (sec code66 7).2), (some 5, (sec code66 8).2), (some 7, (sec code66 9).2), (some 9, (sec code66 10).2), (none, (sec code66 11).2), (none, (sec code66 12).2), (some 10, (sec code66 13).2), (some 12, (sec code66 14).2), (none, (sec code66 15).2), (some 11, (sec code66 16).2), (none, (sec code66 17).2), (none, (sec code66 18).2), (some 20, (sec code66 19).2), (some 15, (sec code66 20).2), (some 17, (sec code66 21).2), (none, (sec code66 22).2), (some 16, (sec code66 23).2), (some 18, (sec code66 24).2), (none, (sec code66 25).2), (none, (sec code66 26).2), (none, (sec code66 27).2)] := by kernel_rfl
theorem la66 (n : Nat) : LpAll (tb66 n) code66 := lpAll blocks66 (bl_loop (lp66_0 n) (bl_none rfl (bl_loop (lp66_2 n) (bl_none rfl (bl_loop (lp66_4 n) (bl_none rfl (bl_nil))))))) secs66 (cs_none rfl (cs_one rfl (ct66_3 n) (cs_none rfl (cs_none rfl (cs_none rfl (cs_none rfl (cs_none rfl (cs_none rfl (cs_none rfl (cs_none rfl (cs_none rfl (cs_none rfl (cs_none rfl (cs_none rfl (cs_none rfl (cs_none rfl (cs_none rfl (cs_none rfl (cs_none rfl (cs_none rfl (cs_none rfl (cs_none rfl (cs_none rfl (cs_one rfl (ct66_16 n) (cs_none rfl (cs_none rfl (cs_none rfl (cs_none rfl (cs_nil))))))))))))))))))))))))))))) (by kernel_rfl)
theorem ev66 (n : Nat) (x : pdens [.c true (.v false yP), .c false (.v false (.rs 67 yE)), .c true (.v false yX)]) : evSig (tb66 n) Try.f66 [.c true (.v false yP), .c false (.v false (.rs 67 yE)), .c true (.v false yX)] [.c false (.v true .bool)] x = F66 n x.1 x.2.1 x.2.2.1 := by kernel_rfl
theorem con66_ok (n : Nat) : Con.ok Try.prog 66 (con66 n) := conOf_ok (tb66_ok n) (body_la (by kernel_rfl : Try.f66.body = some code66) (la66 n)) Try.func66 (enters Try.func66 (by kernel_rfl) (by kernel_rfl)) rfl rfl (ev66 n)
/-! ### loop.example/fathomline/spec.l12Source -/
def J133_3 (n : Nat) (x7 : List (Int × Int × Bool)) (x8 : Int) (x9 : List (List (Int × Int × Int)) × Unit) (x10 : Int) : Option (odens [(.normal, [(1, (.c false (.v false (.rs 67 yE)))), (2, kI), (3, (.b 33 [(.v false yP)])), (7, kI)])]) :=
    some (Sum.inl (x7, x8, (x9.fst, ()), Go.IntKind.i64.wrap (x10 - (1 : Int)), ()))
def L133_0 (n : Nat) : Nat → List (Int × Int × Bool) → Int → List (List (Int × Int × Int)) × Unit → Int → Option (odens [(.ret, [(6, kI)]), ((.exit 0), [])])
  | 0, _, _, _, _ => none
  | m + 1, x1, x2, x3, x4 =>
    cond (Decidable.decide (x4 ≥ (0 : Int)))
    (if (0 : Int) ≤ x4 then
     if x4 < (↑x1.length : Int) then
     if (0 : Int) ≤ x2 then
     if x2 < (↑x1.length : Int) then
     cond ((x1.getD x4.toNat ((0 : Int), (0 : Int), Bool.false)).fst == (x1.getD x2.toNat ((0 : Int), (0 : Int), Bool.false)).fst)
     (if (0 : Int) ≤ x4 then
      if x4 < (↑x1.length : Int) then
      (F107 n (x3.fst) (((x1.getD x4.toNat ((0 : Int), (0 : Int), Bool.false)).fst, (x1.getD x4.toNat ((0 : Int), (0 : Int), Bool.false)).snd.fst, (x1.getD x4.toNat ((0 : Int), (0 : Int), Bool.false)).snd.snd))).bind fun y5 =>
      (F79 n ((y5.fst.fst, y5.fst.snd.fst, y5.fst.snd.snd))).bind fun y6 =>
      cond (y6.fst)
      (some (Sum.inl (x4, ())))
      (match J133_3 n (x1) (x2) ((x3.fst, ())) (x4) with
       | none => none
       | some (Sum.inl v11) =>
        L133_0 n m (v11.fst) (v11.snd.fst) ((v11.snd.snd.fst.fst, ())) (v11.snd.snd.snd.fst))
      else none
      else none)
     (match J133_3 n (x1) (x2) ((x3.fst, ())) (x4) with
      | none => none
      | some (Sum.inl v12) =>
       L133_0 n m (v12.fst) (v12.snd.fst) ((v12.snd.snd.fst.fst, ())) (v12.snd.snd.snd.fst))
     else none
     else none
     else none
     else none)
    (some (Sum.inr (Sum.inl (()))))
def F133 (n : Nat) (a0 : List (List (Int × Int × Int))) (a1 : List (Int × Int × Bool)) (a2 : Int) : Option (rdens [.c true (.v false yP), .c false (.v false (.rs 67 yE)), .c false (.v true (.int .i64))] [.c false (.v true (.int .i64))]) :=
  match L133_0 n n (a1) (a2) ((a0, ())) (Go.IntKind.i64.wrap (a2 - (1 : Int))) with
  | none => none
  | some (Sum.inl v13) =>
   some (v13.fst, ())
  | some (Sum.inr (Sum.inl v14)) =>
   some ((-1 : Int), ())
noncomputable def con133 (n : Nat) : Con := conOf [.c true (.v false yP), .c false (.v false (.rs 67 yE)), .c false (.v true (.int .i64))] [.c false (.v true (.int .i64))] fun x => F133 n x.1 x.2.1 x.2.2.1
noncomputable def tb133 (n : Nat) : Tb := ⟨tiOf Try.prog, conL [(107, con107 n), (79, con79 n)], n, [], 35, lpL [(0, ⟨[(1, (.c false (.v false (.rs 67 yE)))), (2, kI), (3, (.b 33 [(.v false yP)])), (7, kI)], [(.ret, [(6, kI)]), ((.exit 0), [])], fun m v => L133_0 n m v.1 v.2.1 v.2.2.1 v.2.2.2.1⟩)], ctL [(3, ⟨[(1, (.c false (.v false (.rs 67 yE)))), (2, kI), (3, (.b 33 [(.v false yP)])), (7, kI)], [(.normal, [(1, (.c false (.v false (.rs 67 yE)))), (2, kI), (3, (.b 33 [(.v false yP)])), (7, kI)])], fun v => J133_3 n v.1 v.2.1 v.2.2.1 v.2.2.2.1⟩)], [], true⟩
noncomputable def code133 : Code := Try.f133.body.getD .skip
theorem tb133_ok (n : Nat) : (tb133 n).ok Try.prog := tbOk mixed (⟨con107_ok n, ⟨con79_ok n, trivial⟩⟩)
theorem lp133_0 (n : Nat) : LpAt (tb133 n) (loopBody code133 0) 0 := lpAt rfl (fun _ => by kernel_rfl) (fun _ _ => by kernel_rfl)
theorem blocks133 : blocks code133 = [(0, .loop (loopBody code133 0)), (1, blockBody code133 1)] := by kernel_rfl
theorem ct133_3 (n : Nat) : CtOk (tb133 n) (sec code133 5).2 ⟨[(1, (.c false (.v false (.rs 67 yE)))), (2, kI), (3, (.b 33 [(.v false yP)])), (7, kI)], [(.normal, [(1, (.c false (.v false (.rs 67 yE)))), (2, kI), (3, (.b 33 [(.v false yP)])), (7, kI)])], fun v => J133_3 n v.1 v.2.1 v.2.2.1 v.2.2.2.1⟩ := fun _ => by kernel_rfl
theorem secs133 : seconds code133 = [(some 1, (sec code133 0).2), (some 6, (sec code133 1).2), (some 2, (sec code133 2).2), (some 4, (sec code133 3).2), (none, (sec code133 4).2), (some 3, (sec code133 5).2), (none, (sec code133 6).2), (none, (sec code133 7).2), (none, (sec code133 8).2)] := by kernel_rfl
theorem la133 (n : Nat) : LpAll (tb133 n) code133 := lpAll blocks133 (bl_loop (lp133_0 n) (bl_none rfl (bl_nil))) secs133 (cs_none rfl (cs_none rfl (cs_none rfl (cs_none rfl (cs_none rfl (cs_one rfl (ct133_3 n) (cs_none rfl (cs_none rfl (cs_none rfl (cs_nil)))))))))) (by kernel_rfl)
theorem ev133 (n : Nat) (x : pdens [.c true (.v false yP), .c false (.v false (.rs 67 yE)), .c false (.v true (.int .i64))]) : evSig (tb133 n) Try.f133 [.c true (.v false yP), .c false (.v false (.rs 67 yE)), .c false (.v true (.int .i64))] [.c false (.v true (.int .i64))] x = F133 n x.1 x.2.1 x.2.2.1 := by kernel_rfl
theorem con133_ok (n : Nat) : Con.ok Try.prog 133 (con133 n) := conOf_ok (tb133_ok n) (body_la (by kernel_rfl : Try.f133.body = some code133) (la133 n)) Try.func133 (enters Try.func133 (by kernel_rfl) (by kernel_rfl)) rfl rfl (ev133 n)
/-! ### loop.example/fathomline/spec.l12Val -/
def G108 (R : List (List (Int × Int × Int)) → List (Int × Int × Bool) → List Int × List (List Int) → Int → Int → Option (rdens [.c true (.v false yP), .c false (.v false (.rs 67 yE)), .c true (.v false yX), .c false (.v true (.int .i64)), .c false (.v true (.int .i64))] [.c false (.v true (.int .i64))])) (n : Nat) (a0 : List (List (Int × Int × Int))) (a1 : List (Int × Int × Bool)) (a2 : List Int × List (List Int)) (a3 : Int) (a4 : Int) : Option (rdens [.c true (.v false yP), .c false (.v false (.rs 67 yE)), .c true (.v false yX), .c false (.v true (.int .i64)), .c false (.v true (.int .i64))] [.c false (.v true (.int .i64))]) :=
  cond (Decidable.decide (a3 < (0 : Int)))
  (some ((0 : Int), ()))
  (cond (Decidable.decide (a4 < (1 : Int)))
   (some ((-1 : Int), ()))
   (if (0 : Int) ≤ a3 then
    if a3 < (↑a1.length : Int) then
    (F107 n (a0) (((a1.getD a3.toNat ((0 : Int), (0 : Int), Bool.false)).fst, (a1.getD a3.toNat ((0 : Int), (0 : Int), Bool.false)).snd.fst, (a1.getD a3.toNat ((0 : Int), (0 : Int), Bool.false)).snd.snd))).bind fun y1 =>
    (F79 n ((y1.fst.fst, y1.fst.snd.fst, y1.fst.snd.snd))).bind fun y2 =>
    cond (y2.fst)
    (if (0 : Int) ≤ a3 then
     if a3 < (↑(List.length a2.fst) : Int) then
     (R (a0) (a1) ((a2.fst, a2.snd)) (List.getD a2.fst a3.toNat (0 : Int)) (Go.IntKind.i64.wrap (a4 - (1 : Int)))).bind fun y3 =>
     some (y3.fst, ())
     else none
     else none)
    (cond (y1.fst.fst == (3 : Int))
     ((F133 n (a0) (a1) (a3)).bind fun y4 =>
      (R (a0) (a1) ((a2.fst, a2.snd)) (y4.fst) (Go.IntKind.i64.wrap (a4 - (1 : Int)))).bind fun y5 =>
      some (y5.fst, ()))
     (some (y1.fst.snd.snd, ())))
    else none
    else none))
def F108 : Nat → List (List (Int × Int × Int)) → List (Int × Int × Bool) → List Int × List (List Int) → Int → Int → Option (rdens [.c true (.v false yP), .c false (.v false (.rs 67 yE)), .c true (.v false yX), .c false (.v true (.int .i64)), .c false (.v true (.int .i64))] [.c false (.v true (.int .i64))])
  | 0, _, _, _, _, _ => none
  | n + 1, a0, a1, a2, a3, a4 => G108 (F108 n) n a0 a1 a2 a3 a4
noncomputable def con108 (n : Nat) : Con := conOf [.c true (.v false yP), .c false (.v false (.rs 67 yE)), .c true (.v false yX), .c false (.v true (.int .i64)), .c false (.v true (.int .i64))] [.c false (.v true (.int .i64))] fun x => F108 n x.1 x.2.1 x.2.2.1 x.2.2.2.1 x.2.2.2.2.1
noncomputable def tb108 (n : Nat) : Tb := ⟨tiOf Try.prog, conL [(107, con107 n), (79, con79 n), (108, con108 n), (133, con133 n)], n, [], 52, lpL [], ctL [], [], true⟩
noncomputable def code108 : Code := Try.f108.body.getD .skip
theorem tb108_ok (n : Nat) (h : Con.ok Try.prog 108 (con108 n)) : (tb108 n).ok Try.prog := tbOk mixed (⟨con107_ok n, ⟨con79_ok n, ⟨h, ⟨con133_ok n, trivial⟩⟩⟩⟩)
theorem blocks108 : blocks code108 = [(0, blockBody code108 0)] := by kernel_rfl
theorem la108 (n : Nat) : LpAll (tb108 n) code108 := lpAll blocks108 (bl_none rfl (bl_nil)) rfl (cs_no fun _ => rfl) (by kernel_rfl)
theorem ev108 (n : Nat) (x : pdens [.c true (.v false yP), .c false (.v false (.rs 67 yE)), .c true (.v false yX), .c false (.v true (.int .i64)), .c false (.v true (.int .i64))]) : evSig (tb108 n) Try.f108 [.c true (.v false yP), .c false (.v false (.rs 67 yE)), .c true (.v false yX), .c false (.v true (.int .i64)), .c false (.v true (.int .i64))] [.c false (.v true (.int .i64))] x = F108 (n + 1) x.1 x.2.1 x.2.2.1 x.2.2.2.1 x.2.2.2.2.1 := by kernel_rfl
theorem con108_ok : ∀ n : Nat, Con.ok Try.prog 108 (con108 n)
  | 0 => con_none (enters Try.func108 (by kernel_rfl) (by kernel_rfl)) fun _ => rfl
  | n + 1 => conOf_ok (tb108_ok n (con108_ok n)) (body_la (by kernel_rfl : Try.f108.body = some code108) (la108 n)) Try.func108 (enters Try.func108 (by kernel_rfl) (by kernel_rfl)) rfl rfl (ev108 n)
/-! ### loop.example/fathomline/spec.l12Ends -/
def L67_0 (n : Nat) : Nat → List (Int × Int × Bool) → List (List (Int × Int × Int)) × Unit → (List Int × List (List Int)) × Unit → Int → Option (odens [(.ret, [(6, kB)]), ((.exit 0), [])])
  | 0, _, _, _, _ => none
  | m + 1, x1, x2, x3, x4 =>
    cond (Decidable.decide (x4 < (↑x1.length : Int)))
    ((F108 n (x2.fst) (x1) ((x3.fst.fst, x3.fst.snd)) (x4) (Go.IntKind.i64.wrap (Go.IntKind.i64.wrap ((2 : Int) * (↑x1.length : Int)) + (2 : Int)))).bind fun y5 =>
     cond (Decidable.decide (y5.fst < (0 : Int)))
     (some (Sum.inl (Bool.false, ())))
     (L67_0 n m (x1) ((x2.fst, ())) (((x3.fst.fst, x3.fst.snd), ())) (Go.IntKind.i64.wrap (x4 + (1 : Int)))))
    (some (Sum.inr (Sum.inl (()))))
def F67 (n : Nat) (a0 : List (List (Int × Int × Int))) (a1 : List (Int × Int × Bool)) (a2 : List Int × List (List Int)) : Option (rdens [.c true (.v false yP), .c false (.v false (.rs 67 yE)), .c true (.v false yX)] [.c false (.v true .bool)]) :=
  match L67_0 n n (a1) ((a0, ())) (((a2.fst, a2.snd), ())) ((0 : Int)) with
  | none => none
  | some (Sum.inl v6) =>
   some (v6.fst, ())
  | some (Sum.inr (Sum.inl v7)) =>
   some (Bool.true, ())
noncomputable def con67 (n : Nat) : Con := conOf [.c true (.v false yP), .c false (.v false (.rs 67 yE)), .c true (.v false yX)] [.c false (.v true .bool)] fun x => F67 n x.1 x.2.1 x.2.2.1
noncomputable def tb67 (n : Nat) : Tb := ⟨tiOf Try.prog, conL [(108, con108 n)], n, [], 24, lpL [(0, ⟨[(1, (.c false (.v false (.rs 67 yE)))), (3, (.b 33 [(.v false yP)])), (5, (.b 48 [(.v false yX)])), (7, kI)], [(.ret, [(6, kB)]), ((.exit 0), [])], fun m v => L67_0 n m v.1 v.2.1 v.2.2.1 v.2.2.2.1⟩)], ctL [], [], true⟩
noncomputable def code67 : Code := Try.f67.body.getD .skip
theorem tb67_ok (n : Nat) : (tb67 n).ok Try.prog := tbOk mixed (⟨con108_ok n, trivial⟩)
theorem lp67_0 (n : Nat) : LpAt (tb67 n) (loopBody code67 0) 0 := lpAt rfl (fun _ => by kernel_rfl) (fun _ _ => by kernel_rfl)
theorem blocks67 : blocks code67 = [(0, .loop (loopBody code67 0)), (1, blockBody code67 1)] := by kernel_rfl
theorem la67 (n : Nat) : LpAll (tb67 n) code67 := lpAll blocks67 (bl_loop (lp67_0 n) (bl_none rfl (bl_nil))) rfl (cs_no fun _ => rfl) (by kernel_rfl)
theorem ev67 (n : Nat) (x : pdens [.c true (.v false yP), .c false (.v false (.rs 67 yE)), .c true (.v false yX)]) : evSig (tb67 n) Try.f67 [.c true (.v false yP), .c false (.v false (.rs 67 yE)), .c true (.v false yX)] [.c false (.v true .bool)] x = F67 n x.1 x.2.1 x.2.2.1 := by kernel_rfl
theorem con67_ok (n : Nat) : Con.ok Try.prog 67 (con67 n) := conOf_ok (tb67_ok n) (body_la (by kernel_rfl : Try.f67.body = some code67) (la67 n)) Try.func67 (enters Try.func67 (by kernel_rfl) (by kernel_rfl)) rfl rfl (ev67 n)
/-! ### loop.example/fathomline/spec.ExecOk -/
def F29 (n : Nat) (a0 : List (List (Int × Int × Int))) (a1 : List Int × List (List Int)) : Option (rdens [.c true (.v false yP), .c true (.v false yX)] [.c false (.v true .bool)]) :=
  (F36 n (a0)).bind fun y1 =>
  cond (!y1.fst)
  (some (Bool.false, ()))
  ((F65 n (a0)).bind fun y2 =>
   (F66 n (a0) (y2.fst) ((a1.fst, a1.snd))).bind fun y3 =>
   cond (!y3.fst)
   (some (Bool.false, ()))
   ((F67 n (a0) (y2.fst) ((a1.fst, a1.snd))).bind fun y4 =>
    some (y4.fst, ())))
noncomputable def con29 (n : Nat) : Con := conOf [.c true (.v false yP), .c true (.v false yX)] [.c false (.v true .bool)] fun x => F29 n x.1 x.2.1
noncomputable def tb29 (n : Nat) : Tb := ⟨tiOf Try.prog, conL [(36, con36 n), (65, con65 n), (66, con66 n), (67, con67 n)], n, [], 20, lpL [], ctL [], [], true⟩
noncomputable def code29 : Code := Try.f29.body.getD .skip
theorem tb29_ok (n : Nat) : (tb29 n).ok Try.prog := tbOk mixed (⟨con36_ok n, ⟨con65_ok n, ⟨con66_ok n, ⟨con67_ok n, trivial⟩⟩⟩⟩)
theorem blocks29 : blocks code29 = [] := by kernel_rfl
theorem la29 (n : Nat) : LpAll (tb29 n) code29 := lpAll blocks29 (bl_nil) rfl (cs_no fun _ => rfl) (by kernel_rfl)
theorem ev29 (n : Nat) (x : pdens [.c true (.v false yP), .c true (.v false yX)]) : evSig (tb29 n) Try.f29 [.c true (.v false yP), .c true (.v false yX)] [.c false (.v true .bool)] x = F29 n x.1 x.2.1 := by kernel_rfl
theorem con29_ok (n : Nat) : Con.ok Try.prog 29 (con29 n) := conOf_ok (tb29_ok n) (body_la (by kernel_rfl : Try.f29.body = some code29) (la29 n)) Try.func29 (enters Try.func29 (by kernel_rfl) (by kernel_rfl)) rfl rfl (ev29 n)
end Go.Proofs.Ytdacfaincamliaa.Ev
