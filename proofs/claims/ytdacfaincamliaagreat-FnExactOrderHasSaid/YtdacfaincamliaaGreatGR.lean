/- Plain functions that the loaded code comes to, and that it does. Conditions: none. -/
import Derived.Test.YtdacfaincamliaaGreatGI
namespace Go.Proofs.YtdacfaincamliaaGreat.Ev
open Go Go.Proofs
/-! ### loop.example/fathomline/impl.isOrder -/
def F25 (n : Nat) (a0 : Int) : Option (rdens [.c false (.v true (.int .i64))] [.c false (.v true .bool)]) :=
  (F27 n (a0) ((1 : Int)) ((3 : Int))).bind fun y1 =>
  some (y1.fst, ())
noncomputable def con25 (n : Nat) : Con := conOf [.c false (.v true (.int .i64))] [.c false (.v true .bool)] fun x => F25 n x.1
noncomputable def tb25 (n : Nat) : Tb := ⟨tiOf Tryz.prog, conL [(27, con27 n)], n, [], 5, lpL [], ctL [], [], true⟩
noncomputable def code25 : Code := Tryz.f25.body.getD .skip
theorem tb25_ok (n : Nat) : (tb25 n).ok Tryz.prog := tbOk mixed (⟨con27_ok n, trivial⟩)
theorem blocks25 : blocks code25 = [] := by kernel_rfl
theorem la25 (n : Nat) : LpAll (tb25 n) code25 := lpAll blocks25 (bl_nil) rfl (cs_no fun _ => rfl) (by kernel_rfl)
theorem ev25 (n : Nat) (x : pdens [.c false (.v true (.int .i64))]) : evSig (tb25 n) Tryz.f25 [.c false (.v true (.int .i64))] [.c false (.v true .bool)] x = F25 n x.1 := by kernel_rfl
theorem con25_ok (n : Nat) : Con.ok Tryz.prog 25 (con25 n) := conOf_ok (tb25_ok n) (body_la (by kernel_rfl : Tryz.f25.body = some code25) (la25 n)) Tryz.func25 (enters Tryz.func25 (by kernel_rfl) (by kernel_rfl)) rfl rfl (ev25 n)
/-! ### (loop.example/fathomline/impl.scene).own -/
def F50 (n : Nat) (a0 : List (List (Int × Int × Int)) × List (Int × Int × Bool) × List (Int × Int × Int)) (a1 : Int) (a2 : Int) : Option (rdens [.c true (.v false (.pair (.rs 57 (.rs 72 (.pair (.int .i64) (.pair (.int .i64) (.int .i64))))) (.pair (.rs 76 (.pair (.int .i64) (.pair (.int .i64) .bool))) (.rs 72 (.pair (.int .i64) (.pair (.int .i64) (.int .i64))))))), .c false (.v true (.int .i64)), .c false (.v true (.int .i64))] [.c false (.v true .bool)]) :=
  cond (Decidable.decide (a1 < a2))
  (if (0 : Int) ≤ a1 then
   if a1 < (↑(List.length a0.snd.fst) : Int) then
   if (0 : Int) ≤ a2 then
   if a2 < (↑(List.length a0.snd.fst) : Int) then
   some ((List.getD a0.snd.fst a1.toNat ((0 : Int), (0 : Int), Bool.false)).fst == (List.getD a0.snd.fst a2.toNat ((0 : Int), (0 : Int), Bool.false)).fst, ())
   else none
   else none
   else none
   else none)
  (some (Bool.false, ()))
noncomputable def con50 (n : Nat) : Con := conOf [.c true (.v false (.pair (.rs 57 (.rs 72 (.pair (.int .i64) (.pair (.int .i64) (.int .i64))))) (.pair (.rs 76 (.pair (.int .i64) (.pair (.int .i64) .bool))) (.rs 72 (.pair (.int .i64) (.pair (.int .i64) (.int .i64))))))), .c false (.v true (.int .i64)), .c false (.v true (.int .i64))] [.c false (.v true .bool)] fun x => F50 n x.1 x.2.1 x.2.2.1
noncomputable def tb50 (n : Nat) : Tb := ⟨tiOf Tryz.prog, conL [], n, [], 25, lpL [], ctL [], [], true⟩
noncomputable def code50 : Code := Tryz.f50.body.getD .skip
theorem tb50_ok (n : Nat) : (tb50 n).ok Tryz.prog := tbOk mixed (trivial)
theorem blocks50 : blocks code50 = [] := by kernel_rfl
theorem la50 (n : Nat) : LpAll (tb50 n) code50 := lpAll blocks50 (bl_nil) rfl (cs_no fun _ => rfl) (by kernel_rfl)
theorem ev50 (n : Nat) (x : pdens [.c true (.v false (.pair (.rs 57 (.rs 72 (.pair (.int .i64) (.pair (.int .i64) (.int .i64))))) (.pair (.rs 76 (.pair (.int .i64) (.pair (.int .i64) .bool))) (.rs 72 (.pair (.int .i64) (.pair (.int .i64) (.int .i64))))))), .c false (.v true (.int .i64)), .c false (.v true (.int .i64))]) : evSig (tb50 n) Tryz.f50 [.c true (.v false (.pair (.rs 57 (.rs 72 (.pair (.int .i64) (.pair (.int .i64) (.int .i64))))) (.pair (.rs 76 (.pair (.int .i64) (.pair (.int .i64) .bool))) (.rs 72 (.pair (.int .i64) (.pair (.int .i64) (.int .i64))))))), .c false (.v true (.int .i64)), .c false (.v true (.int .i64))] [.c false (.v true .bool)] x = F50 n x.1 x.2.1 x.2.2.1 := by kernel_rfl
theorem con50_ok (n : Nat) : Con.ok Tryz.prog 50 (con50 n) := conOf_ok (tb50_ok n) (body_la (by kernel_rfl : Tryz.f50.body = some code50) (la50 n)) Tryz.func50 (enters Tryz.func50 (by kernel_rfl) (by kernel_rfl)) rfl rfl (ev50 n)
/-! ### (loop.example/fathomline/impl.scene).inside -/
def J71_6 (n : Nat) (x5 : Int) (x6 : (List (List (Int × Int × Int)) × List (Int × Int × Bool) × List (Int × Int × Int)) × Unit) (x7 : Int) (x8 : Int) : Option (odens [(.ret, [(4, (.c false (.v true (.int .i64)))), (5, (.c false (.v true (.int .i64)))), (6, (.c false (.v true .bool)))]), (.normal, [(1, (.c false (.v true (.int .i64)))), (2, (.b 59 [(.v false (.pair (.rs 57 (.rs 72 (.pair (.int .i64) (.pair (.int .i64) (.int .i64))))) (.pair (.rs 76 (.pair (.int .i64) (.pair (.int .i64) .bool))) (.rs 72 (.pair (.int .i64) (.pair (.int .i64) (.int .i64)))))))])), (4, (.c false (.v true (.int .i64)))), (7, (.c false (.v true (.int .i64))))])]) :=
    cond (Decidable.decide (Go.IntKind.i64.wrap (x7 - (1 : Int)) < (0 : Int)))
    (some (Sum.inl ((0 : Int), (0 : Int), Bool.false, ())))
    (if (0 : Int) ≤ Go.IntKind.i64.wrap (x7 - (1 : Int)) then
     if Go.IntKind.i64.wrap (x7 - (1 : Int)) < (↑(List.length x6.fst.snd.fst) : Int) then
     cond ((List.getD x6.fst.snd.fst (Go.IntKind.i64.wrap (x7 - (1 : Int))).toNat ((0 : Int), (0 : Int), Bool.false)).fst != x8)
     (some (Sum.inl ((0 : Int), (0 : Int), Bool.false, ())))
     (some (Sum.inr (Sum.inl (x5, ((x6.fst.fst, x6.fst.snd.fst, x6.fst.snd.snd), ()), Go.IntKind.i64.wrap (x7 - (1 : Int)), x8, ()))))
     else none
     else none)
def L71_0 (n : Nat) : Nat → Int → (List (List (Int × Int × Int)) × List (Int × Int × Bool) × List (Int × Int × Int)) × Unit → Int → Int → Option (odens [(.ret, [(4, (.c false (.v true (.int .i64)))), (5, (.c false (.v true (.int .i64)))), (6, (.c false (.v true .bool)))]), ((.exit 0), [(1, (.c false (.v true (.int .i64)))), (2, (.b 59 [(.v false (.pair (.rs 57 (.rs 72 (.pair (.int .i64) (.pair (.int .i64) (.int .i64))))) (.pair (.rs 76 (.pair (.int .i64) (.pair (.int .i64) .bool))) (.rs 72 (.pair (.int .i64) (.pair (.int .i64) (.int .i64)))))))])), (4, (.c false (.v true (.int .i64))))])])
  | 0, _, _, _, _ => none
  | m + 1, x1, x2, x3, x4 =>
    if (0 : Int) ≤ x3 then
    if x3 < (↑(List.length x2.fst.snd.snd) : Int) then
    cond ((List.getD x2.fst.snd.snd x3.toNat ((0 : Int), (0 : Int), (0 : Int))).fst != (7 : Int))
    (cond (x3 != x1)
     (if (0 : Int) ≤ x3 then
      if x3 < (↑(List.length x2.fst.snd.snd) : Int) then
      cond ((List.getD x2.fst.snd.snd x3.toNat ((0 : Int), (0 : Int), (0 : Int))).fst == (8 : Int))
      (some (Sum.inl ((0 : Int), (0 : Int), Bool.false, ())))
      (match J71_6 n (x1) (((x2.fst.fst, x2.fst.snd.fst, x2.fst.snd.snd), ())) (x3) (x4) with
       | none => none
       | some (Sum.inl v9) =>
        some (Sum.inl (v9.fst, v9.snd.fst, v9.snd.snd.fst, ()))
       | some (Sum.inr (Sum.inl v10)) =>
        L71_0 n m (v10.fst) (((v10.snd.fst.fst.fst, v10.snd.fst.fst.snd.fst, v10.snd.fst.fst.snd.snd), ())) (v10.snd.snd.fst) (v10.snd.snd.snd.fst))
      else none
      else none)
     (match J71_6 n (x1) (((x2.fst.fst, x2.fst.snd.fst, x2.fst.snd.snd), ())) (x3) (x4) with
      | none => none
      | some (Sum.inl v11) =>
       some (Sum.inl (v11.fst, v11.snd.fst, v11.snd.snd.fst, ()))
      | some (Sum.inr (Sum.inl v12)) =>
       L71_0 n m (v12.fst) (((v12.snd.fst.fst.fst, v12.snd.fst.fst.snd.fst, v12.snd.fst.fst.snd.snd), ())) (v12.snd.snd.fst) (v12.snd.snd.snd.fst)))
    (some (Sum.inr (Sum.inl (x1, ((x2.fst.fst, x2.fst.snd.fst, x2.fst.snd.snd), ()), x3, ()))))
    else none
    else none
def L71_2 (n : Nat) : Nat → Int → (List (List (Int × Int × Int)) × List (Int × Int × Bool) × List (Int × Int × Int)) × Unit → Int → Int → Option (odens [((.exit 2), [(1, (.c false (.v true (.int .i64)))), (4, (.c false (.v true (.int .i64)))), (5, (.c false (.v true (.int .i64))))])])
  | 0, _, _, _, _ => none
  | m + 1, x15, x16, x17, x18 =>
    if (0 : Int) ≤ x18 then
    if x18 < (↑(List.length x16.fst.snd.snd) : Int) then
    cond ((List.getD x16.fst.snd.snd x18.toNat ((0 : Int), (0 : Int), (0 : Int))).fst != (8 : Int))
    (L71_2 n m (x15) (((x16.fst.fst, x16.fst.snd.fst, x16.fst.snd.snd), ())) (x17) (Go.IntKind.i64.wrap (x18 + (1 : Int))))
    (some (Sum.inl (x15, x17, x18, ())))
    else none
    else none
def F71 (n : Nat) (a0 : List (List (Int × Int × Int)) × List (Int × Int × Bool) × List (Int × Int × Int)) (a1 : Int) : Option (rdens [.c true (.v false (.pair (.rs 57 (.rs 72 (.pair (.int .i64) (.pair (.int .i64) (.int .i64))))) (.pair (.rs 76 (.pair (.int .i64) (.pair (.int .i64) .bool))) (.rs 72 (.pair (.int .i64) (.pair (.int .i64) (.int .i64))))))), .c false (.v true (.int .i64))] [.c false (.v true (.int .i64)), .c false (.v true (.int .i64)), .c false (.v true .bool)]) :=
  if (0 : Int) ≤ a1 then
  if a1 < (↑(List.length a0.snd.fst) : Int) then
  match L71_0 n n (a1) (((a0.fst, a0.snd.fst, a0.snd.snd), ())) (a1) ((List.getD a0.snd.fst a1.toNat ((0 : Int), (0 : Int), Bool.false)).fst) with
  | none => none
  | some (Sum.inl v13) =>
   some (v13.fst, v13.snd.fst, v13.snd.snd.fst, ())
  | some (Sum.inr (Sum.inl v14)) =>
   match L71_2 n n (v14.fst) (((v14.snd.fst.fst.fst, v14.snd.fst.fst.snd.fst, v14.snd.fst.fst.snd.snd), ())) (v14.snd.snd.fst) (v14.snd.snd.fst) with
   | none => none
   | some (Sum.inl v19) =>
    some (v19.snd.fst, v19.snd.snd.fst, Decidable.decide (v19.fst ≤ v19.snd.snd.fst), ())
  else none
  else none
noncomputable def con71 (n : Nat) : Con := conOf [.c true (.v false (.pair (.rs 57 (.rs 72 (.pair (.int .i64) (.pair (.int .i64) (.int .i64))))) (.pair (.rs 76 (.pair (.int .i64) (.pair (.int .i64) .bool))) (.rs 72 (.pair (.int .i64) (.pair (.int .i64) (.int .i64))))))), .c false (.v true (.int .i64))] [.c false (.v true (.int .i64)), .c false (.v true (.int .i64)), .c false (.v true .bool)] fun x => F71 n x.1 x.2.1
noncomputable def tb71 (n : Nat) : Tb := ⟨tiOf Tryz.prog, conL [], n, [], 63, lpL [(0, ⟨[(1, (.c false (.v true (.int .i64)))), (2, (.b 59 [(.v false (.pair (.rs 57 (.rs 72 (.pair (.int .i64) (.pair (.int .i64) (.int .i64))))) (.pair (.rs 76 (.pair (.int .i64) (.pair (.int .i64) .bool))) (.rs 72 (.pair (.int .i64) (.pair (.int .i64) (.int .i64)))))))])), (4, (.c false (.v true (.int .i64)))), (7, (.c false (.v true (.int .i64))))], [(.ret, [(4, (.c false (.v true (.int .i64)))), (5, (.c false (.v true (.int .i64)))), (6, (.c false (.v true .bool)))]), ((.exit 0), [(1, (.c false (.v true (.int .i64)))), (2, (.b 59 [(.v false (.pair (.rs 57 (.rs 72 (.pair (.int .i64) (.pair (.int .i64) (.int .i64))))) (.pair (.rs 76 (.pair (.int .i64) (.pair (.int .i64) .bool))) (.rs 72 (.pair (.int .i64) (.pair (.int .i64) (.int .i64)))))))])), (4, (.c false (.v true (.int .i64))))])], fun m v => L71_0 n m v.1 v.2.1 v.2.2.1 v.2.2.2.1⟩), (2, ⟨[(1, (.c false (.v true (.int .i64)))), (2, (.b 59 [(.v false (.pair (.rs 57 (.rs 72 (.pair (.int .i64) (.pair (.int .i64) (.int .i64))))) (.pair (.rs 76 (.pair (.int .i64) (.pair (.int .i64) .bool))) (.rs 72 (.pair (.int .i64) (.pair (.int .i64) (.int .i64)))))))])), (4, (.c false (.v true (.int .i64)))), (5, (.c false (.v true (.int .i64))))], [((.exit 2), [(1, (.c false (.v true (.int .i64)))), (4, (.c false (.v true (.int .i64)))), (5, (.c false (.v true (.int .i64))))])], fun m v => L71_2 n m v.1 v.2.1 v.2.2.1 v.2.2.2.1⟩)], ctL [(6, ⟨[(1, (.c false (.v true (.int .i64)))), (2, (.b 59 [(.v false (.pair (.rs 57 (.rs 72 (.pair (.int .i64) (.pair (.int .i64) (.int .i64))))) (.pair (.rs 76 (.pair (.int .i64) (.pair (.int .i64) .bool))) (.rs 72 (.pair (.int .i64) (.pair (.int .i64) (.int .i64)))))))])), (4, (.c false (.v true (.int .i64)))), (7, (.c false (.v true (.int .i64))))], [(.ret, [(4, (.c false (.v true (.int .i64)))), (5, (.c false (.v true (.int .i64)))), (6, (.c false (.v true .bool)))]), (.normal, [(1, (.c false (.v true (.int .i64)))), (2, (.b 59 [(.v false (.pair (.rs 57 (.rs 72 (.pair (.int .i64) (.pair (.int .i64) (.int .i64))))) (.pair (.rs 76 (.pair (.int .i64) (.pair (.int .i64) .bool))) (.rs 72 (.pair (.int .i64) (.pair (.int .i64) (.int .i64)))))))])), (4, (.c false (.v true (.int .i64)))), (7, (.c false (.v true (.int .i64))))])], fun v => J71_6 n v.1 v.2.1 v.2.2.1 v.2.2.2.1⟩)], [], true⟩
noncomputable def code71 : Code := Tryz.f71.body.getD .skip
theorem tb71_ok (n : Nat) : (tb71 n).ok Tryz.prog := tbOk mixed (trivial)
theorem lp71_0 (n : Nat) : LpAt (tb71 n) (loopBody code71 0) 0 := lpAt rfl (fun _ => by kernel_rfl) (fun _ _ => by kernel_rfl)
theorem lp71_2 (n : Nat) : LpAt (tb71 n) (loopBody code71 2) 2 := lpAt rfl (fun _ => by kernel_rfl) (fun _ _ => by kernel_rfl)
theorem blocks71 : blocks code71 = [(0, .loop (loopBody code71 0)), (1, blockBody code71 1), (2, .loop (loopBody code71 2)), (3, blockBody code71 3)] := by kernel_rfl
theorem ct71_6 (n : Nat) : CtOk (tb71 n) (sec code71 6).2 ⟨[(1, (.c false (.v true (.int .i64)))), (2, (.b 59 [(.v false (.pair (.rs 57 (.rs 72 (.pair (.int .i64) (.pair (.int .i64) (.int .i64))))) (.pair (.rs 76 (.pair (.int .i64) (.pair (.int .i64) .bool))) (.rs 72 (.pair (.int .i64) (.pair (.int .i64) (.int .i64)))))))])), (4, (.c false (.v true (.int .i64)))), (7, (.c false (.v true (.int .i64))))], [(.ret, [(4, (.c false (.v true (.int .i64)))), (5, (.c false (.v true (.int .i64)))), (6, (.c false (.v true .bool)))]), (.normal, [(1, (.c false (.v true (.int .i64)))), (2, (.b 59 [(.v false (.pair (.rs 57 (.rs 72 (.pair (.int .i64) (.pair (.int .i64) (.int .i64))))) (.pair (.rs 76 (.pair (.int .i64) (.pair (.int .i64) .bool))) (.rs 72 (.pair (.int .i64) (.pair (.int .i64) (.int .i64)))))))])), (4, (.c false (.v true (.int .i64)))), (7, (.c false (.v true (.int .i64))))])], fun v => J71_6 n v.1 v.2.1 v.2.2.1 v.2.2.2.1⟩ := fun _ => by kernel_rfl
theorem secs71 : seconds code71 = [(some 1, (sec code71 0).2), (some 2, (sec code71 1).2), (some 3, (sec code71 2).2), (some 9, (sec code71 3).2), (some 4, (sec code71 4).2), (none, (sec code71 5).2), (some 6, (sec code71 6).2), (none, (sec code71 7).2), (none, (sec code71 8).2), (some 7, (sec code71 9).2), (none, (sec code71 10).2), (none, (sec code71 11).2), (some 10, (sec code71 12).2), (some 12, (sec code71 13).2), (some 11, (sec code71 14).2), (none, (sec code71 15).2), (none, (sec code71 16).2)] := by kernel_rfl
theorem la71 (n : Nat) : LpAll (tb71 n) code71 := lpAll blocks71 (bl_loop (lp71_0 n) (bl_none rfl (bl_loop (lp71_2 n) (bl_none rfl (bl_nil))))) secs71 (cs_none rfl (cs_none rfl (cs_none rfl (cs_none rfl (cs_none rfl (cs_none rfl (cs_one rfl (ct71_6 n) (cs_none rfl (cs_none rfl (cs_none rfl (cs_none rfl (cs_none rfl (cs_none rfl (cs_none rfl (cs_none rfl (cs_none rfl (cs_none rfl (cs_nil)))))))))))))))))) (by kernel_rfl)
theorem ev71 (n : Nat) (x : pdens [.c true (.v false (.pair (.rs 57 (.rs 72 (.pair (.int .i64) (.pair (.int .i64) (.int .i64))))) (.pair (.rs 76 (.pair (.int .i64) (.pair (.int .i64) .bool))) (.rs 72 (.pair (.int .i64) (.pair (.int .i64) (.int .i64))))))), .c false (.v true (.int .i64))]) : evSig (tb71 n) Tryz.f71 [.c true (.v false (.pair (.rs 57 (.rs 72 (.pair (.int .i64) (.pair (.int .i64) (.int .i64))))) (.pair (.rs 76 (.pair (.int .i64) (.pair (.int .i64) .bool))) (.rs 72 (.pair (.int .i64) (.pair (.int .i64) (.int .i64))))))), .c false (.v true (.int .i64))] [.c false (.v true (.int .i64)), .c false (.v true (.int .i64)), .c false (.v true .bool)] x = F71 n x.1 x.2.1 := by kernel_rfl
theorem con71_ok (n : Nat) : Con.ok Tryz.prog 71 (con71 n) := conOf_ok (tb71_ok n) (body_la (by kernel_rfl : Tryz.f71.body = some code71) (la71 n)) Tryz.func71 (enters Tryz.func71 (by kernel_rfl) (by kernel_rfl)) rfl rfl (ev71 n)
/-! ### (loop.example/fathomline/impl.scene).over -/
def J51_8 (n : Nat) (x9 : Int) (x10 : List Int) (x11 : Int) : Option (odens [(.ret, [(8, (.c false (.v true .bool)))])]) :=
    (F69 n (x10) (x11)).bind fun y12 =>
    (F69 n (x10) (x9)).bind fun y13 =>
    some (Sum.inl (Decidable.decide (y12.fst < y13.fst), ()))
def J51_4 (n : Nat) (x3 : Int) (x4 : Int) (x5 : (List Int × List (List Int)) × Unit) (x6 : (Int × Int × Int) × Unit) (x7 : (Int × Int × Int) × Unit) : Option (odens [(.ret, [(8, (.c false (.v true .bool)))])]) :=
    if (0 : Int) ≤ x7.fst.snd.fst then
    if x7.fst.snd.fst < (↑(List.length x5.fst.snd) : Int) then
    (F53 n ((x6.fst.fst, x6.fst.snd.fst, x6.fst.snd.snd))).bind fun y8 =>
    cond (y8.fst)
    (if (0 : Int) ≤ x3 then
     if x3 < (↑(List.length x5.fst.fst) : Int) then
     match J51_8 n (x4) (List.getD x5.fst.snd (Int.toNat x7.fst.snd.fst) []) (List.getD x5.fst.fst x3.toNat (0 : Int)) with
     | none => none
     | some (Sum.inl v14) =>
      some (Sum.inl (v14.fst, ()))
     else none
     else none)
    (match J51_8 n (x4) (List.getD x5.fst.snd (Int.toNat x7.fst.snd.fst) []) (x3) with
     | none => none
     | some (Sum.inl v15) =>
      some (Sum.inl (v15.fst, ())))
    else none
    else none
def F51 (n : Nat) (a0 : List (List (Int × Int × Int)) × List (Int × Int × Bool) × List (Int × Int × Int)) (a1 : List Int × List (List Int)) (a2 : Int) (a3 : Int) : Option (rdens [.c true (.v false (.pair (.rs 57 (.rs 72 (.pair (.int .i64) (.pair (.int .i64) (.int .i64))))) (.pair (.rs 76 (.pair (.int .i64) (.pair (.int .i64) .bool))) (.rs 72 (.pair (.int .i64) (.pair (.int .i64) (.int .i64))))))), .c true (.v false (.pair (.rs 3 (.int .i64)) (.rs 25 (.rs 3 (.int .i64))))), .c false (.v true (.int .i64)), .c false (.v true (.int .i64))] [.c false (.v true .bool)]) :=
  if (0 : Int) ≤ a2 then
  if a2 < (↑(List.length a0.snd.snd) : Int) then
  if (0 : Int) ≤ a3 then
  if a3 < (↑(List.length a0.snd.snd) : Int) then
  cond (a2 == a3)
  (some (Bool.false, ()))
  ((F66 n (((List.getD a0.snd.snd a2.toNat ((0 : Int), (0 : Int), (0 : Int))).fst, (List.getD a0.snd.snd a2.toNat ((0 : Int), (0 : Int), (0 : Int))).snd.fst, (List.getD a0.snd.snd a2.toNat ((0 : Int), (0 : Int), (0 : Int))).snd.snd))).bind fun y1 =>
   cond (!y1.fst)
   (some (Bool.false, ()))
   ((F52 n (((List.getD a0.snd.snd a3.toNat ((0 : Int), (0 : Int), (0 : Int))).fst, (List.getD a0.snd.snd a3.toNat ((0 : Int), (0 : Int), (0 : Int))).snd.fst, (List.getD a0.snd.snd a3.toNat ((0 : Int), (0 : Int), (0 : Int))).snd.snd))).bind fun y2 =>
    cond (!y2.fst)
    (some (Bool.false, ()))
    (cond ((List.getD a0.snd.snd a2.toNat ((0 : Int), (0 : Int), (0 : Int))).snd.fst != (List.getD a0.snd.snd a3.toNat ((0 : Int), (0 : Int), (0 : Int))).snd.fst)
     (some (Bool.false, ()))
     (match J51_4 n (a2) (a3) (((a1.fst, a1.snd), ())) ((((List.getD a0.snd.snd a2.toNat ((0 : Int), (0 : Int), (0 : Int))).fst, (List.getD a0.snd.snd a2.toNat ((0 : Int), (0 : Int), (0 : Int))).snd.fst, (List.getD a0.snd.snd a2.toNat ((0 : Int), (0 : Int), (0 : Int))).snd.snd), ())) ((((List.getD a0.snd.snd a3.toNat ((0 : Int), (0 : Int), (0 : Int))).fst, (List.getD a0.snd.snd a3.toNat ((0 : Int), (0 : Int), (0 : Int))).snd.fst, (List.getD a0.snd.snd a3.toNat ((0 : Int), (0 : Int), (0 : Int))).snd.snd), ())) with
      | none => none
      | some (Sum.inl v16) =>
       some (v16.fst, ())))))
  else none
  else none
  else none
  else none
noncomputable def con51 (n : Nat) : Con := conOf [.c true (.v false (.pair (.rs 57 (.rs 72 (.pair (.int .i64) (.pair (.int .i64) (.int .i64))))) (.pair (.rs 76 (.pair (.int .i64) (.pair (.int .i64) .bool))) (.rs 72 (.pair (.int .i64) (.pair (.int .i64) (.int .i64))))))), .c true (.v false (.pair (.rs 3 (.int .i64)) (.rs 25 (.rs 3 (.int .i64))))), .c false (.v true (.int .i64)), .c false (.v true (.int .i64))] [.c false (.v true .bool)] fun x => F51 n x.1 x.2.1 x.2.2.1 x.2.2.2.1
noncomputable def tb51 (n : Nat) : Tb := ⟨tiOf Tryz.prog, conL [(66, con66 n), (52, con52 n), (53, con53 n), (69, con69 n)], n, [], 64, lpL [], ctL [(8, ⟨[(3, (.c false (.v true (.int .i64)))), (11, (.c false (.v false (.rs 3 (.int .i64))))), (12, (.c false (.v true (.int .i64))))], [(.ret, [(8, (.c false (.v true .bool)))])], fun v => J51_8 n v.1 v.2.1 v.2.2.1⟩), (4, ⟨[(2, (.c false (.v true (.int .i64)))), (3, (.c false (.v true (.int .i64)))), (5, (.b 36 [(.v false (.pair (.rs 3 (.int .i64)) (.rs 25 (.rs 3 (.int .i64)))))])), (9, (.b 72 [(.v true (.pair (.int .i64) (.pair (.int .i64) (.int .i64))))])), (10, (.b 72 [(.v true (.pair (.int .i64) (.pair (.int .i64) (.int .i64))))]))], [(.ret, [(8, (.c false (.v true .bool)))])], fun v => J51_4 n v.1 v.2.1 v.2.2.1 v.2.2.2.1 v.2.2.2.2.1⟩)], [], true⟩
noncomputable def code51 : Code := Tryz.f51.body.getD .skip
theorem tb51_ok (n : Nat) : (tb51 n).ok Tryz.prog := tbOk mixed (⟨con66_ok n, ⟨con52_ok n, ⟨con53_ok n, ⟨con69_ok n, trivial⟩⟩⟩⟩)
theorem blocks51 : blocks code51 = [] := by kernel_rfl
theorem ct51_4 (n : Nat) : CtOk (tb51 n) (sec code51 2).2 ⟨[(2, (.c false (.v true (.int .i64)))), (3, (.c false (.v true (.int .i64)))), (5, (.b 36 [(.v false (.pair (.rs 3 (.int .i64)) (.rs 25 (.rs 3 (.int .i64)))))])), (9, (.b 72 [(.v true (.pair (.int .i64) (.pair (.int .i64) (.int .i64))))])), (10, (.b 72 [(.v true (.pair (.int .i64) (.pair (.int .i64) (.int .i64))))]))], [(.ret, [(8, (.c false (.v true .bool)))])], fun v => J51_4 n v.1 v.2.1 v.2.2.1 v.2.2.2.1 v.2.2.2.2.1⟩ := fun _ => by kernel_rfl
theorem ct51_8 (n : Nat) : CtOk (tb51 n) (sec code51 7).2 ⟨[(3, (.c false (.v true (.int .i64)))), (11, (.c false (.v false (.rs 3 (.int .i64))))), (12, (.c false (.v true (.int .i64))))], [(.ret, [(8, (.c false (.v true .bool)))])], fun v => J51_8 n v.1 v.2.1 v.2.2.1⟩ := fun _ => by kernel_rfl
theorem secs51 : seconds code51 = [(some 1, (sec code51 0).2), (some 2, (sec code51 1).2), (some 4, (sec code51 2).2), (none, (sec code51 3).2), (none, (sec code51 4).2), (some 5, (sec code51 5).2), (some 6, (sec code51 6).2), (some 8, (sec code51 7).2), (none, (sec code51 8).2), (none, (sec code51 9).2)] := by kernel_rfl
theorem la51 (n : Nat) : LpAll (tb51 n) code51 := lpAll blocks51 (bl_nil) secs51 (cs_none rfl (cs_none rfl (cs_one rfl (ct51_4 n) (cs_none rfl (cs_none rfl (cs_none rfl (cs_none rfl (cs_one rfl (ct51_8 n) (cs_none rfl (cs_none rfl (cs_nil))))))))))) (by kernel_rfl)
theorem ev51 (n : Nat) (x : pdens [.c true (.v false (.pair (.rs 57 (.rs 72 (.pair (.int .i64) (.pair (.int .i64) (.int .i64))))) (.pair (.rs 76 (.pair (.int .i64) (.pair (.int .i64) .bool))) (.rs 72 (.pair (.int .i64) (.pair (.int .i64) (.int .i64))))))), .c true (.v false (.pair (.rs 3 (.int .i64)) (.rs 25 (.rs 3 (.int .i64))))), .c false (.v true (.int .i64)), .c false (.v true (.int .i64))]) : evSig (tb51 n) Tryz.f51 [.c true (.v false (.pair (.rs 57 (.rs 72 (.pair (.int .i64) (.pair (.int .i64) (.int .i64))))) (.pair (.rs 76 (.pair (.int .i64) (.pair (.int .i64) .bool))) (.rs 72 (.pair (.int .i64) (.pair (.int .i64) (.int .i64))))))), .c true (.v false (.pair (.rs 3 (.int .i64)) (.rs 25 (.rs 3 (.int .i64))))), .c false (.v true (.int .i64)), .c false (.v true (.int .i64))] [.c false (.v true .bool)] x = F51 n x.1 x.2.1 x.2.2.1 x.2.2.2.1 := by kernel_rfl
theorem con51_ok (n : Nat) : Con.ok Tryz.prog 51 (con51 n) := conOf_ok (tb51_ok n) (body_la (by kernel_rfl : Tryz.f51.body = some code51) (la51 n)) Tryz.func51 (enters Tryz.func51 (by kernel_rfl) (by kernel_rfl)) rfl rfl (ev51 n)
/-! ### (loop.example/fathomline/impl.scene).loose -/
def J54_10 (n : Nat) (x7 : Int) (x8 : Int) (x9 : (List (List (Int × Int × Int)) × List (Int × Int × Bool) × List (Int × Int × Int)) × Unit) (x10 : (Int × Int × Int) × Unit) : Option (odens [(.ret, [(6, (.c false (.v true .bool)))])]) :=
    (F71 n ((x9.fst.fst, x9.fst.snd.fst, x9.fst.snd.snd)) (x7)).bind fun y11 =>
    cond (y11.snd.snd.fst)
    (cond (Decidable.decide (y11.fst ≤ x7))
     (cond (Decidable.decide (x8 ≤ y11.snd.fst))
      (cond (x10.fst.fst == (7 : Int))
       (some (Sum.inl (Bool.true, ())))
       (some (Sum.inl (x8 == y11.snd.fst, ()))))
      (some (Sum.inl (Bool.false, ()))))
     (some (Sum.inl (Bool.false, ()))))
    (some (Sum.inl (Bool.false, ())))
def J54_8 (n : Nat) (x2 : Int) (x3 : Int) (x4 : (List (List (Int × Int × Int)) × List (Int × Int × Bool) × List (Int × Int × Int)) × Unit) (x5 : (Int × Int × Int) × Unit) (x6 : (Int × Int × Int) × Unit) : Option (odens [(.ret, [(6, (.c false (.v true .bool)))])]) :=
    cond (x5.fst.fst != (7 : Int))
    (cond (x6.fst.fst != (8 : Int))
     (some (Sum.inl (Bool.false, ())))
     (match J54_10 n (x2) (x3) (((x4.fst.fst, x4.fst.snd.fst, x4.fst.snd.snd), ())) (((x5.fst.fst, x5.fst.snd.fst, x5.fst.snd.snd), ())) with
      | none => none
      | some (Sum.inl v12) =>
       some (Sum.inl (v12.fst, ()))))
    (match J54_10 n (x2) (x3) (((x4.fst.fst, x4.fst.snd.fst, x4.fst.snd.snd), ())) (((x5.fst.fst, x5.fst.snd.fst, x5.fst.snd.snd), ())) with
     | none => none
     | some (Sum.inl v13) =>
      some (Sum.inl (v13.fst, ())))
def F54 (n : Nat) (a0 : List (List (Int × Int × Int)) × List (Int × Int × Bool) × List (Int × Int × Int)) (a1 : Int) (a2 : Int) : Option (rdens [.c true (.v false (.pair (.rs 57 (.rs 72 (.pair (.int .i64) (.pair (.int .i64) (.int .i64))))) (.pair (.rs 76 (.pair (.int .i64) (.pair (.int .i64) .bool))) (.rs 72 (.pair (.int .i64) (.pair (.int .i64) (.int .i64))))))), .c false (.v true (.int .i64)), .c false (.v true (.int .i64))] [.c false (.v true .bool)]) :=
  if (0 : Int) ≤ a1 then
  if a1 < (↑(List.length a0.snd.snd) : Int) then
  if (0 : Int) ≤ a2 then
  if a2 < (↑(List.length a0.snd.snd) : Int) then
  cond ((List.getD a0.snd.snd a1.toNat ((0 : Int), (0 : Int), (0 : Int))).fst == (4 : Int))
  (some (Bool.true, ()))
  (cond ((List.getD a0.snd.snd a1.toNat ((0 : Int), (0 : Int), (0 : Int))).fst == (9 : Int))
   (some (Bool.true, ()))
   (cond ((List.getD a0.snd.snd a2.toNat ((0 : Int), (0 : Int), (0 : Int))).fst == (4 : Int))
    (some (Bool.true, ()))
    (cond ((List.getD a0.snd.snd a2.toNat ((0 : Int), (0 : Int), (0 : Int))).fst == (9 : Int))
     (some (Bool.true, ()))
     (cond ((List.getD a0.snd.snd a1.toNat ((0 : Int), (0 : Int), (0 : Int))).fst == (5 : Int))
      (some (Bool.true, ()))
      (cond ((List.getD a0.snd.snd a2.toNat ((0 : Int), (0 : Int), (0 : Int))).fst == (6 : Int))
       (some (Bool.true, ()))
       (cond ((List.getD a0.snd.snd a2.toNat ((0 : Int), (0 : Int), (0 : Int))).fst == (3 : Int))
        ((F70 n ((a0.fst, a0.snd.fst, a0.snd.snd)) (a2)).bind fun y1 =>
         cond (y1.fst == a1)
         (some (Bool.true, ()))
         (match J54_8 n (a1) (a2) (((a0.fst, a0.snd.fst, a0.snd.snd), ())) ((((List.getD a0.snd.snd a1.toNat ((0 : Int), (0 : Int), (0 : Int))).fst, (List.getD a0.snd.snd a1.toNat ((0 : Int), (0 : Int), (0 : Int))).snd.fst, (List.getD a0.snd.snd a1.toNat ((0 : Int), (0 : Int), (0 : Int))).snd.snd), ())) ((((List.getD a0.snd.snd a2.toNat ((0 : Int), (0 : Int), (0 : Int))).fst, (List.getD a0.snd.snd a2.toNat ((0 : Int), (0 : Int), (0 : Int))).snd.fst, (List.getD a0.snd.snd a2.toNat ((0 : Int), (0 : Int), (0 : Int))).snd.snd), ())) with
          | none => none
          | some (Sum.inl v14) =>
           some (v14.fst, ())))
        (match J54_8 n (a1) (a2) (((a0.fst, a0.snd.fst, a0.snd.snd), ())) ((((List.getD a0.snd.snd a1.toNat ((0 : Int), (0 : Int), (0 : Int))).fst, (List.getD a0.snd.snd a1.toNat ((0 : Int), (0 : Int), (0 : Int))).snd.fst, (List.getD a0.snd.snd a1.toNat ((0 : Int), (0 : Int), (0 : Int))).snd.snd), ())) ((((List.getD a0.snd.snd a2.toNat ((0 : Int), (0 : Int), (0 : Int))).fst, (List.getD a0.snd.snd a2.toNat ((0 : Int), (0 : Int), (0 : Int))).snd.fst, (List.getD a0.snd.snd a2.toNat ((0 : Int), (0 : Int), (0 : Int))).snd.snd), ())) with
         | none => none
         | some (Sum.inl v15) =>
          some (v15.fst, ()))))))))
  else none
  else none
  else none
  else none
noncomputable def con54 (n : Nat) : Con := conOf [.c true (.v false (.pair (.rs 57 (.rs 72 (.pair (.int .i64) (.pair (.int .i64) (.int .i64))))) (.pair (.rs 76 (.pair (.int .i64) (.pair (.int .i64) .bool))) (.rs 72 (.pair (.int .i64) (.pair (.int .i64) (.int .i64))))))), .c false (.v true (.int .i64)), .c false (.v true (.int .i64))] [.c false (.v true .bool)] fun x => F54 n x.1 x.2.1 x.2.2.1
noncomputable def tb54 (n : Nat) : Tb := ⟨tiOf Tryz.prog, conL [(70, con70 n), (71, con71 n)], n, [], 97, lpL [], ctL [(10, ⟨[(1, (.c false (.v true (.int .i64)))), (2, (.c false (.v true (.int .i64)))), (3, (.b 59 [(.v false (.pair (.rs 57 (.rs 72 (.pair (.int .i64) (.pair (.int .i64) (.int .i64))))) (.pair (.rs 76 (.pair (.int .i64) (.pair (.int .i64) .bool))) (.rs 72 (.pair (.int .i64) (.pair (.int .i64) (.int .i64)))))))])), (7, (.b 72 [(.v true (.pair (.int .i64) (.pair (.int .i64) (.int .i64))))]))], [(.ret, [(6, (.c false (.v true .bool)))])], fun v => J54_10 n v.1 v.2.1 v.2.2.1 v.2.2.2.1⟩), (8, ⟨[(1, (.c false (.v true (.int .i64)))), (2, (.c false (.v true (.int .i64)))), (3, (.b 59 [(.v false (.pair (.rs 57 (.rs 72 (.pair (.int .i64) (.pair (.int .i64) (.int .i64))))) (.pair (.rs 76 (.pair (.int .i64) (.pair (.int .i64) .bool))) (.rs 72 (.pair (.int .i64) (.pair (.int .i64) (.int .i64)))))))])), (7, (.b 72 [(.v true (.pair (.int .i64) (.pair (.int .i64) (.int .i64))))])), (8, (.b 72 [(.v true (.pair (.int .i64) (.pair (.int .i64) (.int .i64))))]))], [(.ret, [(6, (.c false (.v true .bool)))])], fun v => J54_8 n v.1 v.2.1 v.2.2.1 v.2.2.2.1 v.2.2.2.2.1⟩)], [], true⟩
noncomputable def code54 : Code := Tryz.f54.body.getD .skip
theorem tb54_ok (n : Nat) : (tb54 n).ok Tryz.prog := tbOk mixed (⟨con70_ok n, ⟨con71_ok n, trivial⟩⟩)
theorem blocks54 : blocks code54 = [(0, blockBody code54 0)] := by kernel_rfl
theorem ct54_8 (n : Nat) : CtOk (tb54 n) (sec code54 2).2 ⟨[(1, (.c false (.v true (.int .i64)))), (2, (.c false (.v true (.int .i64)))), (3, (.b 59 [(.v false (.pair (.rs 57 (.rs 72 (.pair (.int .i64) (.pair (.int .i64) (.int .i64))))) (.pair (.rs 76 (.pair (.int .i64) (.pair (.int .i64) .bool))) (.rs 72 (.pair (.int .i64) (.pair (.int .i64) (.int .i64)))))))])), (7, (.b 72 [(.v true (.pair (.int .i64) (.pair (.int .i64) (.int .i64))))])), (8, (.b 72 [(.v true (.pair (.int .i64) (.pair (.int .i64) (.int .i64))))]))], [(.ret, [(6, (.c false (.v true .bool)))])], fun v => J54_8 n v.1 v.2.1 v.2.2.1 v.2.2.2.1 v.2.2.2.2.1⟩ := fun _ => by kernel_rfl
theorem ct54_10 (n : Nat) : CtOk (tb54 n) (sec code54 9).2 ⟨[(1, (.c false (.v true (.int .i64)))), (2, (.c false (.v true (.int .i64)))), (3, (.b 59 [(.v false (.pair (.rs 57 (.rs 72 (.pair (.int .i64) (.pair (.int .i64) (.int .i64))))) (.pair (.rs 76 (.pair (.int .i64) (.pair (.int .i64) .bool))) (.rs 72 (.pair (.int .i64) (.pair (.int .i64) (.int .i64)))))))])), (7, (.b 72 [(.v true (.pair (.int .i64) (.pair (.int .i64) (.int .i64))))]))], [(.ret, [(6, (.c false (.v true .bool)))])], fun v => J54_10 n v.1 v.2.1 v.2.2.1 v.2.2.2.1⟩ := fun _ => by kernel_rfl
theorem secs54 : seconds code54 = [(some 1, (sec code54 0).2), (some 2, (sec code54 1).2), (some 8, (sec code54 2).2), (none, (sec code54 3).2), (none, (sec code54 4).2), (none, (sec code54 5).2), (none, (sec code54 6).2), (none, (sec code54 7).2), (none, (sec code54 8).2), (some 10, (sec code54 9).2), (none, (sec code54 10).2), (none, (sec code54 11).2), (some 11, (sec code54 12).2), (none, (sec code54 13).2)] := by kernel_rfl
theorem la54 (n : Nat) : LpAll (tb54 n) code54 := lpAll blocks54 (bl_none rfl (bl_nil)) secs54 (cs_none rfl (cs_none rfl (cs_one rfl (ct54_8 n) (cs_none rfl (cs_none rfl (cs_none rfl (cs_none rfl (cs_none rfl (cs_none rfl (cs_one rfl (ct54_10 n) (cs_none rfl (cs_none rfl (cs_none rfl (cs_none rfl (cs_nil))))))))))))))) (by kernel_rfl)
theorem ev54 (n : Nat) (x : pdens [.c true (.v false (.pair (.rs 57 (.rs 72 (.pair (.int .i64) (.pair (.int .i64) (.int .i64))))) (.pair (.rs 76 (.pair (.int .i64) (.pair (.int .i64) .bool))) (.rs 72 (.pair (.int .i64) (.pair (.int .i64) (.int .i64))))))), .c false (.v true (.int .i64)), .c false (.v true (.int .i64))]) : evSig (tb54 n) Tryz.f54 [.c true (.v false (.pair (.rs 57 (.rs 72 (.pair (.int .i64) (.pair (.int .i64) (.int .i64))))) (.pair (.rs 76 (.pair (.int .i64) (.pair (.int .i64) .bool))) (.rs 72 (.pair (.int .i64) (.pair (.int .i64) (.int .i64))))))), .c false (.v true (.int .i64)), .c false (.v true (.int .i64))] [.c false (.v true .bool)] x = F54 n x.1 x.2.1 x.2.2.1 := by kernel_rfl
theorem con54_ok (n : Nat) : Con.ok Tryz.prog 54 (con54 n) := conOf_ok (tb54_ok n) (body_la (by kernel_rfl : Tryz.f54.body = some code54) (la54 n)) Tryz.func54 (enters Tryz.func54 (by kernel_rfl) (by kernel_rfl)) rfl rfl (ev54 n)
/-! ### (loop.example/fathomline/impl.scene).has -/
def F28 (n : Nat) (a0 : List (List (Int × Int × Int)) × List (Int × Int × Bool) × List (Int × Int × Int)) (a1 : List Int × List (List Int)) (a2 : Int) (a3 : Int) (a4 : Int) : Option (rdens [.c true (.v false (.pair (.rs 57 (.rs 72 (.pair (.int .i64) (.pair (.int .i64) (.int .i64))))) (.pair (.rs 76 (.pair (.int .i64) (.pair (.int .i64) .bool))) (.rs 72 (.pair (.int .i64) (.pair (.int .i64) (.int .i64))))))), .c true (.v false (.pair (.rs 3 (.int .i64)) (.rs 25 (.rs 3 (.int .i64))))), .c false (.v true (.int .i64)), .c false (.v true (.int .i64)), .c false (.v true (.int .i64))] [.c false (.v true .bool)]) :=
  if (0 : Int) ≤ a4 then
  if a4 < (↑(List.length a1.fst) : Int) then
  (F50 n ((a0.fst, a0.snd.fst, a0.snd.snd)) (a3) (a4)).bind fun y1 =>
  (F51 n ((a0.fst, a0.snd.fst, a0.snd.snd)) ((a1.fst, a1.snd)) (a3) (a4)).bind fun y2 =>
  if (0 : Int) ≤ a3 then
  if a3 < (↑(List.length a0.snd.fst) : Int) then
  if (0 : Int) ≤ a4 then
  if a4 < (↑(List.length a0.snd.fst) : Int) then
  cond (a2 == (1 : Int))
  (cond (y1.fst)
   (some (Bool.true, ()))
   (cond (List.getD a1.fst a4.toNat (0 : Int) == a3)
    (some (Bool.true, ()))
    (some (y2.fst, ()))))
  (cond (a2 == (2 : Int))
   (cond (y1.fst)
    (if (0 : Int) ≤ a3 then
     if a3 < (↑(List.length a0.snd.snd) : Int) then
     (F52 n (((List.getD a0.snd.snd a3.toNat ((0 : Int), (0 : Int), (0 : Int))).fst, (List.getD a0.snd.snd a3.toNat ((0 : Int), (0 : Int), (0 : Int))).snd.fst, (List.getD a0.snd.snd a3.toNat ((0 : Int), (0 : Int), (0 : Int))).snd.snd))).bind fun y3 =>
     cond (y3.fst)
     (if (0 : Int) ≤ a4 then
      if a4 < (↑(List.length a0.snd.snd) : Int) then
      (F53 n (((List.getD a0.snd.snd a4.toNat ((0 : Int), (0 : Int), (0 : Int))).fst, (List.getD a0.snd.snd a4.toNat ((0 : Int), (0 : Int), (0 : Int))).snd.fst, (List.getD a0.snd.snd a4.toNat ((0 : Int), (0 : Int), (0 : Int))).snd.snd))).bind fun y4 =>
      cond (!y4.fst)
      (some (Bool.true, ()))
      (cond (List.getD a1.fst a4.toNat (0 : Int) == a3)
       (cond ((List.getD a0.snd.fst a3.toNat ((0 : Int), (0 : Int), Bool.false)).fst != (List.getD a0.snd.fst a4.toNat ((0 : Int), (0 : Int), Bool.false)).fst)
        (some (Bool.true, ()))
        (some (y2.fst, ())))
       (some (y2.fst, ())))
      else none
      else none)
     (some (Bool.true, ()))
     else none
     else none)
    (cond (List.getD a1.fst a4.toNat (0 : Int) == a3)
     (cond ((List.getD a0.snd.fst a3.toNat ((0 : Int), (0 : Int), Bool.false)).fst != (List.getD a0.snd.fst a4.toNat ((0 : Int), (0 : Int), Bool.false)).fst)
      (some (Bool.true, ()))
      (some (y2.fst, ())))
     (some (y2.fst, ()))))
   (cond (y1.fst)
    ((F54 n ((a0.fst, a0.snd.fst, a0.snd.snd)) (a3) (a4)).bind fun y5 =>
     cond (y5.fst)
     (some (Bool.true, ()))
     (cond (List.getD a1.fst a4.toNat (0 : Int) == a3)
      (some ((List.getD a0.snd.fst a3.toNat ((0 : Int), (0 : Int), Bool.false)).fst != (List.getD a0.snd.fst a4.toNat ((0 : Int), (0 : Int), Bool.false)).fst, ()))
      (cond (y2.fst)
       (some ((List.getD a0.snd.fst a3.toNat ((0 : Int), (0 : Int), Bool.false)).fst != (List.getD a0.snd.fst a4.toNat ((0 : Int), (0 : Int), Bool.false)).fst, ()))
       (some (Bool.false, ())))))
    (cond (List.getD a1.fst a4.toNat (0 : Int) == a3)
     (some ((List.getD a0.snd.fst a3.toNat ((0 : Int), (0 : Int), Bool.false)).fst != (List.getD a0.snd.fst a4.toNat ((0 : Int), (0 : Int), Bool.false)).fst, ()))
     (cond (y2.fst)
      (some ((List.getD a0.snd.fst a3.toNat ((0 : Int), (0 : Int), Bool.false)).fst != (List.getD a0.snd.fst a4.toNat ((0 : Int), (0 : Int), Bool.false)).fst, ()))
      (some (Bool.false, ()))))))
  else none
  else none
  else none
  else none
  else none
  else none
noncomputable def con28 (n : Nat) : Con := conOf [.c true (.v false (.pair (.rs 57 (.rs 72 (.pair (.int .i64) (.pair (.int .i64) (.int .i64))))) (.pair (.rs 76 (.pair (.int .i64) (.pair (.int .i64) .bool))) (.rs 72 (.pair (.int .i64) (.pair (.int .i64) (.int .i64))))))), .c true (.v false (.pair (.rs 3 (.int .i64)) (.rs 25 (.rs 3 (.int .i64))))), .c false (.v true (.int .i64)), .c false (.v true (.int .i64)), .c false (.v true (.int .i64))] [.c false (.v true .bool)] fun x => F28 n x.1 x.2.1 x.2.2.1 x.2.2.2.1 x.2.2.2.2.1
noncomputable def tb28 (n : Nat) : Tb := ⟨tiOf Tryz.prog, conL [(50, con50 n), (51, con51 n), (52, con52 n), (53, con53 n), (54, con54 n)], n, [], 99, lpL [], ctL [], [], true⟩
noncomputable def code28 : Code := Tryz.f28.body.getD .skip
theorem tb28_ok (n : Nat) : (tb28 n).ok Tryz.prog := tbOk mixed (⟨con50_ok n, ⟨con51_ok n, ⟨con52_ok n, ⟨con53_ok n, ⟨con54_ok n, trivial⟩⟩⟩⟩⟩)
theorem blocks28 : blocks code28 = [(0, blockBody code28 0)] := by kernel_rfl
theorem la28 (n : Nat) : LpAll (tb28 n) code28 := lpAll blocks28 (bl_none rfl (bl_nil)) rfl (cs_no fun _ => rfl) (by kernel_rfl)
theorem ev28 (n : Nat) (x : pdens [.c true (.v false (.pair (.rs 57 (.rs 72 (.pair (.int .i64) (.pair (.int .i64) (.int .i64))))) (.pair (.rs 76 (.pair (.int .i64) (.pair (.int .i64) .bool))) (.rs 72 (.pair (.int .i64) (.pair (.int .i64) (.int .i64))))))), .c true (.v false (.pair (.rs 3 (.int .i64)) (.rs 25 (.rs 3 (.int .i64))))), .c false (.v true (.int .i64)), .c false (.v true (.int .i64)), .c false (.v true (.int .i64))]) : evSig (tb28 n) Tryz.f28 [.c true (.v false (.pair (.rs 57 (.rs 72 (.pair (.int .i64) (.pair (.int .i64) (.int .i64))))) (.pair (.rs 76 (.pair (.int .i64) (.pair (.int .i64) .bool))) (.rs 72 (.pair (.int .i64) (.pair (.int .i64) (.int .i64))))))), .c true (.v false (.pair (.rs 3 (.int .i64)) (.rs 25 (.rs 3 (.int .i64))))), .c false (.v true (.int .i64)), .c false (.v true (.int .i64)), .c false (.v true (.int .i64))] [.c false (.v true .bool)] x = F28 n x.1 x.2.1 x.2.2.1 x.2.2.2.1 x.2.2.2.2.1 := by kernel_rfl
theorem con28_ok (n : Nat) : Con.ok Tryz.prog 28 (con28 n) := conOf_ok (tb28_ok n) (body_la (by kernel_rfl : Tryz.f28.body = some code28) (la28 n)) Tryz.func28 (enters Tryz.func28 (by kernel_rfl) (by kernel_rfl)) rfl rfl (ev28 n)
/-! ### loop.example/fathomline/impl.OrderHas -/
def J9_3 (n : Nat) (x3 : Int) (x4 : Int) (x5 : Int) (x6 : List (List (Int × Int × Int)) × Unit) (x7 : (List Int × List (List Int)) × Unit) : Option (odens [(.ret, [(10, (.c false (.v true .bool)))])]) :=
    (F26 n (x6.fst)).bind fun y8 =>
    (F27 n (x4) ((0 : Int)) (Go.IntKind.i64.wrap ((↑(List.length y8.fst.snd.fst) : Int) - (1 : Int)))).bind fun y9 =>
    cond (y9.fst)
    ((F27 n (x5) ((0 : Int)) (Go.IntKind.i64.wrap ((↑(List.length y8.fst.snd.fst) : Int) - (1 : Int)))).bind fun y10 =>
     cond (y10.fst)
     ((F28 n ((y8.fst.fst, y8.fst.snd.fst, y8.fst.snd.snd)) ((x7.fst.fst, x7.fst.snd)) (x3) (x4) (x5)).bind fun y11 =>
      some (Sum.inl (y11.fst, ())))
     (some (Sum.inl (Bool.false, ()))))
    (some (Sum.inl (Bool.false, ())))
def F9 (n : Nat) (a0 : List (List (Int × Int × Int))) (a1 : List Int × List (List Int)) (a2 : Int) (a3 : Int) (a4 : Int) : Option (rdens [.c true (.v false (.rs 57 (.rs 72 (.pair (.int .i64) (.pair (.int .i64) (.int .i64)))))), .c true (.v false (.pair (.rs 3 (.int .i64)) (.rs 25 (.rs 3 (.int .i64))))), .c false (.v true (.int .i64)), .c false (.v true (.int .i64)), .c false (.v true (.int .i64))] [.c false (.v true .bool)]) :=
  (F24 n (a0) ((a1.fst, a1.snd))).bind fun y1 =>
  cond (!y1.fst)
  (some (Bool.false, ()))
  ((F25 n (a2)).bind fun y2 =>
   cond (!y2.fst)
   (some (Bool.false, ()))
   (match J9_3 n (a2) (a3) (a4) ((a0, ())) (((a1.fst, a1.snd), ())) with
    | none => none
    | some (Sum.inl v12) =>
     some (v12.fst, ())))
noncomputable def con9 (n : Nat) : Con := conOf [.c true (.v false (.rs 57 (.rs 72 (.pair (.int .i64) (.pair (.int .i64) (.int .i64)))))), .c true (.v false (.pair (.rs 3 (.int .i64)) (.rs 25 (.rs 3 (.int .i64))))), .c false (.v true (.int .i64)), .c false (.v true (.int .i64)), .c false (.v true (.int .i64))] [.c false (.v true .bool)] fun x => F9 n x.1 x.2.1 x.2.2.1 x.2.2.2.1 x.2.2.2.2.1
noncomputable def tb9 (n : Nat) : Tb := ⟨tiOf Tryz.prog, conL [(24, con24 n), (25, con25 n), (26, con26 n), (27, con27 n), (28, con28 n)], n, [], 45, lpL [], ctL [(3, ⟨[(2, (.c false (.v true (.int .i64)))), (3, (.c false (.v true (.int .i64)))), (4, (.c false (.v true (.int .i64)))), (5, (.b 34 [(.v false (.rs 57 (.rs 72 (.pair (.int .i64) (.pair (.int .i64) (.int .i64))))))])), (6, (.b 36 [(.v false (.pair (.rs 3 (.int .i64)) (.rs 25 (.rs 3 (.int .i64)))))]))], [(.ret, [(10, (.c false (.v true .bool)))])], fun v => J9_3 n v.1 v.2.1 v.2.2.1 v.2.2.2.1 v.2.2.2.2.1⟩)], [], true⟩
noncomputable def code9 : Code := Tryz.f9.body.getD .skip
theorem tb9_ok (n : Nat) : (tb9 n).ok Tryz.prog := tbOk mixed (⟨con24_ok n, ⟨con25_ok n, ⟨con26_ok n, ⟨con27_ok n, ⟨con28_ok n, trivial⟩⟩⟩⟩⟩)
theorem blocks9 : blocks code9 = [] := by kernel_rfl
theorem ct9_3 (n : Nat) : CtOk (tb9 n) (sec code9 1).2 ⟨[(2, (.c false (.v true (.int .i64)))), (3, (.c false (.v true (.int .i64)))), (4, (.c false (.v true (.int .i64)))), (5, (.b 34 [(.v false (.rs 57 (.rs 72 (.pair (.int .i64) (.pair (.int .i64) (.int .i64))))))])), (6, (.b 36 [(.v false (.pair (.rs 3 (.int .i64)) (.rs 25 (.rs 3 (.int .i64)))))]))], [(.ret, [(10, (.c false (.v true .bool)))])], fun v => J9_3 n v.1 v.2.1 v.2.2.1 v.2.2.2.1 v.2.2.2.2.1⟩ := fun _ => by kernel_rfl
theorem secs9 : seconds code9 = [(some 1, (sec code9 0).2), (some 3, (sec code9 1).2), (none, (sec code9 2).2), (none, (sec code9 3).2), (some 4, (sec code9 4).2), (none, (sec code9 5).2)] := by kernel_rfl
theorem la9 (n : Nat) : LpAll (tb9 n) code9 := lpAll blocks9 (bl_nil) secs9 (cs_none rfl (cs_one rfl (ct9_3 n) (cs_none rfl (cs_none rfl (cs_none rfl (cs_none rfl (cs_nil))))))) (by kernel_rfl)
theorem ev9 (n : Nat) (x : pdens [.c true (.v false (.rs 57 (.rs 72 (.pair (.int .i64) (.pair (.int .i64) (.int .i64)))))), .c true (.v false (.pair (.rs 3 (.int .i64)) (.rs 25 (.rs 3 (.int .i64))))), .c false (.v true (.int .i64)), .c false (.v true (.int .i64)), .c false (.v true (.int .i64))]) : evSig (tb9 n) Tryz.f9 [.c true (.v false (.rs 57 (.rs 72 (.pair (.int .i64) (.pair (.int .i64) (.int .i64)))))), .c true (.v false (.pair (.rs 3 (.int .i64)) (.rs 25 (.rs 3 (.int .i64))))), .c false (.v true (.int .i64)), .c false (.v true (.int .i64)), .c false (.v true (.int .i64))] [.c false (.v true .bool)] x = F9 n x.1 x.2.1 x.2.2.1 x.2.2.2.1 x.2.2.2.2.1 := by kernel_rfl
theorem con9_ok (n : Nat) : Con.ok Tryz.prog 9 (con9 n) := conOf_ok (tb9_ok n) (body_la (by kernel_rfl : Tryz.f9.body = some code9) (la9 n)) Tryz.func9 (enters Tryz.func9 (by kernel_rfl) (by kernel_rfl)) rfl rfl (ev9 n)
end Go.Proofs.YtdacfaincamliaaGreat.Ev
