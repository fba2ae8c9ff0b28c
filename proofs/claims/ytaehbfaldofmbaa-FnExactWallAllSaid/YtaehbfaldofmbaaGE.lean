/- Plain functions that the loaded code comes to, and that it does. Conditions: none. -/
import Derived.Test.YtaehbfaldofmbaaGA
namespace Go.Proofs.Ytaehbfaldofmbaa.Ev
open Go Go.Proofs
/-! ### loop.example/fathomline/impl.ExecEvents -/
def J48_13 (n : Nat) (x14 : List (Int × Int × Bool)) (x15 : Int) (x16 : List (List (Int × Int × Int))) (x17 : Int) (x18 : Int) (x19 : List (Int × Int × Int)) (x20 : Int) (x21 : Int) : Option (odens [(.normal, [(3, (.c false (.r 62 (.pair (.int .i64) (.pair (.int .i64) .bool))))), (4, (.c false (.v true (.int .i64)))), (12, (.c false (.v false (.rs 50 (.rs 52 (.pair (.int .i64) (.pair (.int .i64) (.int .i64)))))))), (13, (.c false (.v true (.int .i64)))), (14, (.c false (.v true (.int .i64)))), (19, (.c false (.v false (.rs 52 (.pair (.int .i64) (.pair (.int .i64) (.int .i64))))))), (20, (.c false (.v true (.int .i64)))), (21, (.c false (.v true (.int .i64))))])]) :=
    some (Sum.inl (x14, x15, x16, x17, x18, x19, x20, Go.IntKind.i64.wrap (x21 + (1 : Int)), ()))
def L48_2 (n : Nat) : Nat → List (Int × Int × Bool) → Int → List (List (Int × Int × Int)) → Int → Int → List (Int × Int × Int) → Int → Int → Option (odens [((.exit 2), [(3, (.c false (.r 62 (.pair (.int .i64) (.pair (.int .i64) .bool))))), (12, (.c false (.v false (.rs 50 (.rs 52 (.pair (.int .i64) (.pair (.int .i64) (.int .i64)))))))), (13, (.c false (.v true (.int .i64)))), (14, (.c false (.v true (.int .i64))))])])
  | 0, _, _, _, _, _, _, _, _ => none
  | m + 1, x6, x7, x8, x9, x10, x11, x12, x13 =>
    cond (Decidable.decide (x13 < x12))
    (if (0 : Int) ≤ x13 then
     if x13 < (↑x11.length : Int) then
     if (x6.length + [(x7, x13, Bool.false)].length) * (24 : Nat) ≤ (140737488355328 : Nat) then
     cond ((x11.getD x13.toNat ((0 : Int), (0 : Int), (0 : Int))).fst == (9 : Int))
     (if ((x6 ++ [(x7, x13, Bool.false)]).length + [(x7, x13, Bool.true)].length) * (24 : Nat) ≤ (140737488355328 : Nat) then
      match J48_13 n (x6 ++ [(x7, x13, Bool.false)] ++ [(x7, x13, Bool.true)]) (x7) (x8) (x9) (x10) (x11) (x12) (x13) with
      | none => none
      | some (Sum.inl v22) =>
       L48_2 n m (v22.fst) (v22.snd.fst) (v22.snd.snd.fst) (v22.snd.snd.snd.fst) (v22.snd.snd.snd.snd.fst) (v22.snd.snd.snd.snd.snd.fst) (v22.snd.snd.snd.snd.snd.snd.fst) (v22.snd.snd.snd.snd.snd.snd.snd.fst)
      else none)
     (match J48_13 n (x6 ++ [(x7, x13, Bool.false)]) (x7) (x8) (x9) (x10) (x11) (x12) (x13) with
      | none => none
      | some (Sum.inl v23) =>
       L48_2 n m (v23.fst) (v23.snd.fst) (v23.snd.snd.fst) (v23.snd.snd.snd.fst) (v23.snd.snd.snd.snd.fst) (v23.snd.snd.snd.snd.snd.fst) (v23.snd.snd.snd.snd.snd.snd.fst) (v23.snd.snd.snd.snd.snd.snd.snd.fst))
     else none
     else none
     else none)
    (some (Sum.inl (x6, x8, x9, x10, ())))
def L48_0 (n : Nat) : Nat → List (Int × Int × Bool) → List (List (Int × Int × Int)) → Int → Int → Option (odens [((.exit 0), [(3, (.c false (.r 62 (.pair (.int .i64) (.pair (.int .i64) .bool)))))])])
  | 0, _, _, _, _ => none
  | m + 1, x2, x3, x4, x5 =>
    cond (Decidable.decide (x5 < x4))
    (if (0 : Int) ≤ x5 then
     if x5 < (↑x3.length : Int) then
     match L48_2 n n (x2) (x5) (x3) (x4) (x5) (x3.getD x5.toNat []) ((↑(List.length (x3.getD x5.toNat [])) : Int)) ((0 : Int)) with
     | none => none
     | some (Sum.inl v24) =>
      L48_0 n m (v24.fst) (v24.snd.fst) (v24.snd.snd.fst) (Go.IntKind.i64.wrap (v24.snd.snd.snd.fst + (1 : Int)))
     else none
     else none)
    (some (Sum.inl (x2, ())))
def F48 (n : Nat) (a0 : List (List (Int × Int × Int))) : Option (rdens [.c true (.v false (.rs 50 (.rs 52 (.pair (.int .i64) (.pair (.int .i64) (.int .i64))))))] [.c false (.r 62 (.pair (.int .i64) (.pair (.int .i64) .bool)))]) :=
  (F37 n (a0)).bind fun y1 =>
  cond (!y1.fst)
  (some ([], ()))
  (match L48_0 n n ([]) (a0) ((↑a0.length : Int)) ((0 : Int)) with
   | none => none
   | some (Sum.inl v25) =>
    some (v25.fst, ()))
noncomputable def con48 (n : Nat) : Con := conOf [.c true (.v false (.rs 50 (.rs 52 (.pair (.int .i64) (.pair (.int .i64) (.int .i64))))))] [.c false (.r 62 (.pair (.int .i64) (.pair (.int .i64) .bool)))] fun x => F48 n x.1
noncomputable def tb48 (n : Nat) : Tb := ⟨tiOf Try.prog, conL [(37, con37 n)], n, [], 44, lpL [(2, ⟨[(3, (.c false (.r 62 (.pair (.int .i64) (.pair (.int .i64) .bool))))), (4, (.c false (.v true (.int .i64)))), (12, (.c false (.v false (.rs 50 (.rs 52 (.pair (.int .i64) (.pair (.int .i64) (.int .i64)))))))), (13, (.c false (.v true (.int .i64)))), (14, (.c false (.v true (.int .i64)))), (19, (.c false (.v false (.rs 52 (.pair (.int .i64) (.pair (.int .i64) (.int .i64))))))), (20, (.c false (.v true (.int .i64)))), (21, (.c false (.v true (.int .i64))))], [((.exit 2), [(3, (.c false (.r 62 (.pair (.int .i64) (.pair (.int .i64) .bool))))), (12, (.c false (.v false (.rs 50 (.rs 52 (.pair (.int .i64) (.pair (.int .i64) (.int .i64)))))))), (13, (.c false (.v true (.int .i64)))), (14, (.c false (.v true (.int .i64))))])], fun m v => L48_2 n m v.1 v.2.1 v.2.2.1 v.2.2.2.1 v.2.2.2.2.1 v.2.2.2.2.2.1 v.2.2.2.2.2.2.1 v.2.2.2.2.2.2.2.1⟩), (0, ⟨[(3, (.c false (.r 62 (.pair (.int .i64) (.pair (.int .i64) .bool))))), (12, (.c false (.v false (.rs 50 (.rs 52 (.pair (.int .i64) (.pair (.int .i64) (.int .i64)))))))), (13, (.c false (.v true (.int .i64)))), (14, (.c false (.v true (.int .i64))))], [((.exit 0), [(3, (.c false (.r 62 (.pair (.int .i64) (.pair (.int .i64) .bool)))))])], fun m v => L48_0 n m v.1 v.2.1 v.2.2.1 v.2.2.2.1⟩)], ctL [(13, ⟨[(3, (.c false (.r 62 (.pair (.int .i64) (.pair (.int .i64) .bool))))), (4, (.c false (.v true (.int .i64)))), (12, (.c false (.v false (.rs 50 (.rs 52 (.pair (.int .i64) (.pair (.int .i64) (.int .i64)))))))), (13, (.c false (.v true (.int .i64)))), (14, (.c false (.v true (.int .i64)))), (19, (.c false (.v false (.rs 52 (.pair (.int .i64) (.pair (.int .i64) (.int .i64))))))), (20, (.c false (.v true (.int .i64)))), (21, (.c false (.v true (.int .i64))))], [(.normal, [(3, (.c false (.r 62 (.pair (.int .i64) (.pair (.int .i64) .bool))))), (4, (.c false (.v true (.int .i64)))), (12, (.c false (.v false (.rs 50 (.rs 52 (.pair (.int .i64) (.pair (.int .i64) (.int .i64)))))))), (13, (.c false (.v true (.int .i64)))), (14, (.c false (.v true (.int .i64)))), (19, (.c false (.v false (.rs 52 (.pair (.int .i64) (.pair (.int .i64) (.int .i64))))))), (20, (.c false (.v true (.int .i64)))), (21, (.c false (.v true (.int .i64))))])], fun v => J48_13 n v.1 v.2.1 v.2.2.1 v.2.2.2.1 v.2.2.2.2.1 v.2.2.2.2.2.1 v.2.2.2.2.2.2.1 v.2.2.2.2.2.2.2.1⟩)], [], true⟩
noncomputable def code48 : Code := Try.f48.body.getD .skip
theorem tb48_ok (n : Nat) : (tb48 n).ok Try.prog := tbOk mixed (⟨con37_ok n, trivial⟩)
theorem lp48_2 (n : Nat) : LpAt (tb48 n) (loopBody code48 2) 2 := lpAt rfl (fun _ => by kernel_rfl) (fun _ _ => by kernel_rfl)
theorem lp48_0 (n : Nat) : LpAt (tb48 n) (loopBody code48 0) 0 := lpAt rfl (fun _ => by kernel_rfl) (fun _ _ => by kernel_rfl)
theorem blocks48 : blocks code48 = [(0, .loop (loopBody code48 0)), (1, blockBody code48 1), (2, .loop (loopBody code48 2)), (3, blockBody code48 3)] := by kernel_rfl
theorem ct48_13 (n : Nat) : CtOk (tb48 n) (sec code48 14).2 ⟨[(3, (.c false (.r 62 (.pair (.int .i64) (.pair (.int .i64) .bool))))), (4, (.c false (.v true (.int .i64)))), (12, (.c false (.v false (.rs 50 (.rs 52 (.pair (.int .i64) (.pair (.int .i64) (.int .i64)))))))), (13, (.c false (.v true (.int .i64)))), (14, (.c false (.v true (.int .i64)))), (19, (.c false (.v false (.rs 52 (.pair (.int .i64) (.pair (.int .i64) (.int .i64))))))), (20, (.c false (.v true (.int .i64)))), (21, (.c false (.v true (.int .i64))))], [(.normal, [(3, (.c false (.r 62 (.pair (.int .i64) (.pair (.int .i64) .bool))))), (4, (.c false (.v true (.int .i64)))), (12, (.c false (.v false (.rs 50 (.rs 52 (.pair (.int .i64) (.pair (.int .i64) (.int .i64)))))))), (13, (.c false (.v true (.int .i64)))), (14, (.c false (.v true (.int .i64)))), (19, (.c false (.v false (.rs 52 (.pair (.int .i64) (.pair (.int .i64) (.int .i64))))))), (20, (.c false (.v true (.int .i64)))), (21, (.c false (.v true (.int .i64))))])], fun v => J48_13 n v.1 v.2.1 v.2.2.1 v.2.2.2.1 v.2.2.2.2.1 v.2.2.2.2.2.1 v.2.2.2.2.2.2.1 v.2.2.2.2.2.2.2.1⟩ := fun _ => by kernel_rfl
theorem secs48 : seconds code48 = [(some 1, (sec code48 0).2), (some 3, (sec code48 1).2), (none, (sec code48 2).2), (none, (sec code48 3).2), (some 4, (sec code48 4).2), (some 15, (sec code48 5).2), (some 5, (sec code48 6).2), (none, (sec code48 7).2), (some 6, (sec code48 8).2), (some 14, (sec code48 9).2), (some 7, (sec code48 10).2), (some 8, (sec code48 11).2), (none, (sec code48 12).2), (some 9, (sec code48 13).2), (some 13, (sec code48 14).2), (some 10, (sec code48 15).2), (some 11, (sec code48 16).2), (none, (sec code48 17).2), (none, (sec code48 18).2)] := by kernel_rfl
theorem la48 (n : Nat) : LpAll (tb48 n) code48 := lpAll blocks48 (bl_loop (lp48_0 n) (bl_none rfl (bl_loop (lp48_2 n) (bl_none rfl (bl_nil))))) secs48 (cs_none rfl (cs_none rfl (cs_none rfl (cs_none rfl (cs_none rfl (cs_none rfl (cs_none rfl (cs_none rfl (cs_none rfl (cs_none rfl (cs_none rfl (cs_none rfl (cs_none rfl (cs_none rfl (cs_one rfl (ct48_13 n) (cs_none rfl (cs_none rfl (cs_none rfl (cs_none rfl (cs_nil)))))))))))))))))))) (by kernel_rfl)
theorem ev48 (n : Nat) (x : pdens [.c true (.v false (.rs 50 (.rs 52 (.pair (.int .i64) (.pair (.int .i64) (.int .i64))))))]) : evSig (tb48 n) Try.f48 [.c true (.v false (.rs 50 (.rs 52 (.pair (.int .i64) (.pair (.int .i64) (.int .i64))))))] [.c false (.r 62 (.pair (.int .i64) (.pair (.int .i64) .bool)))] x = F48 n x.1 := by kernel_rfl
theorem con48_ok (n : Nat) : Con.ok Try.prog 48 (con48 n) := conOf_ok (tb48_ok n) (body_la (by kernel_rfl : Try.f48.body = some code48) (la48 n)) Try.func48 (enters Try.func48 (by kernel_rfl) (by kernel_rfl)) rfl rfl (ev48 n)
/-! ### loop.example/fathomline/spec.ExecEvents -/
def J50_9 (n : Nat) (x9 : List (List (Int × Int × Int)) × Unit) (x10 : List (Int × Int × Bool)) (x11 : Int) (x12 : Int) : Option (odens [(.normal, [(1, (.b 44 [(.v false (.rs 50 (.rs 52 (.pair (.int .i64) (.pair (.int .i64) (.int .i64))))))])), (3, (.c false (.r 62 (.pair (.int .i64) (.pair (.int .i64) .bool))))), (4, (.c false (.v true (.int .i64)))), (5, (.c false (.v true (.int .i64))))])]) :=
    some (Sum.inl ((x9.fst, ()), x10, x11, Go.IntKind.i64.wrap (x12 + (1 : Int)), ()))
def L50_2 (n : Nat) : Nat → List (List (Int × Int × Int)) × Unit → List (Int × Int × Bool) → Int → Int → Option (odens [((.exit 2), [(1, (.b 44 [(.v false (.rs 50 (.rs 52 (.pair (.int .i64) (.pair (.int .i64) (.int .i64))))))])), (3, (.c false (.r 62 (.pair (.int .i64) (.pair (.int .i64) .bool))))), (4, (.c false (.v true (.int .i64))))])])
  | 0, _, _, _, _ => none
  | m + 1, x5, x6, x7, x8 =>
    if (0 : Int) ≤ x7 then
    if x7 < (↑(List.length x5.fst) : Int) then
    cond (Decidable.decide (x8 < (↑(List.length (List.getD x5.fst x7.toNat [])) : Int)))
    (if (x6.length + [(x7, x8, Bool.false)].length) * (24 : Nat) ≤ (140737488355328 : Nat) then
     if (0 : Int) ≤ x7 then
     if x7 < (↑(List.length x5.fst) : Int) then
     if (0 : Int) ≤ x8 then
     if x8 < (↑(List.length (List.getD x5.fst x7.toNat [])) : Int) then
     cond ((List.getD (List.getD x5.fst x7.toNat []) x8.toNat ((0 : Int), (0 : Int), (0 : Int))).fst == (9 : Int))
     (if ((x6 ++ [(x7, x8, Bool.false)]).length + [(x7, x8, Bool.true)].length) * (24 : Nat) ≤ (140737488355328 : Nat) then
      match J50_9 n ((x5.fst, ())) (x6 ++ [(x7, x8, Bool.false)] ++ [(x7, x8, Bool.true)]) (x7) (x8) with
      | none => none
      | some (Sum.inl v13) =>
       L50_2 n m ((v13.fst.fst, ())) (v13.snd.fst) (v13.snd.snd.fst) (v13.snd.snd.snd.fst)
      else none)
     (match J50_9 n ((x5.fst, ())) (x6 ++ [(x7, x8, Bool.false)]) (x7) (x8) with
      | none => none
      | some (Sum.inl v14) =>
       L50_2 n m ((v14.fst.fst, ())) (v14.snd.fst) (v14.snd.snd.fst) (v14.snd.snd.snd.fst))
     else none
     else none
     else none
     else none
     else none)
    (some (Sum.inl ((x5.fst, ()), x6, x7, ())))
    else none
    else none
def L50_0 (n : Nat) : Nat → List (List (Int × Int × Int)) × Unit → List (Int × Int × Bool) → Int → Option (odens [((.exit 0), [(3, (.c false (.r 62 (.pair (.int .i64) (.pair (.int .i64) .bool)))))])])
  | 0, _, _, _ => none
  | m + 1, x2, x3, x4 =>
    cond (Decidable.decide (x4 < (↑(List.length x2.fst) : Int)))
    (match L50_2 n n ((x2.fst, ())) (x3) (x4) ((0 : Int)) with
     | none => none
     | some (Sum.inl v15) =>
      L50_0 n m ((v15.fst.fst, ())) (v15.snd.fst) (Go.IntKind.i64.wrap (v15.snd.snd.fst + (1 : Int))))
    (some (Sum.inl (x3, ())))
def F50 (n : Nat) (a0 : List (List (Int × Int × Int))) : Option (rdens [.c true (.v false (.rs 50 (.rs 52 (.pair (.int .i64) (.pair (.int .i64) (.int .i64))))))] [.c false (.r 62 (.pair (.int .i64) (.pair (.int .i64) .bool)))]) :=
  (F35 n (a0)).bind fun y1 =>
  cond (!y1.fst)
  (some ([], ()))
  (match L50_0 n n ((a0, ())) ([]) ((0 : Int)) with
   | none => none
   | some (Sum.inl v16) =>
    some (v16.fst, ()))
noncomputable def con50 (n : Nat) : Con := conOf [.c true (.v false (.rs 50 (.rs 52 (.pair (.int .i64) (.pair (.int .i64) (.int .i64))))))] [.c false (.r 62 (.pair (.int .i64) (.pair (.int .i64) .bool)))] fun x => F50 n x.1
noncomputable def tb50 (n : Nat) : Tb := ⟨tiOf Try.prog, conL [(35, con35 n)], n, [], 51, lpL [(2, ⟨[(1, (.b 44 [(.v false (.rs 50 (.rs 52 (.pair (.int .i64) (.pair (.int .i64) (.int .i64))))))])), (3, (.c false (.r 62 (.pair (.int .i64) (.pair (.int .i64) .bool))))), (4, (.c false (.v true (.int .i64)))), (5, (.c false (.v true (.int .i64))))], [((.exit 2), [(1, (.b 44 [(.v false (.rs 50 (.rs 52 (.pair (.int .i64) (.pair (.int .i64) (.int .i64))))))])), (3, (.c false (.r 62 (.pair (.int .i64) (.pair (.int .i64) .bool))))), (4, (.c false (.v true (.int .i64))))])], fun m v => L50_2 n m v.1 v.2.1 v.2.2.1 v.2.2.2.1⟩), (0, ⟨[(1, (.b 44 [(.v false (.rs 50 (.rs 52 (.pair (.int .i64) (.pair (.int .i64) (.int .i64))))))])), (3, (.c false (.r 62 (.pair (.int .i64) (.pair (.int .i64) .bool))))), (4, (.c false (.v true (.int .i64))))], [((.exit 0), [(3, (.c false (.r 62 (.pair (.int .i64) (.pair (.int .i64) .bool)))))])], fun m v => L50_0 n m v.1 v.2.1 v.2.2.1⟩)], ctL [(9, ⟨[(1, (.b 44 [(.v false (.rs 50 (.rs 52 (.pair (.int .i64) (.pair (.int .i64) (.int .i64))))))])), (3, (.c false (.r 62 (.pair (.int .i64) (.pair (.int .i64) .bool))))), (4, (.c false (.v true (.int .i64)))), (5, (.c false (.v true (.int .i64))))], [(.normal, [(1, (.b 44 [(.v false (.rs 50 (.rs 52 (.pair (.int .i64) (.pair (.int .i64) (.int .i64))))))])), (3, (.c false (.r 62 (.pair (.int .i64) (.pair (.int .i64) .bool))))), (4, (.c false (.v true (.int .i64)))), (5, (.c false (.v true (.int .i64))))])], fun v => J50_9 n v.1 v.2.1 v.2.2.1 v.2.2.2.1⟩)], [], true⟩
noncomputable def code50 : Code := Try.f50.body.getD .skip
theorem tb50_ok (n : Nat) : (tb50 n).ok Try.prog := tbOk mixed (⟨con35_ok n, trivial⟩)
theorem lp50_2 (n : Nat) : LpAt (tb50 n) (loopBody code50 2) 2 := lpAt rfl (fun _ => by kernel_rfl) (fun _ _ => by kernel_rfl)
theorem lp50_0 (n : Nat) : LpAt (tb50 n) (loopBody code50 0) 0 := lpAt rfl (fun _ => by kernel_rfl) (fun _ _ => by kernel_rfl)
theorem blocks50 : blocks code50 = [(0, .loop (loopBody code50 0)), (1, blockBody code50 1), (2, .loop (loopBody code50 2)), (3, blockBody code50 3)] := by kernel_rfl
theorem ct50_9 (n : Nat) : CtOk (tb50 n) (sec code50 13).2 ⟨[(1, (.b 44 [(.v false (.rs 50 (.rs 52 (.pair (.int .i64) (.pair (.int .i64) (.int .i64))))))])), (3, (.c false (.r 62 (.pair (.int .i64) (.pair (.int .i64) .bool))))), (4, (.c false (.v true (.int .i64)))), (5, (.c false (.v true (.int .i64))))], [(.normal, [(1, (.b 44 [(.v false (.rs 50 (.rs 52 (.pair (.int .i64) (.pair (.int .i64) (.int .i64))))))])), (3, (.c false (.r 62 (.pair (.int .i64) (.pair (.int .i64) .bool))))), (4, (.c false (.v true (.int .i64)))), (5, (.c false (.v true (.int .i64))))])], fun v => J50_9 n v.1 v.2.1 v.2.2.1 v.2.2.2.1⟩ := fun _ => by kernel_rfl
theorem secs50 : seconds code50 = [(some 1, (sec code50 0).2), (some 2, (sec code50 1).2), (some 4, (sec code50 2).2), (none, (sec code50 3).2), (none, (sec code50 4).2), (some 13, (sec code50 5).2), (some 5, (sec code50 6).2), (some 7, (sec code50 7).2), (none, (sec code50 8).2), (some 6, (sec code50 9).2), (some 8, (sec code50 10).2), (some 10, (sec code50 11).2), (none, (sec code50 12).2), (some 9, (sec code50 13).2), (some 11, (sec code50 14).2), (none, (sec code50 15).2), (none, (sec code50 16).2)] := by kernel_rfl
theorem la50 (n : Nat) : LpAll (tb50 n) code50 := lpAll blocks50 (bl_loop (lp50_0 n) (bl_none rfl (bl_loop (lp50_2 n) (bl_none rfl (bl_nil))))) secs50 (cs_none rfl (cs_none rfl (cs_none rfl (cs_none rfl (cs_none rfl (cs_none rfl (cs_none rfl (cs_none rfl (cs_none rfl (cs_none rfl (cs_none rfl (cs_none rfl (cs_none rfl (cs_one rfl (ct50_9 n) (cs_none rfl (cs_none rfl (cs_none rfl (cs_nil)))))))))))))))))) (by kernel_rfl)
theorem ev50 (n : Nat) (x : pdens [.c true (.v false (.rs 50 (.rs 52 (.pair (.int .i64) (.pair (.int .i64) (.int .i64))))))]) : evSig (tb50 n) Try.f50 [.c true (.v false (.rs 50 (.rs 52 (.pair (.int .i64) (.pair (.int .i64) (.int .i64))))))] [.c false (.r 62 (.pair (.int .i64) (.pair (.int .i64) .bool)))] x = F50 n x.1 := by kernel_rfl
theorem con50_ok (n : Nat) : Con.ok Try.prog 50 (con50 n) := conOf_ok (tb50_ok n) (body_la (by kernel_rfl : Try.f50.body = some code50) (la50 n)) Try.func50 (enters Try.func50 (by kernel_rfl) (by kernel_rfl)) rfl rfl (ev50 n)
end Go.Proofs.Ytaehbfaldofmbaa.Ev
