/- Plain functions that the loaded code comes to, and that it does. Conditions: none. -/
import Derived.Test.YtdacfaincamliaaGreatGA
namespace Go.Proofs.YtdacfaincamliaaGreat.Ev
open Go Go.Proofs
/-! ### loop.example/fathomline/impl.ExecEvents -/
def J49_13 (n : Nat) (x14 : List (Int × Int × Bool)) (x15 : Int) (x16 : List (List (Int × Int × Int))) (x17 : Int) (x18 : Int) (x19 : List (Int × Int × Int)) (x20 : Int) (x21 : Int) : Option (odens [(.normal, [(3, (.c false (.r 76 (.pair (.int .i64) (.pair (.int .i64) .bool))))), (4, (.c false (.v true (.int .i64)))), (12, (.c false (.v false (.rs 57 (.rs 72 (.pair (.int .i64) (.pair (.int .i64) (.int .i64)))))))), (13, (.c false (.v true (.int .i64)))), (14, (.c false (.v true (.int .i64)))), (19, (.c false (.v false (.rs 72 (.pair (.int .i64) (.pair (.int .i64) (.int .i64))))))), (20, (.c false (.v true (.int .i64)))), (21, (.c false (.v true (.int .i64))))])]) :=
    some (Sum.inl (x14, x15, x16, x17, x18, x19, x20, Go.IntKind.i64.wrap (x21 + (1 : Int)), ()))
def L49_2 (n : Nat) : Nat → List (Int × Int × Bool) → Int → List (List (Int × Int × Int)) → Int → Int → List (Int × Int × Int) → Int → Int → Option (odens [((.exit 2), [(3, (.c false (.r 76 (.pair (.int .i64) (.pair (.int .i64) .bool))))), (12, (.c false (.v false (.rs 57 (.rs 72 (.pair (.int .i64) (.pair (.int .i64) (.int .i64)))))))), (13, (.c false (.v true (.int .i64)))), (14, (.c false (.v true (.int .i64))))])])
  | 0, _, _, _, _, _, _, _, _ => none
  | m + 1, x6, x7, x8, x9, x10, x11, x12, x13 =>
    cond (Decidable.decide (x13 < x12))
    (if (0 : Int) ≤ x13 then
     if x13 < (↑x11.length : Int) then
     if (x6.length + [(x7, x13, Bool.false)].length) * (24 : Nat) ≤ (140737488355328 : Nat) then
     cond ((x11.getD x13.toNat ((0 : Int), (0 : Int), (0 : Int))).fst == (9 : Int))
     (if ((x6 ++ [(x7, x13, Bool.false)]).length + [(x7, x13, Bool.true)].length) * (24 : Nat) ≤ (140737488355328 : Nat) then
      match J49_13 n (x6 ++ [(x7, x13, Bool.false)] ++ [(x7, x13, Bool.true)]) (x7) (x8) (x9) (x10) (x11) (x12) (x13) with
      | none => none
      | some (Sum.inl v22) =>
       L49_2 n m (v22.fst) (v22.snd.fst) (v22.snd.snd.fst) (v22.snd.snd.snd.fst) (v22.snd.snd.snd.snd.fst) (v22.snd.snd.snd.snd.snd.fst) (v22.snd.snd.snd.snd.snd.snd.fst) (v22.snd.snd.snd.snd.snd.snd.snd.fst)
      else none)
     (match J49_13 n (x6 ++ [(x7, x13, Bool.false)]) (x7) (x8) (x9) (x10) (x11) (x12) (x13) with
      | none => none
      | some (Sum.inl v23) =>
       L49_2 n m (v23.fst) (v23.snd.fst) (v23.snd.snd.fst) (v23.snd.snd.snd.fst) (v23.snd.snd.snd.snd.fst) (v23.snd.snd.snd.snd.snd.fst) (v23.snd.snd.snd.snd.snd.snd.fst) (v23.snd.snd.snd.snd.snd.snd.snd.fst))
     else none
     else none
     else none)
    (some (Sum.inl (x6, x8, x9, x10, ())))
def L49_0 (n : Nat) : Nat → List (Int × Int × Bool) → List (List (Int × Int × Int)) → Int → Int → Option (odens [((.exit 0), [(3, (.c false (.r 76 (.pair (.int .i64) (.pair (.int .i64) .bool)))))])])
  | 0, _, _, _, _ => none
  | m + 1, x2, x3, x4, x5 =>
    cond (Decidable.decide (x5 < x4))
    (if (0 : Int) ≤ x5 then
     if x5 < (↑x3.length : Int) then
     match L49_2 n n (x2) (x5) (x3) (x4) (x5) (x3.getD x5.toNat []) ((↑(List.length (x3.getD x5.toNat [])) : Int)) ((0 : Int)) with
     | none => none
     | some (Sum.inl v24) =>
      L49_0 n m (v24.fst) (v24.snd.fst) (v24.snd.snd.fst) (Go.IntKind.i64.wrap (v24.snd.snd.snd.fst + (1 : Int)))
     else none
     else none)
    (some (Sum.inl (x2, ())))
def F49 (n : Nat) (a0 : List (List (Int × Int × Int))) : Option (rdens [.c true (.v false (.rs 57 (.rs 72 (.pair (.int .i64) (.pair (.int .i64) (.int .i64))))))] [.c false (.r 76 (.pair (.int .i64) (.pair (.int .i64) .bool)))]) :=
  (F47 n (a0)).bind fun y1 =>
  cond (!y1.fst)
  (some ([], ()))
  (match L49_0 n n ([]) (a0) ((↑a0.length : Int)) ((0 : Int)) with
   | none => none
   | some (Sum.inl v25) =>
    some (v25.fst, ()))
noncomputable def con49 (n : Nat) : Con := conOf [.c true (.v false (.rs 57 (.rs 72 (.pair (.int .i64) (.pair (.int .i64) (.int .i64))))))] [.c false (.r 76 (.pair (.int .i64) (.pair (.int .i64) .bool)))] fun x => F49 n x.1
noncomputable def tb49 (n : Nat) : Tb := ⟨tiOf Tryz.prog, conL [(47, con47 n)], n, [], 44, lpL [(2, ⟨[(3, (.c false (.r 76 (.pair (.int .i64) (.pair (.int .i64) .bool))))), (4, (.c false (.v true (.int .i64)))), (12, (.c false (.v false (.rs 57 (.rs 72 (.pair (.int .i64) (.pair (.int .i64) (.int .i64)))))))), (13, (.c false (.v true (.int .i64)))), (14, (.c false (.v true (.int .i64)))), (19, (.c false (.v false (.rs 72 (.pair (.int .i64) (.pair (.int .i64) (.int .i64))))))), (20, (.c false (.v true (.int .i64)))), (21, (.c false (.v true (.int .i64))))], [((.exit 2), [(3, (.c false (.r 76 (.pair (.int .i64) (.pair (.int .i64) .bool))))), (12, (.c false (.v false (.rs 57 (.rs 72 (.pair (.int .i64) (.pair (.int .i64) (.int .i64)))))))), (13, (.c false (.v true (.int .i64)))), (14, (.c false (.v true (.int .i64))))])], fun m v => L49_2 n m v.1 v.2.1 v.2.2.1 v.2.2.2.1 v.2.2.2.2.1 v.2.2.2.2.2.1 v.2.2.2.2.2.2.1 v.2.2.2.2.2.2.2.1⟩), (0, ⟨[(3, (.c false (.r 76 (.pair (.int .i64) (.pair (.int .i64) .bool))))), (12, (.c false (.v false (.rs 57 (.rs 72 (.pair (.int .i64) (.pair (.int .i64) (.int .i64)))))))), (13, (.c false (.v true (.int .i64)))), (14, (.c false (.v true (.int .i64))))], [((.exit 0), [(3, (.c false (.r 76 (.pair (.int .i64) (.pair (.int .i64) .bool)))))])], fun m v => L49_0 n m v.1 v.2.1 v.2.2.1 v.2.2.2.1⟩)], ctL [(13, ⟨[(3, (.c false (.r 76 (.pair (.int .i64) (.pair (.int .i64) .bool))))), (4, (.c false (.v true (.int .i64)))), (12, (.c false (.v false (.rs 57 (.rs 72 (.pair (.int .i64) (.pair (.int .i64) (.int .i64)))))))), (13, (.c false (.v true (.int .i64)))), (14, (.c false (.v true (.int .i64)))), (19, (.c false (.v false (.rs 72 (.pair (.int .i64) (.pair (.int .i64) (.int .i64))))))), (20, (.c false (.v true (.int .i64)))), (21, (.c false (.v true (.int .i64))))], [(.normal, [(3, (.c false (.r 76 (.pair (.int .i64) (.pair (.int .i64) .bool))))), (4, (.c false (.v true (.int .i64)))), (12, (.c false (.v false (.rs 57 (.rs 72 (.pair (.int .i64) (.pair (.int .i64) (.int .i64)))))))), (13, (.c false (.v true (.int .i64)))), (14, (.c false (.v true (.int .i64)))), (19, (.c false (.v false (.rs 72 (.pair (.int .i64) (.pair (.int .i64) (.int .i64))))))), (20, (.c false (.v true (.int .i64)))), (21, (.c false (.v true (.int .i64))))])], fun v => J49_13 n v.1 v.2.1 v.2.2.1 v.2.2.2.1 v.2.2.2.2.1 v.2.2.2.2.2.1 v.2.2.2.2.2.2.1 v.2.2.2.2.2.2.2.1⟩)], [], true⟩
noncomputable def code49 : Code := Tryz.f49.body.getD .skip
theorem tb49_ok (n : Nat) : (tb49 n).ok Tryz.prog := tbOk mixed (⟨con47_ok n, trivial⟩)
theorem lp49_2 (n : Nat) : LpAt (tb49 n) (loopBody code49 2) 2 := lpAt rfl (fun _ => by kernel_rfl) (fun _ _ => by kernel_rfl)
theorem lp49_0 (n : Nat) : LpAt (tb49 n) (loopBody code49 0) 0 := lpAt rfl (fun _ => by kernel_rfl) (fun _ _ => by kernel_rfl)
theorem blocks49 : blocks code49 = [(0, .loop (loopBody code49 0)), (1, blockBody code49 1), (2, .loop (loopBody code49 2)), (3, blockBody code49 3)] := by kernel_rfl
theorem ct49_13 (n : Nat) : CtOk (tb49 n) (sec code49 14).2 ⟨[(3, (.c false (.r 76 (.pair (.int .i64) (.pair (.int .i64) .bool))))), (4, (.c false (.v true (.int .i64)))), (12, (.c false (.v false (.rs 57 (.rs 72 (.pair (.int .i64) (.pair (.int .i64) (.int .i64)))))))), (13, (.c false (.v true (.int .i64)))), (14, (.c false (.v true (.int .i64)))), (19, (.c false (.v false (.rs 72 (.pair (.int .i64) (.pair (.int .i64) (.int .i64))))))), (20, (.c false (.v true (.int .i64)))), (21, (.c false (.v true (.int .i64))))], [(.normal, [(3, (.c false (.r 76 (.pair (.int .i64) (.pair (.int .i64) .bool))))), (4, (.c false (.v true (.int .i64)))), (12, (.c false (.v false (.rs 57 (.rs 72 (.pair (.int .i64) (.pair (.int .i64) (.int .i64)))))))), (13, (.c false (.v true (.int .i64)))), (14, (.c false (.v true (.int .i64)))), (19, (.c false (.v false (.rs 72 (.pair (.int .i64) (.pair (.int .i64) (.int .i64))))))), (20, (.c false (.v true (.int .i64)))), (21, (.c false (.v true (.int .i64))))])], fun v => J49_13 n v.1 v.2.1 v.2.2.1 v.2.2.2.1 v.2.2.2.2.1 v.2.2.2.2.2.1 v.2.2.2.2.2.2.1 v.2.2.2.2.2.2.2.1⟩ := fun _ => by kernel_rfl
theorem secs49 : seconds code49 = [(some 1, (sec code49 0).2), (some 3, (sec code49 1).2), (none, (sec code49 2).2), (none, (sec code49 3).2), (some 4, (sec code49 4).2), (some 15, (sec code49 5).2), (some 5, (sec code49 6).2), (none, (sec code49 7).2), (some 6, (sec code49 8).2), (some 14, (sec code49 9).2), (some 7, (sec code49 10).2), (some 8, (sec code49 11).2), (none, (sec code49 12).2), (some 9, (sec code49 13).2), (some 13, (sec code49 14).2), (some 10, (sec code49 15).2), (some 11, (sec code49 16).2), (none, (sec code49 17).2), (none, (sec code49 18).2)] := by kernel_rfl
theorem la49 (n : Nat) : LpAll (tb49 n) code49 := lpAll blocks49 (bl_loop (lp49_0 n) (bl_none rfl (bl_loop (lp49_2 n) (bl_none rfl (bl_nil))))) secs49 (cs_none rfl (cs_none rfl (cs_none rfl (cs_none rfl (cs_none rfl (cs_none rfl (cs_none rfl (cs_none rfl (cs_none rfl (cs_none rfl (cs_none rfl (cs_none rfl (cs_none rfl (cs_none rfl (cs_one rfl (ct49_13 n) (cs_none rfl (cs_none rfl (cs_none rfl (cs_none rfl (cs_nil)))))))))))))))))))) (by kernel_rfl)
theorem ev49 (n : Nat) (x : pdens [.c true (.v false (.rs 57 (.rs 72 (.pair (.int .i64) (.pair (.int .i64) (.int .i64))))))]) : evSig (tb49 n) Tryz.f49 [.c true (.v false (.rs 57 (.rs 72 (.pair (.int .i64) (.pair (.int .i64) (.int .i64))))))] [.c false (.r 76 (.pair (.int .i64) (.pair (.int .i64) .bool)))] x = F49 n x.1 := by kernel_rfl
theorem con49_ok (n : Nat) : Con.ok Tryz.prog 49 (con49 n) := conOf_ok (tb49_ok n) (body_la (by kernel_rfl : Tryz.f49.body = some code49) (la49 n)) Tryz.func49 (enters Tryz.func49 (by kernel_rfl) (by kernel_rfl)) rfl rfl (ev49 n)
/-! ### loop.example/fathomline/spec.ExecEvents -/
def J34_9 (n : Nat) (x9 : List (List (Int × Int × Int)) × Unit) (x10 : List (Int × Int × Bool)) (x11 : Int) (x12 : Int) : Option (odens [(.normal, [(1, (.b 34 [(.v false (.rs 57 (.rs 72 (.pair (.int .i64) (.pair (.int .i64) (.int .i64))))))])), (3, (.c false (.r 76 (.pair (.int .i64) (.pair (.int .i64) .bool))))), (4, (.c false (.v true (.int .i64)))), (5, (.c false (.v true (.int .i64))))])]) :=
    some (Sum.inl ((x9.fst, ()), x10, x11, Go.IntKind.i64.wrap (x12 + (1 : Int)), ()))
def L34_2 (n : Nat) : Nat → List (List (Int × Int × Int)) × Unit → List (Int × Int × Bool) → Int → Int → Option (odens [((.exit 2), [(1, (.b 34 [(.v false (.rs 57 (.rs 72 (.pair (.int .i64) (.pair (.int .i64) (.int .i64))))))])), (3, (.c false (.r 76 (.pair (.int .i64) (.pair (.int .i64) .bool))))), (4, (.c false (.v true (.int .i64))))])])
  | 0, _, _, _, _ => none
  | m + 1, x5, x6, x7, x8 =>
    if (0 : Int) ≤ x7 then
    if x7 < (↑(List.length x5.fst) : Int) then
    cond (Decidable.decide (x8 < (↑(List.length (List.getD x5.fst x7.toNat [])) : Int)))
    (if (x6.length + [(x7, x8, Bool.false)].length) * (24 : Nat) ≤ (140737488355328 : Nat) then
     if (0 : Int) ≤ x7 then
     if x7 < (↑(List.length x5.fst) : Int) then
     if (0 : Int) ≤ x8 then
     if x8 < (↑(List.length (List.getD x5.fst x7.toNat [])) : Int) then
     cond ((List.getD (List.getD x5.fst x7.toNat []) x8.toNat ((0 : Int), (0 : Int), (0 : Int))).fst == (9 : Int))
     (if ((x6 ++ [(x7, x8, Bool.false)]).length + [(x7, x8, Bool.true)].length) * (24 : Nat) ≤ (140737488355328 : Nat) then
      match J34_9 n ((x5.fst, ())) (x6 ++ [(x7, x8, Bool.false)] ++ [(x7, x8, Bool.true)]) (x7) (x8) with
      | none => none
      | some (Sum.inl v13) =>
       L34_2 n m ((v13.fst.fst, ())) (v13.snd.fst) (v13.snd.snd.fst) (v13.snd.snd.snd.fst)
      else none)
     (match J34_9 n ((x5.fst, ())) (x6 ++ [(x7, x8, Bool.false)]) (x7) (x8) with
      | none => none
      | some (Sum.inl v14) =>
       L34_2 n m ((v14.fst.fst, ())) (v14.snd.fst) (v14.snd.snd.fst) (v14.snd.snd.snd.fst))
     else none
     else none
     else none
     else none
     else none)
    (some (Sum.inl ((x5.fst, ()), x6, x7, ())))
    else none
    else none
def L34_0 (n : Nat) : Nat → List (List (Int × Int × Int)) × Unit → List (Int × Int × Bool) → Int → Option (odens [((.exit 0), [(3, (.c false (.r 76 (.pair (.int .i64) (.pair (.int .i64) .bool)))))])])
  | 0, _, _, _ => none
  | m + 1, x2, x3, x4 =>
    cond (Decidable.decide (x4 < (↑(List.length x2.fst) : Int)))
    (match L34_2 n n ((x2.fst, ())) (x3) (x4) ((0 : Int)) with
     | none => none
     | some (Sum.inl v15) =>
      L34_0 n m ((v15.fst.fst, ())) (v15.snd.fst) (Go.IntKind.i64.wrap (v15.snd.snd.fst + (1 : Int))))
    (some (Sum.inl (x3, ())))
def F34 (n : Nat) (a0 : List (List (Int × Int × Int))) : Option (rdens [.c true (.v false (.rs 57 (.rs 72 (.pair (.int .i64) (.pair (.int .i64) (.int .i64))))))] [.c false (.r 76 (.pair (.int .i64) (.pair (.int .i64) .bool)))]) :=
  (F33 n (a0)).bind fun y1 =>
  cond (!y1.fst)
  (some ([], ()))
  (match L34_0 n n ((a0, ())) ([]) ((0 : Int)) with
   | none => none
   | some (Sum.inl v16) =>
    some (v16.fst, ()))
noncomputable def con34 (n : Nat) : Con := conOf [.c true (.v false (.rs 57 (.rs 72 (.pair (.int .i64) (.pair (.int .i64) (.int .i64))))))] [.c false (.r 76 (.pair (.int .i64) (.pair (.int .i64) .bool)))] fun x => F34 n x.1
noncomputable def tb34 (n : Nat) : Tb := ⟨tiOf Tryz.prog, conL [(33, con33 n)], n, [], 51, lpL [(2, ⟨[(1, (.b 34 [(.v false (.rs 57 (.rs 72 (.pair (.int .i64) (.pair (.int .i64) (.int .i64))))))])), (3, (.c false (.r 76 (.pair (.int .i64) (.pair (.int .i64) .bool))))), (4, (.c false (.v true (.int .i64)))), (5, (.c false (.v true (.int .i64))))], [((.exit 2), [(1, (.b 34 [(.v false (.rs 57 (.rs 72 (.pair (.int .i64) (.pair (.int .i64) (.int .i64))))))])), (3, (.c false (.r 76 (.pair (.int .i64) (.pair (.int .i64) .bool))))), (4, (.c false (.v true (.int .i64))))])], fun m v => L34_2 n m v.1 v.2.1 v.2.2.1 v.2.2.2.1⟩), (0, ⟨[(1, (.b 34 [(.v false (.rs 57 (.rs 72 (.pair (.int .i64) (.pair (.int .i64) (.int .i64))))))])), (3, (.c false (.r 76 (.pair (.int .i64) (.pair (.int .i64) .bool))))), (4, (.c false (.v true (.int .i64))))], [((.exit 0), [(3, (.c false (.r 76 (.pair (.int .i64) (.pair (.int .i64) .bool)))))])], fun m v => L34_0 n m v.1 v.2.1 v.2.2.1⟩)], ctL [(9, ⟨[(1, (.b 34 [(.v false (.rs 57 (.rs 72 (.pair (.int .i64) (.pair (.int .i64) (.int .i64))))))])), (3, (.c false (.r 76 (.pair (.int .i64) (.pair (.int .i64) .bool))))), (4, (.c false (.v true (.int .i64)))), (5, (.c false (.v true (.int .i64))))], [(.normal, [(1, (.b 34 [(.v false (.rs 57 (.rs 72 (.pair (.int .i64) (.pair (.int .i64) (.int .i64))))))])), (3, (.c false (.r 76 (.pair (.int .i64) (.pair (.int .i64) .bool))))), (4, (.c false (.v true (.int .i64)))), (5, (.c false (.v true (.int .i64))))])], fun v => J34_9 n v.1 v.2.1 v.2.2.1 v.2.2.2.1⟩)], [], true⟩
noncomputable def code34 : Code := Tryz.f34.body.getD .skip
theorem tb34_ok (n : Nat) : (tb34 n).ok Tryz.prog := tbOk mixed (⟨con33_ok n, trivial⟩)
theorem lp34_2 (n : Nat) : LpAt (tb34 n) (loopBody code34 2) 2 := lpAt rfl (fun _ => by kernel_rfl) (fun _ _ => by kernel_rfl)
theorem lp34_0 (n : Nat) : LpAt (tb34 n) (loopBody code34 0) 0 := lpAt rfl (fun _ => by kernel_rfl) (fun _ _ => by kernel_rfl)
theorem blocks34 : blocks code34 = [(0, .loop (loopBody code34 0)), (1, blockBody code34 1), (2, .loop (loopBody code34 2)), (3, blockBody code34 3)] := by kernel_rfl
theorem ct34_9 (n : Nat) : CtOk (tb34 n) (sec code34 13).2 ⟨[(1, (.b 34 [(.v false (.rs 57 (.rs 72 (.pair (.int .i64) (.pair (.int .i64) (.int .i64))))))])), (3, (.c false (.r 76 (.pair (.int .i64) (.pair (.int .i64) .bool))))), (4, (.c false (.v true (.int .i64)))), (5, (.c false (.v true (.int .i64))))], [(.normal, [(1, (.b 34 [(.v false (.rs 57 (.rs 72 (.pair (.int .i64) (.pair (.int .i64) (.int .i64))))))])), (3, (.c false (.r 76 (.pair (.int .i64) (.pair (.int .i64) .bool))))), (4, (.c false (.v true (.int .i64)))), (5, (.c false (.v true (.int .i64))))])], fun v => J34_9 n v.1 v.2.1 v.2.2.1 v.2.2.2.1⟩ := fun _ => by kernel_rfl
theorem secs34 : seconds code34 = [(some 1, (sec code34 0).2), (some 2, (sec code34 1).2), (some 4, (sec code34 2).2), (none, (sec code34 3).2), (none, (sec code34 4).2), (some 13, (sec code34 5).2), (some 5, (sec code34 6).2), (some 7, (sec code34 7).2), (none, (sec code34 8).2), (some 6, (sec code34 9).2), (some 8, (sec code34 10).2), (some 10, (sec code34 11).2), (none, (sec code34 12).2), (some 9, (sec code34 13).2), (some 11, (sec code34 14).2), (none, (sec code34 15).2), (none, (sec code34 16).2)] := by kernel_rfl
theorem la34 (n : Nat) : LpAll (tb34 n) code34 := lpAll blocks34 (bl_loop (lp34_0 n) (bl_none rfl (bl_loop (lp34_2 n) (bl_none rfl (bl_nil))))) secs34 (cs_none rfl (cs_none rfl (cs_none rfl (cs_none rfl (cs_none rfl (cs_none rfl (cs_none rfl (cs_none rfl (cs_none rfl (cs_none rfl (cs_none rfl (cs_none rfl (cs_none rfl (cs_one rfl (ct34_9 n) (cs_none rfl (cs_none rfl (cs_none rfl (cs_nil)))))))))))))))))) (by kernel_rfl)
theorem ev34 (n : Nat) (x : pdens [.c true (.v false (.rs 57 (.rs 72 (.pair (.int .i64) (.pair (.int .i64) (.int .i64))))))]) : evSig (tb34 n) Tryz.f34 [.c true (.v false (.rs 57 (.rs 72 (.pair (.int .i64) (.pair (.int .i64) (.int .i64))))))] [.c false (.r 76 (.pair (.int .i64) (.pair (.int .i64) .bool)))] x = F34 n x.1 := by kernel_rfl
theorem con34_ok (n : Nat) : Con.ok Tryz.prog 34 (con34 n) := conOf_ok (tb34_ok n) (body_la (by kernel_rfl : Tryz.f34.body = some code34) (la34 n)) Tryz.func34 (enters Tryz.func34 (by kernel_rfl) (by kernel_rfl)) rfl rfl (ev34 n)
end Go.Proofs.YtdacfaincamliaaGreat.Ev
