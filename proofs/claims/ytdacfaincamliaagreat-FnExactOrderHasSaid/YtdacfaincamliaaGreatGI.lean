/- Plain functions that the loaded code comes to, and that it does. Conditions: none. -/
import Derived.Test.YtdacfaincamliaaGreatGE
import Derived.Test.YtdacfaincamliaaGreatKV
namespace Go.Proofs.YtdacfaincamliaaGreat.Ev
open Go Go.Proofs
/-! ### loop.example/fathomline/impl.sceneOf -/
def L26_0 (n : Nat) : Nat → List (List (Int × Int × Int)) × Unit → List (List (Int × Int × Int)) × List (Int × Int × Bool) × List (Int × Int × Int) × Unit → List (List (Int × Int × Int)) × List (Int × Int × Bool) × List (Int × Int × Int) × Unit → List (Int × Int × Bool) → Int → Int → Option (odens [((.exit 0), [(2, (.b 59 [(.o (.rs 57 (.rs 72 (.pair (.int .i64) (.pair (.int .i64) (.int .i64)))))), (.r 76 (.pair (.int .i64) (.pair (.int .i64) .bool))), (.r 72 (.pair (.int .i64) (.pair (.int .i64) (.int .i64))))])), (3, (.b 59 [(.v true (.rs 57 (.rs 72 (.pair (.int .i64) (.pair (.int .i64) (.int .i64)))))), (.v true (.rs 76 (.pair (.int .i64) (.pair (.int .i64) .bool)))), (.r 72 (.pair (.int .i64) (.pair (.int .i64) (.int .i64))))]))])])
  | 0, _, _, _, _, _, _ => none
  | m + 1, x2, x3, x4, x5, x6, x7 =>
    cond (Decidable.decide (x7 < x6))
    (if (0 : Int) ≤ x7 then
     if x7 < (↑x5.length : Int) then
     if (0 : Int) ≤ (x5.getD x7.toNat ((0 : Int), (0 : Int), Bool.false)).fst then
     if (x5.getD x7.toNat ((0 : Int), (0 : Int), Bool.false)).fst < (↑(List.length x2.fst) : Int) then
     if (0 : Int) ≤ (x5.getD x7.toNat ((0 : Int), (0 : Int), Bool.false)).snd.fst then
     if (x5.getD x7.toNat ((0 : Int), (0 : Int), Bool.false)).snd.fst < (↑(List.length (List.getD x2.fst (Int.toNat (x5.getD x7.toNat ((0 : Int), (0 : Int), Bool.false)).fst) [])) : Int) then
     if (List.length x4.snd.snd.fst + [((List.getD (List.getD x2.fst (Int.toNat (x5.getD x7.toNat ((0 : Int), (0 : Int), Bool.false)).fst) []) (Int.toNat (x5.getD x7.toNat ((0 : Int), (0 : Int), Bool.false)).snd.fst) ((0 : Int), (0 : Int), (0 : Int))).fst, (List.getD (List.getD x2.fst (Int.toNat (x5.getD x7.toNat ((0 : Int), (0 : Int), Bool.false)).fst) []) (Int.toNat (x5.getD x7.toNat ((0 : Int), (0 : Int), Bool.false)).snd.fst) ((0 : Int), (0 : Int), (0 : Int))).snd.fst, (List.getD (List.getD x2.fst (Int.toNat (x5.getD x7.toNat ((0 : Int), (0 : Int), Bool.false)).fst) []) (Int.toNat (x5.getD x7.toNat ((0 : Int), (0 : Int), Bool.false)).snd.fst) ((0 : Int), (0 : Int), (0 : Int))).snd.snd)].length) * (24 : Nat) ≤ (140737488355328 : Nat) then
     L26_0 n m ((x2.fst, ())) ((x3.fst, x3.snd.fst, x3.snd.snd.fst, ())) ((x4.fst, x4.snd.fst, x4.snd.snd.fst ++ [((List.getD (List.getD x2.fst (Int.toNat (x5.getD x7.toNat ((0 : Int), (0 : Int), Bool.false)).fst) []) (Int.toNat (x5.getD x7.toNat ((0 : Int), (0 : Int), Bool.false)).snd.fst) ((0 : Int), (0 : Int), (0 : Int))).fst, (List.getD (List.getD x2.fst (Int.toNat (x5.getD x7.toNat ((0 : Int), (0 : Int), Bool.false)).fst) []) (Int.toNat (x5.getD x7.toNat ((0 : Int), (0 : Int), Bool.false)).snd.fst) ((0 : Int), (0 : Int), (0 : Int))).snd.fst, (List.getD (List.getD x2.fst (Int.toNat (x5.getD x7.toNat ((0 : Int), (0 : Int), Bool.false)).fst) []) (Int.toNat (x5.getD x7.toNat ((0 : Int), (0 : Int), Bool.false)).snd.fst) ((0 : Int), (0 : Int), (0 : Int))).snd.snd)], ())) (x5) (x6) (Go.IntKind.i64.wrap (x7 + (1 : Int)))
     else none
     else none
     else none
     else none
     else none
     else none
     else none)
    (some (Sum.inl ((x3.fst, x3.snd.fst, x3.snd.snd.fst, ()), (x4.fst, x4.snd.fst, x4.snd.snd.fst, ()), ())))
def F26 (n : Nat) (a0 : List (List (Int × Int × Int))) : Option (rdens [.c true (.v true (.rs 57 (.rs 72 (.pair (.int .i64) (.pair (.int .i64) (.int .i64))))))] [.c true (.v true (.pair (.rs 57 (.rs 72 (.pair (.int .i64) (.pair (.int .i64) (.int .i64))))) (.pair (.rs 76 (.pair (.int .i64) (.pair (.int .i64) .bool))) (.rs 72 (.pair (.int .i64) (.pair (.int .i64) (.int .i64)))))))]) :=
  (F49 n (a0)).bind fun y1 =>
  match L26_0 n n ((a0, ())) (([], [], [], ())) ((a0, y1.fst, [], ())) (y1.fst) ((↑(List.length y1.fst) : Int)) ((0 : Int)) with
  | none => none
  | some (Sum.inl v8) =>
   some ((v8.snd.fst.fst, v8.snd.fst.snd.fst, v8.snd.fst.snd.snd.fst), ())
noncomputable def con26 (n : Nat) : Con := conAl (conOf [.c true (.v true (.rs 57 (.rs 72 (.pair (.int .i64) (.pair (.int .i64) (.int .i64))))))] [.c true (.v true (.pair (.rs 57 (.rs 72 (.pair (.int .i64) (.pair (.int .i64) (.int .i64))))) (.pair (.rs 76 (.pair (.int .i64) (.pair (.int .i64) .bool))) (.rs 72 (.pair (.int .i64) (.pair (.int .i64) (.int .i64)))))))] fun x => F26 n x.1)
noncomputable def tb26 (n : Nat) : Tb := ⟨tiOf Tryz.prog, conL [(49, con49 n)], n, [], 34, lpL [(0, ⟨[(1, (.b 34 [(.v true (.rs 57 (.rs 72 (.pair (.int .i64) (.pair (.int .i64) (.int .i64))))))])), (2, (.b 59 [(.o (.rs 57 (.rs 72 (.pair (.int .i64) (.pair (.int .i64) (.int .i64)))))), (.r 76 (.pair (.int .i64) (.pair (.int .i64) .bool))), (.r 72 (.pair (.int .i64) (.pair (.int .i64) (.int .i64))))])), (3, (.b 59 [(.v true (.rs 57 (.rs 72 (.pair (.int .i64) (.pair (.int .i64) (.int .i64)))))), (.v true (.rs 76 (.pair (.int .i64) (.pair (.int .i64) .bool)))), (.r 72 (.pair (.int .i64) (.pair (.int .i64) (.int .i64))))])), (11, (.c false (.v true (.rs 76 (.pair (.int .i64) (.pair (.int .i64) .bool)))))), (12, (.c false (.v true (.int .i64)))), (13, (.c false (.v true (.int .i64))))], [((.exit 0), [(2, (.b 59 [(.o (.rs 57 (.rs 72 (.pair (.int .i64) (.pair (.int .i64) (.int .i64)))))), (.r 76 (.pair (.int .i64) (.pair (.int .i64) .bool))), (.r 72 (.pair (.int .i64) (.pair (.int .i64) (.int .i64))))])), (3, (.b 59 [(.v true (.rs 57 (.rs 72 (.pair (.int .i64) (.pair (.int .i64) (.int .i64)))))), (.v true (.rs 76 (.pair (.int .i64) (.pair (.int .i64) .bool)))), (.r 72 (.pair (.int .i64) (.pair (.int .i64) (.int .i64))))]))])], fun m v => L26_0 n m v.1 v.2.1 v.2.2.1 v.2.2.2.1 v.2.2.2.2.1 v.2.2.2.2.2.1⟩)], ctL [], [], true⟩
noncomputable def code26 : Code := Tryz.f26.body.getD .skip
theorem tb26_ok (n : Nat) : (tb26 n).ok Tryz.prog := tbOk mixed (⟨con49_ok n, trivial⟩)
theorem lp26_0 (n : Nat) : LpAt (tb26 n) (loopBody code26 0) 0 := lpAt rfl (fun _ => by kernel_rfl) (fun _ _ => by kernel_rfl)
theorem blocks26 : blocks code26 = [(0, .loop (loopBody code26 0)), (1, blockBody code26 1)] := by kernel_rfl
theorem la26 (n : Nat) : LpAll (tb26 n) code26 := lpAll blocks26 (bl_loop (lp26_0 n) (bl_none rfl (bl_nil))) rfl (cs_no fun _ => rfl) (by kernel_rfl)
theorem ev26 (n : Nat) (x : pdens [.c true (.v true (.rs 57 (.rs 72 (.pair (.int .i64) (.pair (.int .i64) (.int .i64))))))]) : evSig (tb26 n) Tryz.f26 [.c true (.v true (.rs 57 (.rs 72 (.pair (.int .i64) (.pair (.int .i64) (.int .i64))))))] [.c true (.v true (.pair (.rs 57 (.rs 72 (.pair (.int .i64) (.pair (.int .i64) (.int .i64))))) (.pair (.rs 76 (.pair (.int .i64) (.pair (.int .i64) .bool))) (.rs 72 (.pair (.int .i64) (.pair (.int .i64) (.int .i64)))))))] x = F26 n x.1 := by kernel_rfl
theorem con26_ok (n : Nat) : Con.ok Tryz.prog 26 (con26 n) := conAl_ok (conOf_ok (tb26_ok n) (body_la (by kernel_rfl : Tryz.f26.body = some code26) (la26 n)) Tryz.func26 (enters Tryz.func26 (by kernel_rfl) (by kernel_rfl)) rfl rfl (ev26 n))
/-! ### (loop.example/fathomline/impl.scene).writers -/
def J76_7 (n : Nat) (x7 : Int) (x8 : List Int) (x9 : List (Int × Int × Int)) (x10 : Int) (x11 : Int) : Option (odens [(.normal, [(1, (.c false (.v true (.int .i64)))), (5, (.c false (.r 3 (.int .i64)))), (9, (.c false (.v false (.rs 72 (.pair (.int .i64) (.pair (.int .i64) (.int .i64))))))), (10, (.c false (.v true (.int .i64)))), (11, (.c false (.v true (.int .i64))))])]) :=
    some (Sum.inl (x7, x8, x9, x10, Go.IntKind.i64.wrap (x11 + (1 : Int)), ()))
def L76_0 (n : Nat) : Nat → Int → List Int → List (Int × Int × Int) → Int → Int → Option (odens [((.exit 0), [(5, (.c false (.r 3 (.int .i64))))])])
  | 0, _, _, _, _, _ => none
  | m + 1, x1, x2, x3, x4, x5 =>
    cond (Decidable.decide (x5 < x4))
    (if (0 : Int) ≤ x5 then
     if x5 < (↑x3.length : Int) then
     (F52 n (((x3.getD x5.toNat ((0 : Int), (0 : Int), (0 : Int))).fst, (x3.getD x5.toNat ((0 : Int), (0 : Int), (0 : Int))).snd.fst, (x3.getD x5.toNat ((0 : Int), (0 : Int), (0 : Int))).snd.snd))).bind fun y6 =>
     cond (y6.fst)
     (cond ((x3.getD x5.toNat ((0 : Int), (0 : Int), (0 : Int))).snd.fst == x1)
      (if (x2.length + [x5].length) * (8 : Nat) ≤ (140737488355328 : Nat) then
       match J76_7 n (x1) (x2 ++ [x5]) (x3) (x4) (x5) with
       | none => none
       | some (Sum.inl v12) =>
        L76_0 n m (v12.fst) (v12.snd.fst) (v12.snd.snd.fst) (v12.snd.snd.snd.fst) (v12.snd.snd.snd.snd.fst)
       else none)
      (match J76_7 n (x1) (x2) (x3) (x4) (x5) with
       | none => none
       | some (Sum.inl v13) =>
        L76_0 n m (v13.fst) (v13.snd.fst) (v13.snd.snd.fst) (v13.snd.snd.snd.fst) (v13.snd.snd.snd.snd.fst)))
     (match J76_7 n (x1) (x2) (x3) (x4) (x5) with
      | none => none
      | some (Sum.inl v14) =>
       L76_0 n m (v14.fst) (v14.snd.fst) (v14.snd.snd.fst) (v14.snd.snd.snd.fst) (v14.snd.snd.snd.snd.fst))
     else none
     else none)
    (some (Sum.inl (x2, ())))
def F76 (n : Nat) (a0 : List (List (Int × Int × Int)) × List (Int × Int × Bool) × List (Int × Int × Int)) (a1 : Int) : Option (rdens [.c true (.v false (.pair (.rs 57 (.rs 72 (.pair (.int .i64) (.pair (.int .i64) (.int .i64))))) (.pair (.rs 76 (.pair (.int .i64) (.pair (.int .i64) .bool))) (.rs 72 (.pair (.int .i64) (.pair (.int .i64) (.int .i64))))))), .c false (.v true (.int .i64))] [.c false (.r 3 (.int .i64))]) :=
  match L76_0 n n (a1) ([]) (a0.snd.snd) ((↑(List.length a0.snd.snd) : Int)) ((0 : Int)) with
  | none => none
  | some (Sum.inl v15) =>
   some (v15.fst, ())
noncomputable def con76 (n : Nat) : Con := conOf [.c true (.v false (.pair (.rs 57 (.rs 72 (.pair (.int .i64) (.pair (.int .i64) (.int .i64))))) (.pair (.rs 76 (.pair (.int .i64) (.pair (.int .i64) .bool))) (.rs 72 (.pair (.int .i64) (.pair (.int .i64) (.int .i64))))))), .c false (.v true (.int .i64))] [.c false (.r 3 (.int .i64))] fun x => F76 n x.1 x.2.1
noncomputable def tb76 (n : Nat) : Tb := ⟨tiOf Tryz.prog, conL [(52, con52 n)], n, [], 30, lpL [(0, ⟨[(1, (.c false (.v true (.int .i64)))), (5, (.c false (.r 3 (.int .i64)))), (9, (.c false (.v false (.rs 72 (.pair (.int .i64) (.pair (.int .i64) (.int .i64))))))), (10, (.c false (.v true (.int .i64)))), (11, (.c false (.v true (.int .i64))))], [((.exit 0), [(5, (.c false (.r 3 (.int .i64))))])], fun m v => L76_0 n m v.1 v.2.1 v.2.2.1 v.2.2.2.1 v.2.2.2.2.1⟩)], ctL [(7, ⟨[(1, (.c false (.v true (.int .i64)))), (5, (.c false (.r 3 (.int .i64)))), (9, (.c false (.v false (.rs 72 (.pair (.int .i64) (.pair (.int .i64) (.int .i64))))))), (10, (.c false (.v true (.int .i64)))), (11, (.c false (.v true (.int .i64))))], [(.normal, [(1, (.c false (.v true (.int .i64)))), (5, (.c false (.r 3 (.int .i64)))), (9, (.c false (.v false (.rs 72 (.pair (.int .i64) (.pair (.int .i64) (.int .i64))))))), (10, (.c false (.v true (.int .i64)))), (11, (.c false (.v true (.int .i64))))])], fun v => J76_7 n v.1 v.2.1 v.2.2.1 v.2.2.2.1 v.2.2.2.2.1⟩)], [], true⟩
noncomputable def code76 : Code := Tryz.f76.body.getD .skip
theorem tb76_ok (n : Nat) : (tb76 n).ok Tryz.prog := tbOk mixed (⟨con52_ok n, trivial⟩)
theorem lp76_0 (n : Nat) : LpAt (tb76 n) (loopBody code76 0) 0 := lpAt rfl (fun _ => by kernel_rfl) (fun _ _ => by kernel_rfl)
theorem blocks76 : blocks code76 = [(0, .loop (loopBody code76 0)), (1, blockBody code76 1)] := by kernel_rfl
theorem ct76_7 (n : Nat) : CtOk (tb76 n) (sec code76 6).2 ⟨[(1, (.c false (.v true (.int .i64)))), (5, (.c false (.r 3 (.int .i64)))), (9, (.c false (.v false (.rs 72 (.pair (.int .i64) (.pair (.int .i64) (.int .i64))))))), (10, (.c false (.v true (.int .i64)))), (11, (.c false (.v true (.int .i64))))], [(.normal, [(1, (.c false (.v true (.int .i64)))), (5, (.c false (.r 3 (.int .i64)))), (9, (.c false (.v false (.rs 72 (.pair (.int .i64) (.pair (.int .i64) (.int .i64))))))), (10, (.c false (.v true (.int .i64)))), (11, (.c false (.v true (.int .i64))))])], fun v => J76_7 n v.1 v.2.1 v.2.2.1 v.2.2.2.1 v.2.2.2.2.1⟩ := fun _ => by kernel_rfl
theorem secs76 : seconds code76 = [(some 1, (sec code76 0).2), (some 2, (sec code76 1).2), (some 8, (sec code76 2).2), (some 3, (sec code76 3).2), (none, (sec code76 4).2), (some 4, (sec code76 5).2), (some 7, (sec code76 6).2), (some 5, (sec code76 7).2), (none, (sec code76 8).2), (none, (sec code76 9).2)] := by kernel_rfl
theorem la76 (n : Nat) : LpAll (tb76 n) code76 := lpAll blocks76 (bl_loop (lp76_0 n) (bl_none rfl (bl_nil))) secs76 (cs_none rfl (cs_none rfl (cs_none rfl (cs_none rfl (cs_none rfl (cs_none rfl (cs_one rfl (ct76_7 n) (cs_none rfl (cs_none rfl (cs_none rfl (cs_nil))))))))))) (by kernel_rfl)
theorem ev76 (n : Nat) (x : pdens [.c true (.v false (.pair (.rs 57 (.rs 72 (.pair (.int .i64) (.pair (.int .i64) (.int .i64))))) (.pair (.rs 76 (.pair (.int .i64) (.pair (.int .i64) .bool))) (.rs 72 (.pair (.int .i64) (.pair (.int .i64) (.int .i64))))))), .c false (.v true (.int .i64))]) : evSig (tb76 n) Tryz.f76 [.c true (.v false (.pair (.rs 57 (.rs 72 (.pair (.int .i64) (.pair (.int .i64) (.int .i64))))) (.pair (.rs 76 (.pair (.int .i64) (.pair (.int .i64) .bool))) (.rs 72 (.pair (.int .i64) (.pair (.int .i64) (.int .i64))))))), .c false (.v true (.int .i64))] [.c false (.r 3 (.int .i64))] x = F76 n x.1 x.2.1 := by kernel_rfl
theorem con76_ok (n : Nat) : Con.ok Tryz.prog 76 (con76 n) := conOf_ok (tb76_ok n) (body_la (by kernel_rfl : Tryz.f76.body = some code76) (la76 n)) Tryz.func76 (enters Tryz.func76 (by kernel_rfl) (by kernel_rfl)) rfl rfl (ev76 n)
/-! ### slices.Index[[]int,int] -/
def L69_0 (n : Nat) : Nat → List Int → Int → Int → Int → Option (odens [(.ret, [(4, (.c false (.v true (.int .i64))))]), ((.exit 0), [])])
  | 0, _, _, _, _ => none
  | m + 1, x1, x2, x3, x4 =>
    cond (Decidable.decide (x4 < x3))
    (if (0 : Int) ≤ x4 then
     if x4 < (↑x1.length : Int) then
     cond (x2 == x1.getD x4.toNat (0 : Int))
     (some (Sum.inl (x4, ())))
     (L69_0 n m (x1) (x2) (x3) (Go.IntKind.i64.wrap (x4 + (1 : Int))))
     else none
     else none)
    (some (Sum.inr (Sum.inl (()))))
def F69 (n : Nat) (a0 : List Int) (a1 : Int) : Option (rdens [.c false (.v false (.rs 3 (.int .i64))), .c false (.v true (.int .i64))] [.c false (.v true (.int .i64))]) :=
  match L69_0 n n (a0) (a1) ((↑a0.length : Int)) ((0 : Int)) with
  | none => none
  | some (Sum.inl v5) =>
   some (v5.fst, ())
  | some (Sum.inr (Sum.inl v6)) =>
   some ((-1 : Int), ())
noncomputable def con69 (n : Nat) : Con := conOf [.c false (.v false (.rs 3 (.int .i64))), .c false (.v true (.int .i64))] [.c false (.v true (.int .i64))] fun x => F69 n x.1 x.2.1
noncomputable def tb69 (n : Nat) : Tb := ⟨tiOf Tryz.prog, conL [], n, [], 19, lpL [(0, ⟨[(0, (.c false (.v false (.rs 3 (.int .i64))))), (1, (.c false (.v true (.int .i64)))), (7, (.c false (.v true (.int .i64)))), (8, (.c false (.v true (.int .i64))))], [(.ret, [(4, (.c false (.v true (.int .i64))))]), ((.exit 0), [])], fun m v => L69_0 n m v.1 v.2.1 v.2.2.1 v.2.2.2.1⟩)], ctL [], [], true⟩
noncomputable def code69 : Code := Tryz.f69.body.getD .skip
theorem tb69_ok (n : Nat) : (tb69 n).ok Tryz.prog := tbOk mixed (trivial)
theorem lp69_0 (n : Nat) : LpAt (tb69 n) (loopBody code69 0) 0 := lpAt rfl (fun _ => by kernel_rfl) (fun _ _ => by kernel_rfl)
theorem blocks69 : blocks code69 = [(0, .loop (loopBody code69 0)), (1, blockBody code69 1)] := by kernel_rfl
theorem la69 (n : Nat) : LpAll (tb69 n) code69 := lpAll blocks69 (bl_loop (lp69_0 n) (bl_none rfl (bl_nil))) rfl (cs_no fun _ => rfl) (by kernel_rfl)
theorem ev69 (n : Nat) (x : pdens [.c false (.v false (.rs 3 (.int .i64))), .c false (.v true (.int .i64))]) : evSig (tb69 n) Tryz.f69 [.c false (.v false (.rs 3 (.int .i64))), .c false (.v true (.int .i64))] [.c false (.v true (.int .i64))] x = F69 n x.1 x.2.1 := by kernel_rfl
theorem con69_ok (n : Nat) : Con.ok Tryz.prog 69 (con69 n) := conOf_ok (tb69_ok n) (body_la (by kernel_rfl : Tryz.f69.body = some code69) (la69 n)) Tryz.func69 (enters Tryz.func69 (by kernel_rfl) (by kernel_rfl)) rfl rfl (ev69 n)
/-! ### slices.Contains[[]int,int] -/
def F75 (n : Nat) (a0 : List Int) (a1 : Int) : Option (rdens [.c false (.v false (.rs 3 (.int .i64))), .c false (.v true (.int .i64))] [.c false (.v true .bool)]) :=
  (F69 n (a0) (a1)).bind fun y1 =>
  some (Decidable.decide (y1.fst ≥ (0 : Int)), ())
noncomputable def con75 (n : Nat) : Con := conOf [.c false (.v false (.rs 3 (.int .i64))), .c false (.v true (.int .i64))] [.c false (.v true .bool)] fun x => F75 n x.1 x.2.1
noncomputable def tb75 (n : Nat) : Tb := ⟨tiOf Tryz.prog, conL [(69, con69 n)], n, [], 9, lpL [], ctL [], [], true⟩
noncomputable def code75 : Code := Tryz.f75.body.getD .skip
theorem tb75_ok (n : Nat) : (tb75 n).ok Tryz.prog := tbOk mixed (⟨con69_ok n, trivial⟩)
theorem blocks75 : blocks code75 = [] := by kernel_rfl
theorem la75 (n : Nat) : LpAll (tb75 n) code75 := lpAll blocks75 (bl_nil) rfl (cs_no fun _ => rfl) (by kernel_rfl)
theorem ev75 (n : Nat) (x : pdens [.c false (.v false (.rs 3 (.int .i64))), .c false (.v true (.int .i64))]) : evSig (tb75 n) Tryz.f75 [.c false (.v false (.rs 3 (.int .i64))), .c false (.v true (.int .i64))] [.c false (.v true .bool)] x = F75 n x.1 x.2.1 := by kernel_rfl
theorem con75_ok (n : Nat) : Con.ok Tryz.prog 75 (con75 n) := conOf_ok (tb75_ok n) (body_la (by kernel_rfl : Tryz.f75.body = some code75) (la75 n)) Tryz.func75 (enters Tryz.func75 (by kernel_rfl) (by kernel_rfl)) rfl rfl (ev75 n)
/-! ### slices.Equal[[]int,int] -/
def L77_0 (n : Nat) : Nat → List Int → List Int → Int → Int → Option (odens [(.ret, [(4, (.c false (.v true .bool)))]), ((.exit 0), [])])
  | 0, _, _, _, _ => none
  | m + 1, x1, x2, x3, x4 =>
    cond (Decidable.decide (x4 < x3))
    (if (0 : Int) ≤ x4 then
     if x4 < (↑x1.length : Int) then
     if (0 : Int) ≤ x4 then
     if x4 < (↑x2.length : Int) then
     cond (x1.getD x4.toNat (0 : Int) != x2.getD x4.toNat (0 : Int))
     (some (Sum.inl (Bool.false, ())))
     (L77_0 n m (x1) (x2) (x3) (Go.IntKind.i64.wrap (x4 + (1 : Int))))
     else none
     else none
     else none
     else none)
    (some (Sum.inr (Sum.inl (()))))
def F77 (n : Nat) (a0 : List Int) (a1 : List Int) : Option (rdens [.c false (.v false (.rs 3 (.int .i64))), .c false (.v false (.rs 3 (.int .i64)))] [.c false (.v true .bool)]) :=
  cond ((↑a0.length : Int) != (↑a1.length : Int))
  (some (Bool.false, ()))
  (match L77_0 n n (a0) (a1) ((↑a0.length : Int)) ((0 : Int)) with
   | none => none
   | some (Sum.inl v5) =>
    some (v5.fst, ())
   | some (Sum.inr (Sum.inl v6)) =>
    some (Bool.true, ()))
noncomputable def con77 (n : Nat) : Con := conOf [.c false (.v false (.rs 3 (.int .i64))), .c false (.v false (.rs 3 (.int .i64)))] [.c false (.v true .bool)] fun x => F77 n x.1 x.2.1
noncomputable def tb77 (n : Nat) : Tb := ⟨tiOf Tryz.prog, conL [], n, [], 26, lpL [(0, ⟨[(0, (.c false (.v false (.rs 3 (.int .i64))))), (1, (.c false (.v false (.rs 3 (.int .i64))))), (12, (.c false (.v true (.int .i64)))), (13, (.c false (.v true (.int .i64))))], [(.ret, [(4, (.c false (.v true .bool)))]), ((.exit 0), [])], fun m v => L77_0 n m v.1 v.2.1 v.2.2.1 v.2.2.2.1⟩)], ctL [], [], true⟩
noncomputable def code77 : Code := Tryz.f77.body.getD .skip
theorem tb77_ok (n : Nat) : (tb77 n).ok Tryz.prog := tbOk mixed (trivial)
theorem lp77_0 (n : Nat) : LpAt (tb77 n) (loopBody code77 0) 0 := lpAt rfl (fun _ => by kernel_rfl) (fun _ _ => by kernel_rfl)
theorem blocks77 : blocks code77 = [(0, .loop (loopBody code77 0)), (1, blockBody code77 1)] := by kernel_rfl
theorem la77 (n : Nat) : LpAll (tb77 n) code77 := lpAll blocks77 (bl_loop (lp77_0 n) (bl_none rfl (bl_nil))) rfl (cs_no fun _ => rfl) (by kernel_rfl)
theorem ev77 (n : Nat) (x : pdens [.c false (.v false (.rs 3 (.int .i64))), .c false (.v false (.rs 3 (.int .i64)))]) : evSig (tb77 n) Tryz.f77 [.c false (.v false (.rs 3 (.int .i64))), .c false (.v false (.rs 3 (.int .i64)))] [.c false (.v true .bool)] x = F77 n x.1 x.2.1 := by kernel_rfl
theorem con77_ok (n : Nat) : Con.ok Tryz.prog 77 (con77 n) := conOf_ok (tb77_ok n) (body_la (by kernel_rfl : Tryz.f77.body = some code77) (la77 n)) Tryz.func77 (enters Tryz.func77 (by kernel_rfl) (by kernel_rfl)) rfl rfl (ev77 n)
/-! ### (loop.example/fathomline/impl.scene).fits -/
def J67_12 (n : Nat) (x9 : (List (List (Int × Int × Int)) × List (Int × Int × Bool) × List (Int × Int × Int)) × Unit) (x10 : (List Int × List (List Int)) × Unit) (x11 : List Int) (x12 : Int) (x13 : Int) : Option (odens [(.normal, [(2, (.b 59 [(.v false (.pair (.rs 57 (.rs 72 (.pair (.int .i64) (.pair (.int .i64) (.int .i64))))) (.pair (.rs 76 (.pair (.int .i64) (.pair (.int .i64) .bool))) (.rs 72 (.pair (.int .i64) (.pair (.int .i64) (.int .i64)))))))])), (3, (.b 36 [(.v false (.pair (.rs 3 (.int .i64)) (.rs 25 (.rs 3 (.int .i64)))))])), (24, (.c false (.v false (.rs 3 (.int .i64))))), (25, (.c false (.v true (.int .i64)))), (26, (.c false (.v true (.int .i64))))])]) :=
    some (Sum.inl (((x9.fst.fst, x9.fst.snd.fst, x9.fst.snd.snd), ()), ((x10.fst.fst, x10.fst.snd), ()), x11, x12, Go.IntKind.i64.wrap (x13 + (1 : Int)), ()))
def L67_0 (n : Nat) : Nat → (List (List (Int × Int × Int)) × List (Int × Int × Bool) × List (Int × Int × Int)) × Unit → (List Int × List (List Int)) × Unit → List Int → Int → Int → Option (odens [(.ret, [(4, (.c false (.v true .bool)))]), ((.exit 0), [(2, (.b 59 [(.v false (.pair (.rs 57 (.rs 72 (.pair (.int .i64) (.pair (.int .i64) (.int .i64))))) (.pair (.rs 76 (.pair (.int .i64) (.pair (.int .i64) .bool))) (.rs 72 (.pair (.int .i64) (.pair (.int .i64) (.int .i64)))))))])), (3, (.b 36 [(.v false (.pair (.rs 3 (.int .i64)) (.rs 25 (.rs 3 (.int .i64)))))]))])])
  | 0, _, _, _, _, _ => none
  | m + 1, x3, x4, x5, x6, x7 =>
    cond (Decidable.decide (x7 < x6))
    (if (0 : Int) ≤ x7 then
     if x7 < (↑x5.length : Int) then
     if (0 : Int) ≤ x7 then
     if x7 < (↑(List.length x3.fst.snd.snd) : Int) then
     (F53 n (((List.getD x3.fst.snd.snd x7.toNat ((0 : Int), (0 : Int), (0 : Int))).fst, (List.getD x3.fst.snd.snd x7.toNat ((0 : Int), (0 : Int), (0 : Int))).snd.fst, (List.getD x3.fst.snd.snd x7.toNat ((0 : Int), (0 : Int), (0 : Int))).snd.snd))).bind fun y8 =>
     cond (!y8.fst)
     (cond (x5.getD x7.toNat (0 : Int) != (-2 : Int))
      (some (Sum.inl (Bool.false, ())))
      (match J67_12 n (((x3.fst.fst, x3.fst.snd.fst, x3.fst.snd.snd), ())) (((x4.fst.fst, x4.fst.snd), ())) (x5) (x6) (x7) with
       | none => none
       | some (Sum.inl v14) =>
        L67_0 n m (((v14.fst.fst.fst, v14.fst.fst.snd.fst, v14.fst.fst.snd.snd), ())) (((v14.snd.fst.fst.fst, v14.snd.fst.fst.snd), ())) (v14.snd.snd.fst) (v14.snd.snd.snd.fst) (v14.snd.snd.snd.snd.fst)))
     (cond (x5.getD x7.toNat (0 : Int) != (-1 : Int))
      ((F76 n ((x3.fst.fst, x3.fst.snd.fst, x3.fst.snd.snd)) ((List.getD x3.fst.snd.snd x7.toNat ((0 : Int), (0 : Int), (0 : Int))).snd.fst)).bind fun y15 =>
       (F75 n (y15.fst) (x5.getD x7.toNat (0 : Int))).bind fun y16 =>
       cond (!y16.fst)
       (some (Sum.inl (Bool.false, ())))
       (match J67_12 n (((x3.fst.fst, x3.fst.snd.fst, x3.fst.snd.snd), ())) (((x4.fst.fst, x4.fst.snd), ())) (x5) (x6) (x7) with
        | none => none
        | some (Sum.inl v17) =>
         L67_0 n m (((v17.fst.fst.fst, v17.fst.fst.snd.fst, v17.fst.fst.snd.snd), ())) (((v17.snd.fst.fst.fst, v17.snd.fst.fst.snd), ())) (v17.snd.snd.fst) (v17.snd.snd.snd.fst) (v17.snd.snd.snd.snd.fst)))
      (match J67_12 n (((x3.fst.fst, x3.fst.snd.fst, x3.fst.snd.snd), ())) (((x4.fst.fst, x4.fst.snd), ())) (x5) (x6) (x7) with
       | none => none
       | some (Sum.inl v18) =>
        L67_0 n m (((v18.fst.fst.fst, v18.fst.fst.snd.fst, v18.fst.fst.snd.snd), ())) (((v18.snd.fst.fst.fst, v18.snd.fst.fst.snd), ())) (v18.snd.snd.fst) (v18.snd.snd.snd.fst) (v18.snd.snd.snd.snd.fst)))
     else none
     else none
     else none
     else none)
    (some (Sum.inr (Sum.inl (((x3.fst.fst, x3.fst.snd.fst, x3.fst.snd.snd), ()), ((x4.fst.fst, x4.fst.snd), ()), ()))))
def L67_3 (n : Nat) : Nat → (List (List (Int × Int × Int)) × List (Int × Int × Bool) × List (Int × Int × Int)) × Unit → List (List Int) → Int → Int → Option (odens [(.ret, [(4, (.c false (.v true .bool)))]), ((.exit 3), [])])
  | 0, _, _, _, _ => none
  | m + 1, x21, x22, x23, x24 =>
    cond (Decidable.decide (x24 < x23))
    (if (0 : Int) ≤ x24 then
     if x24 < (↑x22.length : Int) then
     (F79 n (x22.getD x24.toNat [])).bind fun y25 =>
     (F78 n (y25.fst)).bind fun y26 =>
     (F76 n ((x21.fst.fst, x21.fst.snd.fst, x21.fst.snd.snd)) (x24)).bind fun y27 =>
     (F77 n (y26.fst) (y27.fst)).bind fun y28 =>
     cond (!y28.fst)
     (some (Sum.inl (Bool.false, ())))
     (L67_3 n m (((x21.fst.fst, x21.fst.snd.fst, x21.fst.snd.snd), ())) (x22) (x23) (Go.IntKind.i64.wrap (x24 + (1 : Int))))
     else none
     else none)
    (some (Sum.inr (Sum.inl (()))))
def J67_3 (n : Nat) (x1 : (List (List (Int × Int × Int)) × List (Int × Int × Bool) × List (Int × Int × Int)) × Unit) (x2 : (List Int × List (List Int)) × Unit) : Option (odens [(.ret, [(4, (.c false (.v true .bool)))])]) :=
    match L67_0 n n (((x1.fst.fst, x1.fst.snd.fst, x1.fst.snd.snd), ())) (((x2.fst.fst, x2.fst.snd), ())) (x2.fst.fst) ((↑(List.length x2.fst.fst) : Int)) ((0 : Int)) with
    | none => none
    | some (Sum.inl v19) =>
     some (Sum.inl (v19.fst, ()))
    | some (Sum.inr (Sum.inl v20)) =>
     match L67_3 n n (((v20.fst.fst.fst, v20.fst.fst.snd.fst, v20.fst.fst.snd.snd), ())) (v20.snd.fst.fst.snd) ((↑(List.length v20.snd.fst.fst.snd) : Int)) ((0 : Int)) with
     | none => none
     | some (Sum.inl v29) =>
      some (Sum.inl (v29.fst, ()))
     | some (Sum.inr (Sum.inl v30)) =>
      some (Sum.inl (Bool.true, ()))
def F67 (n : Nat) (a0 : List (List (Int × Int × Int)) × List (Int × Int × Bool) × List (Int × Int × Int)) (a1 : List Int × List (List Int)) : Option (rdens [.c true (.v false (.pair (.rs 57 (.rs 72 (.pair (.int .i64) (.pair (.int .i64) (.int .i64))))) (.pair (.rs 76 (.pair (.int .i64) (.pair (.int .i64) .bool))) (.rs 72 (.pair (.int .i64) (.pair (.int .i64) (.int .i64))))))), .c true (.v false (.pair (.rs 3 (.int .i64)) (.rs 25 (.rs 3 (.int .i64)))))] [.c false (.v true .bool)]) :=
  cond ((↑(List.length a1.fst) : Int) != (↑(List.length a0.snd.fst) : Int))
  (some (Bool.false, ()))
  (cond ((↑(List.length a1.snd) : Int) != (3 : Int))
   (some (Bool.false, ()))
   (match J67_3 n (((a0.fst, a0.snd.fst, a0.snd.snd), ())) (((a1.fst, a1.snd), ())) with
    | none => none
    | some (Sum.inl v31) =>
     some (v31.fst, ())))
noncomputable def con67 (n : Nat) : Con := conOf [.c true (.v false (.pair (.rs 57 (.rs 72 (.pair (.int .i64) (.pair (.int .i64) (.int .i64))))) (.pair (.rs 76 (.pair (.int .i64) (.pair (.int .i64) .bool))) (.rs 72 (.pair (.int .i64) (.pair (.int .i64) (.int .i64))))))), .c true (.v false (.pair (.rs 3 (.int .i64)) (.rs 25 (.rs 3 (.int .i64)))))] [.c false (.v true .bool)] fun x => F67 n x.1 x.2.1
noncomputable def tb67 (n : Nat) : Tb := ⟨tiOf Tryz.prog, conL [(53, con53 n), (76, con76 n), (75, con75 n), (79, con79 n), (78, con78 n), (77, con77 n)], n, [], 72, lpL [(0, ⟨[(2, (.b 59 [(.v false (.pair (.rs 57 (.rs 72 (.pair (.int .i64) (.pair (.int .i64) (.int .i64))))) (.pair (.rs 76 (.pair (.int .i64) (.pair (.int .i64) .bool))) (.rs 72 (.pair (.int .i64) (.pair (.int .i64) (.int .i64)))))))])), (3, (.b 36 [(.v false (.pair (.rs 3 (.int .i64)) (.rs 25 (.rs 3 (.int .i64)))))])), (24, (.c false (.v false (.rs 3 (.int .i64))))), (25, (.c false (.v true (.int .i64)))), (26, (.c false (.v true (.int .i64))))], [(.ret, [(4, (.c false (.v true .bool)))]), ((.exit 0), [(2, (.b 59 [(.v false (.pair (.rs 57 (.rs 72 (.pair (.int .i64) (.pair (.int .i64) (.int .i64))))) (.pair (.rs 76 (.pair (.int .i64) (.pair (.int .i64) .bool))) (.rs 72 (.pair (.int .i64) (.pair (.int .i64) (.int .i64)))))))])), (3, (.b 36 [(.v false (.pair (.rs 3 (.int .i64)) (.rs 25 (.rs 3 (.int .i64)))))]))])], fun m v => L67_0 n m v.1 v.2.1 v.2.2.1 v.2.2.2.1 v.2.2.2.2.1⟩), (3, ⟨[(2, (.b 59 [(.v false (.pair (.rs 57 (.rs 72 (.pair (.int .i64) (.pair (.int .i64) (.int .i64))))) (.pair (.rs 76 (.pair (.int .i64) (.pair (.int .i64) .bool))) (.rs 72 (.pair (.int .i64) (.pair (.int .i64) (.int .i64)))))))])), (56, (.c false (.v false (.rs 25 (.rs 3 (.int .i64)))))), (57, (.c false (.v true (.int .i64)))), (58, (.c false (.v true (.int .i64))))], [(.ret, [(4, (.c false (.v true .bool)))]), ((.exit 3), [])], fun m v => L67_3 n m v.1 v.2.1 v.2.2.1 v.2.2.2.1⟩)], ctL [(12, ⟨[(2, (.b 59 [(.v false (.pair (.rs 57 (.rs 72 (.pair (.int .i64) (.pair (.int .i64) (.int .i64))))) (.pair (.rs 76 (.pair (.int .i64) (.pair (.int .i64) .bool))) (.rs 72 (.pair (.int .i64) (.pair (.int .i64) (.int .i64)))))))])), (3, (.b 36 [(.v false (.pair (.rs 3 (.int .i64)) (.rs 25 (.rs 3 (.int .i64)))))])), (24, (.c false (.v false (.rs 3 (.int .i64))))), (25, (.c false (.v true (.int .i64)))), (26, (.c false (.v true (.int .i64))))], [(.normal, [(2, (.b 59 [(.v false (.pair (.rs 57 (.rs 72 (.pair (.int .i64) (.pair (.int .i64) (.int .i64))))) (.pair (.rs 76 (.pair (.int .i64) (.pair (.int .i64) .bool))) (.rs 72 (.pair (.int .i64) (.pair (.int .i64) (.int .i64)))))))])), (3, (.b 36 [(.v false (.pair (.rs 3 (.int .i64)) (.rs 25 (.rs 3 (.int .i64)))))])), (24, (.c false (.v false (.rs 3 (.int .i64))))), (25, (.c false (.v true (.int .i64)))), (26, (.c false (.v true (.int .i64))))])], fun v => J67_12 n v.1 v.2.1 v.2.2.1 v.2.2.2.1 v.2.2.2.2.1⟩), (3, ⟨[(2, (.b 59 [(.v false (.pair (.rs 57 (.rs 72 (.pair (.int .i64) (.pair (.int .i64) (.int .i64))))) (.pair (.rs 76 (.pair (.int .i64) (.pair (.int .i64) .bool))) (.rs 72 (.pair (.int .i64) (.pair (.int .i64) (.int .i64)))))))])), (3, (.b 36 [(.v false (.pair (.rs 3 (.int .i64)) (.rs 25 (.rs 3 (.int .i64)))))]))], [(.ret, [(4, (.c false (.v true .bool)))])], fun v => J67_3 n v.1 v.2.1⟩)], [], true⟩
noncomputable def code67 : Code := Tryz.f67.body.getD .skip
theorem tb67_ok (n : Nat) : (tb67 n).ok Tryz.prog := tbOk mixed (⟨con53_ok n, ⟨con76_ok n, ⟨con75_ok n, ⟨con79_ok n, ⟨con78_ok n, ⟨con77_ok n, trivial⟩⟩⟩⟩⟩⟩)
theorem lp67_0 (n : Nat) : LpAt (tb67 n) (loopBody code67 0) 0 := lpAt rfl (fun _ => by kernel_rfl) (fun _ _ => by kernel_rfl)
theorem lp67_3 (n : Nat) : LpAt (tb67 n) (loopBody code67 3) 3 := lpAt rfl (fun _ => by kernel_rfl) (fun _ _ => by kernel_rfl)
theorem blocks67 : blocks code67 = [(0, .loop (loopBody code67 0)), (1, blockBody code67 1), (2, blockBody code67 2), (3, .loop (loopBody code67 3)), (4, blockBody code67 4)] := by kernel_rfl
theorem ct67_3 (n : Nat) : CtOk (tb67 n) (sec code67 1).2 ⟨[(2, (.b 59 [(.v false (.pair (.rs 57 (.rs 72 (.pair (.int .i64) (.pair (.int .i64) (.int .i64))))) (.pair (.rs 76 (.pair (.int .i64) (.pair (.int .i64) .bool))) (.rs 72 (.pair (.int .i64) (.pair (.int .i64) (.int .i64)))))))])), (3, (.b 36 [(.v false (.pair (.rs 3 (.int .i64)) (.rs 25 (.rs 3 (.int .i64)))))]))], [(.ret, [(4, (.c false (.v true .bool)))])], fun v => J67_3 n v.1 v.2.1⟩ := fun _ => by kernel_rfl
theorem ct67_12 (n : Nat) : CtOk (tb67 n) (sec code67 8).2 ⟨[(2, (.b 59 [(.v false (.pair (.rs 57 (.rs 72 (.pair (.int .i64) (.pair (.int .i64) (.int .i64))))) (.pair (.rs 76 (.pair (.int .i64) (.pair (.int .i64) .bool))) (.rs 72 (.pair (.int .i64) (.pair (.int .i64) (.int .i64)))))))])), (3, (.b 36 [(.v false (.pair (.rs 3 (.int .i64)) (.rs 25 (.rs 3 (.int .i64)))))])), (24, (.c false (.v false (.rs 3 (.int .i64))))), (25, (.c false (.v true (.int .i64)))), (26, (.c false (.v true (.int .i64))))], [(.normal, [(2, (.b 59 [(.v false (.pair (.rs 57 (.rs 72 (.pair (.int .i64) (.pair (.int .i64) (.int .i64))))) (.pair (.rs 76 (.pair (.int .i64) (.pair (.int .i64) .bool))) (.rs 72 (.pair (.int .i64) (.pair (.int .i64) (.int .i64)))))))])), (3, (.b 36 [(.v false (.pair (.rs 3 (.int .i64)) (.rs 25 (.rs 3 (.int .i64)))))])), (24, (.c false (.v false (.rs 3 (.int .i64))))), (25, (.c false (.v true (.int .i64)))), (26, (.c false (.v true (.int .i64))))])], fun v => J67_12 n v.1 v.2.1 v.2.2.1 v.2.2.2.1 v.2.2.2.2.1⟩ := fun _ => by kernel_rfl
theorem secs67 : seconds code67 = [(some 1, (sec code67 0).2), (some 3, (sec code67 1).2), (none, (sec code67 2).2), (none, (sec code67 3).2), (some 13, (sec code67 4).2), (some 4, (sec code67 5).2), (none, (sec code67 6).2), (some 5, (sec code67 7).2), (some 12, (sec code67 8).2), (some 6, (sec code67 9).2), (some 7, (sec code67 10).2), (none, (sec code67 11).2), (none, (sec code67 12).2), (none, (sec code67 13).2), (none, (sec code67 14).2), (none, (sec code67 15).2), (some 19, (sec code67 16).2), (some 14, (sec code67 17).2), (none, (sec code67 18).2), (some 15, (sec code67 19).2), (some 18, (sec code67 20).2), (some 16, (sec code67 21).2), (none, (sec code67 22).2), (none, (sec code67 23).2), (none, (sec code67 24).2)] := by kernel_rfl
theorem la67 (n : Nat) : LpAll (tb67 n) code67 := lpAll blocks67 (bl_loop (lp67_0 n) (bl_none rfl (bl_none rfl (bl_loop (lp67_3 n) (bl_none rfl (bl_nil)))))) secs67 (cs_none rfl (cs_one rfl (ct67_3 n) (cs_none rfl (cs_none rfl (cs_none rfl (cs_none rfl (cs_none rfl (cs_none rfl (cs_one rfl (ct67_12 n) (cs_none rfl (cs_none rfl (cs_none rfl (cs_none rfl (cs_none rfl (cs_none rfl (cs_none rfl (cs_none rfl (cs_none rfl (cs_none rfl (cs_none rfl (cs_none rfl (cs_none rfl (cs_none rfl (cs_none rfl (cs_none rfl (cs_nil)))))))))))))))))))))))))) (by kernel_rfl)
theorem ev67 (n : Nat) (x : pdens [.c true (.v false (.pair (.rs 57 (.rs 72 (.pair (.int .i64) (.pair (.int .i64) (.int .i64))))) (.pair (.rs 76 (.pair (.int .i64) (.pair (.int .i64) .bool))) (.rs 72 (.pair (.int .i64) (.pair (.int .i64) (.int .i64))))))), .c true (.v false (.pair (.rs 3 (.int .i64)) (.rs 25 (.rs 3 (.int .i64)))))]) : evSig (tb67 n) Tryz.f67 [.c true (.v false (.pair (.rs 57 (.rs 72 (.pair (.int .i64) (.pair (.int .i64) (.int .i64))))) (.pair (.rs 76 (.pair (.int .i64) (.pair (.int .i64) .bool))) (.rs 72 (.pair (.int .i64) (.pair (.int .i64) (.int .i64))))))), .c true (.v false (.pair (.rs 3 (.int .i64)) (.rs 25 (.rs 3 (.int .i64)))))] [.c false (.v true .bool)] x = F67 n x.1 x.2.1 := by kernel_rfl
theorem con67_ok (n : Nat) : Con.ok Tryz.prog 67 (con67 n) := conOf_ok (tb67_ok n) (body_la (by kernel_rfl : Tryz.f67.body = some code67) (la67 n)) Tryz.func67 (enters Tryz.func67 (by kernel_rfl) (by kernel_rfl)) rfl rfl (ev67 n)
/-! ### (loop.example/fathomline/impl.scene).lastRead -/
def L70_0 (n : Nat) : Nat → Int → (List (List (Int × Int × Int)) × List (Int × Int × Bool) × List (Int × Int × Int)) × Unit → Option (odens [((.exit 0), [(1, (.c false (.v true (.int .i64))))])])
  | 0, _, _ => none
  | m + 1, x1, x2 =>
    if (0 : Int) ≤ x1 then
    if x1 < (↑(List.length x2.fst.snd.snd) : Int) then
    (F53 n (((List.getD x2.fst.snd.snd x1.toNat ((0 : Int), (0 : Int), (0 : Int))).fst, (List.getD x2.fst.snd.snd x1.toNat ((0 : Int), (0 : Int), (0 : Int))).snd.fst, (List.getD x2.fst.snd.snd x1.toNat ((0 : Int), (0 : Int), (0 : Int))).snd.snd))).bind fun y3 =>
    cond (!y3.fst)
    (L70_0 n m (Go.IntKind.i64.wrap (x1 - (1 : Int))) (((x2.fst.fst, x2.fst.snd.fst, x2.fst.snd.snd), ())))
    (some (Sum.inl (x1, ())))
    else none
    else none
def F70 (n : Nat) (a0 : List (List (Int × Int × Int)) × List (Int × Int × Bool) × List (Int × Int × Int)) (a1 : Int) : Option (rdens [.c true (.v false (.pair (.rs 57 (.rs 72 (.pair (.int .i64) (.pair (.int .i64) (.int .i64))))) (.pair (.rs 76 (.pair (.int .i64) (.pair (.int .i64) .bool))) (.rs 72 (.pair (.int .i64) (.pair (.int .i64) (.int .i64))))))), .c false (.v true (.int .i64))] [.c false (.v true (.int .i64))]) :=
  match L70_0 n n (Go.IntKind.i64.wrap (a1 - (1 : Int))) (((a0.fst, a0.snd.fst, a0.snd.snd), ())) with
  | none => none
  | some (Sum.inl v4) =>
   some (v4.fst, ())
noncomputable def con70 (n : Nat) : Con := conOf [.c true (.v false (.pair (.rs 57 (.rs 72 (.pair (.int .i64) (.pair (.int .i64) (.int .i64))))) (.pair (.rs 76 (.pair (.int .i64) (.pair (.int .i64) .bool))) (.rs 72 (.pair (.int .i64) (.pair (.int .i64) (.int .i64))))))), .c false (.v true (.int .i64))] [.c false (.v true (.int .i64))] fun x => F70 n x.1 x.2.1
noncomputable def tb70 (n : Nat) : Tb := ⟨tiOf Tryz.prog, conL [(53, con53 n)], n, [], 17, lpL [(0, ⟨[(1, (.c false (.v true (.int .i64)))), (2, (.b 59 [(.v false (.pair (.rs 57 (.rs 72 (.pair (.int .i64) (.pair (.int .i64) (.int .i64))))) (.pair (.rs 76 (.pair (.int .i64) (.pair (.int .i64) .bool))) (.rs 72 (.pair (.int .i64) (.pair (.int .i64) (.int .i64)))))))]))], [((.exit 0), [(1, (.c false (.v true (.int .i64))))])], fun m v => L70_0 n m v.1 v.2.1⟩)], ctL [], [], true⟩
noncomputable def code70 : Code := Tryz.f70.body.getD .skip
theorem tb70_ok (n : Nat) : (tb70 n).ok Tryz.prog := tbOk mixed (⟨con53_ok n, trivial⟩)
theorem lp70_0 (n : Nat) : LpAt (tb70 n) (loopBody code70 0) 0 := lpAt rfl (fun _ => by kernel_rfl) (fun _ _ => by kernel_rfl)
theorem blocks70 : blocks code70 = [(0, .loop (loopBody code70 0)), (1, blockBody code70 1)] := by kernel_rfl
theorem la70 (n : Nat) : LpAll (tb70 n) code70 := lpAll blocks70 (bl_loop (lp70_0 n) (bl_none rfl (bl_nil))) rfl (cs_no fun _ => rfl) (by kernel_rfl)
theorem ev70 (n : Nat) (x : pdens [.c true (.v false (.pair (.rs 57 (.rs 72 (.pair (.int .i64) (.pair (.int .i64) (.int .i64))))) (.pair (.rs 76 (.pair (.int .i64) (.pair (.int .i64) .bool))) (.rs 72 (.pair (.int .i64) (.pair (.int .i64) (.int .i64))))))), .c false (.v true (.int .i64))]) : evSig (tb70 n) Tryz.f70 [.c true (.v false (.pair (.rs 57 (.rs 72 (.pair (.int .i64) (.pair (.int .i64) (.int .i64))))) (.pair (.rs 76 (.pair (.int .i64) (.pair (.int .i64) .bool))) (.rs 72 (.pair (.int .i64) (.pair (.int .i64) (.int .i64))))))), .c false (.v true (.int .i64))] [.c false (.v true (.int .i64))] x = F70 n x.1 x.2.1 := by kernel_rfl
theorem con70_ok (n : Nat) : Con.ok Tryz.prog 70 (con70 n) := conOf_ok (tb70_ok n) (body_la (by kernel_rfl : Tryz.f70.body = some code70) (la70 n)) Tryz.func70 (enters Tryz.func70 (by kernel_rfl) (by kernel_rfl)) rfl rfl (ev70 n)
/-! ### (loop.example/fathomline/impl.scene).value -/
def J68_11 (n : Nat) (x8 : Int) (x9 : (List (List (Int × Int × Int)) × List (Int × Int × Bool) × List (Int × Int × Int)) × Unit) (x10 : (List Int × List (List Int)) × Unit) (x11 : Int) (x12 : Int) : Option (odens [(.normal, [(2, (.c false (.v true (.int .i64)))), (3, (.b 59 [(.v false (.pair (.rs 57 (.rs 72 (.pair (.int .i64) (.pair (.int .i64) (.int .i64))))) (.pair (.rs 76 (.pair (.int .i64) (.pair (.int .i64) .bool))) (.rs 72 (.pair (.int .i64) (.pair (.int .i64) (.int .i64)))))))])), (4, (.b 36 [(.v false (.pair (.rs 3 (.int .i64)) (.rs 25 (.rs 3 (.int .i64)))))])), (11, (.c false (.v true (.int .i64)))), (12, (.c false (.v true (.int .i64))))])]) :=
    some (Sum.inl (x8, ((x9.fst.fst, x9.fst.snd.fst, x9.fst.snd.snd), ()), ((x10.fst.fst, x10.fst.snd), ()), x11, Go.IntKind.i64.wrap (x12 + (1 : Int)), ()))
def L68_0 (n : Nat) : Nat → Int → (List (List (Int × Int × Int)) × List (Int × Int × Bool) × List (Int × Int × Int)) × Unit → (List Int × List (List Int)) × Unit → Int → Int → Option (odens [(.ret, [(6, (.c false (.v true (.int .i64)))), (7, (.c false (.v true .bool)))]), ((.exit 0), [])])
  | 0, _, _, _, _, _ => none
  | m + 1, x1, x2, x3, x4, x5 =>
    cond (Decidable.decide (x5 < x4))
    (if (0 : Int) ≤ x1 then
     if x1 < (↑(List.length x2.fst.snd.snd) : Int) then
     (F80 n (((List.getD x2.fst.snd.snd x1.toNat ((0 : Int), (0 : Int), (0 : Int))).fst, (List.getD x2.fst.snd.snd x1.toNat ((0 : Int), (0 : Int), (0 : Int))).snd.fst, (List.getD x2.fst.snd.snd x1.toNat ((0 : Int), (0 : Int), (0 : Int))).snd.snd))).bind fun y6 =>
     cond (y6.fst)
     (some (Sum.inl ((List.getD x2.fst.snd.snd x1.toNat ((0 : Int), (0 : Int), (0 : Int))).snd.snd, Bool.true, ())))
     (cond ((List.getD x2.fst.snd.snd x1.toNat ((0 : Int), (0 : Int), (0 : Int))).fst == (3 : Int))
      ((F70 n ((x2.fst.fst, x2.fst.snd.fst, x2.fst.snd.snd)) (x1)).bind fun y7 =>
       match J68_11 n (y7.fst) (((x2.fst.fst, x2.fst.snd.fst, x2.fst.snd.snd), ())) (((x3.fst.fst, x3.fst.snd), ())) (x4) (x5) with
       | none => none
       | some (Sum.inl v13) =>
        L68_0 n m (v13.fst) (((v13.snd.fst.fst.fst, v13.snd.fst.fst.snd.fst, v13.snd.fst.fst.snd.snd), ())) (((v13.snd.snd.fst.fst.fst, v13.snd.snd.fst.fst.snd), ())) (v13.snd.snd.snd.fst) (v13.snd.snd.snd.snd.fst))
      (if (0 : Int) ≤ x1 then
       if x1 < (↑(List.length x3.fst.fst) : Int) then
       cond (List.getD x3.fst.fst x1.toNat (0 : Int) == (-1 : Int))
       (some (Sum.inl ((0 : Int), Bool.true, ())))
       (if (0 : Int) ≤ x1 then
        if x1 < (↑(List.length x3.fst.fst) : Int) then
        match J68_11 n (List.getD x3.fst.fst x1.toNat (0 : Int)) (((x2.fst.fst, x2.fst.snd.fst, x2.fst.snd.snd), ())) (((x3.fst.fst, x3.fst.snd), ())) (x4) (x5) with
        | none => none
        | some (Sum.inl v14) =>
         L68_0 n m (v14.fst) (((v14.snd.fst.fst.fst, v14.snd.fst.fst.snd.fst, v14.snd.fst.fst.snd.snd), ())) (((v14.snd.snd.fst.fst.fst, v14.snd.snd.fst.fst.snd), ())) (v14.snd.snd.snd.fst) (v14.snd.snd.snd.snd.fst)
        else none
        else none)
       else none
       else none))
     else none
     else none)
    (some (Sum.inr (Sum.inl (()))))
def F68 (n : Nat) (a0 : List (List (Int × Int × Int)) × List (Int × Int × Bool) × List (Int × Int × Int)) (a1 : List Int × List (List Int)) (a2 : Int) : Option (rdens [.c true (.v false (.pair (.rs 57 (.rs 72 (.pair (.int .i64) (.pair (.int .i64) (.int .i64))))) (.pair (.rs 76 (.pair (.int .i64) (.pair (.int .i64) .bool))) (.rs 72 (.pair (.int .i64) (.pair (.int .i64) (.int .i64))))))), .c true (.v false (.pair (.rs 3 (.int .i64)) (.rs 25 (.rs 3 (.int .i64))))), .c false (.v true (.int .i64))] [.c false (.v true (.int .i64)), .c false (.v true .bool)]) :=
  match L68_0 n n (a2) (((a0.fst, a0.snd.fst, a0.snd.snd), ())) (((a1.fst, a1.snd), ())) ((↑(List.length a0.snd.fst) : Int)) ((0 : Int)) with
  | none => none
  | some (Sum.inl v15) =>
   some (v15.fst, v15.snd.fst, ())
  | some (Sum.inr (Sum.inl v16)) =>
   some ((0 : Int), Bool.false, ())
noncomputable def con68 (n : Nat) : Con := conOf [.c true (.v false (.pair (.rs 57 (.rs 72 (.pair (.int .i64) (.pair (.int .i64) (.int .i64))))) (.pair (.rs 76 (.pair (.int .i64) (.pair (.int .i64) .bool))) (.rs 72 (.pair (.int .i64) (.pair (.int .i64) (.int .i64))))))), .c true (.v false (.pair (.rs 3 (.int .i64)) (.rs 25 (.rs 3 (.int .i64))))), .c false (.v true (.int .i64))] [.c false (.v true (.int .i64)), .c false (.v true .bool)] fun x => F68 n x.1 x.2.1 x.2.2.1
noncomputable def tb68 (n : Nat) : Tb := ⟨tiOf Tryz.prog, conL [(80, con80 n), (70, con70 n)], n, [], 44, lpL [(0, ⟨[(2, (.c false (.v true (.int .i64)))), (3, (.b 59 [(.v false (.pair (.rs 57 (.rs 72 (.pair (.int .i64) (.pair (.int .i64) (.int .i64))))) (.pair (.rs 76 (.pair (.int .i64) (.pair (.int .i64) .bool))) (.rs 72 (.pair (.int .i64) (.pair (.int .i64) (.int .i64)))))))])), (4, (.b 36 [(.v false (.pair (.rs 3 (.int .i64)) (.rs 25 (.rs 3 (.int .i64)))))])), (11, (.c false (.v true (.int .i64)))), (12, (.c false (.v true (.int .i64))))], [(.ret, [(6, (.c false (.v true (.int .i64)))), (7, (.c false (.v true .bool)))]), ((.exit 0), [])], fun m v => L68_0 n m v.1 v.2.1 v.2.2.1 v.2.2.2.1 v.2.2.2.2.1⟩)], ctL [(11, ⟨[(2, (.c false (.v true (.int .i64)))), (3, (.b 59 [(.v false (.pair (.rs 57 (.rs 72 (.pair (.int .i64) (.pair (.int .i64) (.int .i64))))) (.pair (.rs 76 (.pair (.int .i64) (.pair (.int .i64) .bool))) (.rs 72 (.pair (.int .i64) (.pair (.int .i64) (.int .i64)))))))])), (4, (.b 36 [(.v false (.pair (.rs 3 (.int .i64)) (.rs 25 (.rs 3 (.int .i64)))))])), (11, (.c false (.v true (.int .i64)))), (12, (.c false (.v true (.int .i64))))], [(.normal, [(2, (.c false (.v true (.int .i64)))), (3, (.b 59 [(.v false (.pair (.rs 57 (.rs 72 (.pair (.int .i64) (.pair (.int .i64) (.int .i64))))) (.pair (.rs 76 (.pair (.int .i64) (.pair (.int .i64) .bool))) (.rs 72 (.pair (.int .i64) (.pair (.int .i64) (.int .i64)))))))])), (4, (.b 36 [(.v false (.pair (.rs 3 (.int .i64)) (.rs 25 (.rs 3 (.int .i64)))))])), (11, (.c false (.v true (.int .i64)))), (12, (.c false (.v true (.int .i64))))])], fun v => J68_11 n v.1 v.2.1 v.2.2.1 v.2.2.2.1 v.2.2.2.2.1⟩)], [], true⟩
noncomputable def code68 : Code := Tryz.f68.body.getD .skip
theorem tb68_ok (n : Nat) : (tb68 n).ok Tryz.prog := tbOk mixed (⟨con80_ok n, ⟨con70_ok n, trivial⟩⟩)
theorem lp68_0 (n : Nat) : LpAt (tb68 n) (loopBody code68 0) 0 := lpAt rfl (fun _ => by kernel_rfl) (fun _ _ => by kernel_rfl)
theorem blocks68 : blocks code68 = [(0, .loop (loopBody code68 0)), (1, blockBody code68 1), (2, blockBody code68 2)] := by kernel_rfl
theorem ct68_11 (n : Nat) : CtOk (tb68 n) (sec code68 5).2 ⟨[(2, (.c false (.v true (.int .i64)))), (3, (.b 59 [(.v false (.pair (.rs 57 (.rs 72 (.pair (.int .i64) (.pair (.int .i64) (.int .i64))))) (.pair (.rs 76 (.pair (.int .i64) (.pair (.int .i64) .bool))) (.rs 72 (.pair (.int .i64) (.pair (.int .i64) (.int .i64)))))))])), (4, (.b 36 [(.v false (.pair (.rs 3 (.int .i64)) (.rs 25 (.rs 3 (.int .i64)))))])), (11, (.c false (.v true (.int .i64)))), (12, (.c false (.v true (.int .i64))))], [(.normal, [(2, (.c false (.v true (.int .i64)))), (3, (.b 59 [(.v false (.pair (.rs 57 (.rs 72 (.pair (.int .i64) (.pair (.int .i64) (.int .i64))))) (.pair (.rs 76 (.pair (.int .i64) (.pair (.int .i64) .bool))) (.rs 72 (.pair (.int .i64) (.pair (.int .i64) (.int .i64)))))))])), (4, (.b 36 [(.v false (.pair (.rs 3 (.int .i64)) (.rs 25 (.rs 3 (.int .i64)))))])), (11, (.c false (.v true (.int .i64)))), (12, (.c false (.v true (.int .i64))))])], fun v => J68_11 n v.1 v.2.1 v.2.2.1 v.2.2.2.1 v.2.2.2.2.1⟩ := fun _ => by kernel_rfl
theorem secs68 : seconds code68 = [(some 1, (sec code68 0).2), (some 12, (sec code68 1).2), (some 2, (sec code68 2).2), (none, (sec code68 3).2), (some 3, (sec code68 4).2), (some 11, (sec code68 5).2), (some 5, (sec code68 6).2), (none, (sec code68 7).2), (none, (sec code68 8).2), (none, (sec code68 9).2), (none, (sec code68 10).2), (none, (sec code68 11).2), (none, (sec code68 12).2)] := by kernel_rfl
theorem la68 (n : Nat) : LpAll (tb68 n) code68 := lpAll blocks68 (bl_loop (lp68_0 n) (bl_none rfl (bl_none rfl (bl_nil)))) secs68 (cs_none rfl (cs_none rfl (cs_none rfl (cs_none rfl (cs_none rfl (cs_one rfl (ct68_11 n) (cs_none rfl (cs_none rfl (cs_none rfl (cs_none rfl (cs_none rfl (cs_none rfl (cs_none rfl (cs_nil)))))))))))))) (by kernel_rfl)
theorem ev68 (n : Nat) (x : pdens [.c true (.v false (.pair (.rs 57 (.rs 72 (.pair (.int .i64) (.pair (.int .i64) (.int .i64))))) (.pair (.rs 76 (.pair (.int .i64) (.pair (.int .i64) .bool))) (.rs 72 (.pair (.int .i64) (.pair (.int .i64) (.int .i64))))))), .c true (.v false (.pair (.rs 3 (.int .i64)) (.rs 25 (.rs 3 (.int .i64))))), .c false (.v true (.int .i64))]) : evSig (tb68 n) Tryz.f68 [.c true (.v false (.pair (.rs 57 (.rs 72 (.pair (.int .i64) (.pair (.int .i64) (.int .i64))))) (.pair (.rs 76 (.pair (.int .i64) (.pair (.int .i64) .bool))) (.rs 72 (.pair (.int .i64) (.pair (.int .i64) (.int .i64))))))), .c true (.v false (.pair (.rs 3 (.int .i64)) (.rs 25 (.rs 3 (.int .i64))))), .c false (.v true (.int .i64))] [.c false (.v true (.int .i64)), .c false (.v true .bool)] x = F68 n x.1 x.2.1 x.2.2.1 := by kernel_rfl
theorem con68_ok (n : Nat) : Con.ok Tryz.prog 68 (con68 n) := conOf_ok (tb68_ok n) (body_la (by kernel_rfl : Tryz.f68.body = some code68) (la68 n)) Tryz.func68 (enters Tryz.func68 (by kernel_rfl) (by kernel_rfl)) rfl rfl (ev68 n)
/-! ### (loop.example/fathomline/impl.scene).ok -/
def J48_10 (n : Nat) (x8 : (List (List (Int × Int × Int)) × List (Int × Int × Bool) × List (Int × Int × Int)) × Unit) (x9 : (List Int × List (List Int)) × Unit) (x10 : List (Int × Int × Int)) (x11 : Int) (x12 : Int) : Option (odens [(.normal, [(2, (.b 59 [(.v false (.pair (.rs 57 (.rs 72 (.pair (.int .i64) (.pair (.int .i64) (.int .i64))))) (.pair (.rs 76 (.pair (.int .i64) (.pair (.int .i64) .bool))) (.rs 72 (.pair (.int .i64) (.pair (.int .i64) (.int .i64)))))))])), (3, (.b 36 [(.v false (.pair (.rs 3 (.int .i64)) (.rs 25 (.rs 3 (.int .i64)))))])), (14, (.c false (.v false (.rs 72 (.pair (.int .i64) (.pair (.int .i64) (.int .i64))))))), (15, (.c false (.v true (.int .i64)))), (16, (.c false (.v true (.int .i64))))])]) :=
    some (Sum.inl (((x8.fst.fst, x8.fst.snd.fst, x8.fst.snd.snd), ()), ((x9.fst.fst, x9.fst.snd), ()), x10, x11, Go.IntKind.i64.wrap (x12 + (1 : Int)), ()))
def L48_0 (n : Nat) : Nat → (List (List (Int × Int × Int)) × List (Int × Int × Bool) × List (Int × Int × Int)) × Unit → (List Int × List (List Int)) × Unit → List (Int × Int × Int) → Int → Int → Option (odens [(.ret, [(4, (.c false (.v true .bool)))]), ((.exit 0), [])])
  | 0, _, _, _, _, _ => none
  | m + 1, x2, x3, x4, x5, x6 =>
    cond (Decidable.decide (x6 < x5))
    (if (0 : Int) ≤ x6 then
     if x6 < (↑x4.length : Int) then
     (F66 n (((x4.getD x6.toNat ((0 : Int), (0 : Int), (0 : Int))).fst, (x4.getD x6.toNat ((0 : Int), (0 : Int), (0 : Int))).snd.fst, (x4.getD x6.toNat ((0 : Int), (0 : Int), (0 : Int))).snd.snd))).bind fun y7 =>
     cond (!y7.fst)
     (match J48_10 n (((x2.fst.fst, x2.fst.snd.fst, x2.fst.snd.snd), ())) (((x3.fst.fst, x3.fst.snd), ())) (x4) (x5) (x6) with
      | none => none
      | some (Sum.inl v13) =>
       L48_0 n m (((v13.fst.fst.fst, v13.fst.fst.snd.fst, v13.fst.fst.snd.snd), ())) (((v13.snd.fst.fst.fst, v13.snd.fst.fst.snd), ())) (v13.snd.snd.fst) (v13.snd.snd.snd.fst) (v13.snd.snd.snd.snd.fst))
     ((F68 n ((x2.fst.fst, x2.fst.snd.fst, x2.fst.snd.snd)) ((x3.fst.fst, x3.fst.snd)) (x6)).bind fun y14 =>
      cond (!y14.snd.fst)
      (some (Sum.inl (Bool.false, ())))
      (match J48_10 n (((x2.fst.fst, x2.fst.snd.fst, x2.fst.snd.snd), ())) (((x3.fst.fst, x3.fst.snd), ())) (x4) (x5) (x6) with
       | none => none
       | some (Sum.inl v15) =>
        L48_0 n m (((v15.fst.fst.fst, v15.fst.fst.snd.fst, v15.fst.fst.snd.snd), ())) (((v15.snd.fst.fst.fst, v15.snd.fst.fst.snd), ())) (v15.snd.snd.fst) (v15.snd.snd.snd.fst) (v15.snd.snd.snd.snd.fst)))
     else none
     else none)
    (some (Sum.inr (Sum.inl (()))))
def F48 (n : Nat) (a0 : List (List (Int × Int × Int)) × List (Int × Int × Bool) × List (Int × Int × Int)) (a1 : List Int × List (List Int)) : Option (rdens [.c true (.v false (.pair (.rs 57 (.rs 72 (.pair (.int .i64) (.pair (.int .i64) (.int .i64))))) (.pair (.rs 76 (.pair (.int .i64) (.pair (.int .i64) .bool))) (.rs 72 (.pair (.int .i64) (.pair (.int .i64) (.int .i64))))))), .c true (.v false (.pair (.rs 3 (.int .i64)) (.rs 25 (.rs 3 (.int .i64)))))] [.c false (.v true .bool)]) :=
  (F67 n ((a0.fst, a0.snd.fst, a0.snd.snd)) ((a1.fst, a1.snd))).bind fun y1 =>
  cond (!y1.fst)
  (some (Bool.false, ()))
  (match L48_0 n n (((a0.fst, a0.snd.fst, a0.snd.snd), ())) (((a1.fst, a1.snd), ())) (a0.snd.snd) ((↑(List.length a0.snd.snd) : Int)) ((0 : Int)) with
   | none => none
   | some (Sum.inl v16) =>
    some (v16.fst, ())
   | some (Sum.inr (Sum.inl v17)) =>
    some (Bool.true, ()))
noncomputable def con48 (n : Nat) : Con := conOf [.c true (.v false (.pair (.rs 57 (.rs 72 (.pair (.int .i64) (.pair (.int .i64) (.int .i64))))) (.pair (.rs 76 (.pair (.int .i64) (.pair (.int .i64) .bool))) (.rs 72 (.pair (.int .i64) (.pair (.int .i64) (.int .i64))))))), .c true (.v false (.pair (.rs 3 (.int .i64)) (.rs 25 (.rs 3 (.int .i64)))))] [.c false (.v true .bool)] fun x => F48 n x.1 x.2.1
noncomputable def tb48 (n : Nat) : Tb := ⟨tiOf Tryz.prog, conL [(67, con67 n), (66, con66 n), (68, con68 n)], n, [], 34, lpL [(0, ⟨[(2, (.b 59 [(.v false (.pair (.rs 57 (.rs 72 (.pair (.int .i64) (.pair (.int .i64) (.int .i64))))) (.pair (.rs 76 (.pair (.int .i64) (.pair (.int .i64) .bool))) (.rs 72 (.pair (.int .i64) (.pair (.int .i64) (.int .i64)))))))])), (3, (.b 36 [(.v false (.pair (.rs 3 (.int .i64)) (.rs 25 (.rs 3 (.int .i64)))))])), (14, (.c false (.v false (.rs 72 (.pair (.int .i64) (.pair (.int .i64) (.int .i64))))))), (15, (.c false (.v true (.int .i64)))), (16, (.c false (.v true (.int .i64))))], [(.ret, [(4, (.c false (.v true .bool)))]), ((.exit 0), [])], fun m v => L48_0 n m v.1 v.2.1 v.2.2.1 v.2.2.2.1 v.2.2.2.2.1⟩)], ctL [(10, ⟨[(2, (.b 59 [(.v false (.pair (.rs 57 (.rs 72 (.pair (.int .i64) (.pair (.int .i64) (.int .i64))))) (.pair (.rs 76 (.pair (.int .i64) (.pair (.int .i64) .bool))) (.rs 72 (.pair (.int .i64) (.pair (.int .i64) (.int .i64)))))))])), (3, (.b 36 [(.v false (.pair (.rs 3 (.int .i64)) (.rs 25 (.rs 3 (.int .i64)))))])), (14, (.c false (.v false (.rs 72 (.pair (.int .i64) (.pair (.int .i64) (.int .i64))))))), (15, (.c false (.v true (.int .i64)))), (16, (.c false (.v true (.int .i64))))], [(.normal, [(2, (.b 59 [(.v false (.pair (.rs 57 (.rs 72 (.pair (.int .i64) (.pair (.int .i64) (.int .i64))))) (.pair (.rs 76 (.pair (.int .i64) (.pair (.int .i64) .bool))) (.rs 72 (.pair (.int .i64) (.pair (.int .i64) (.int .i64)))))))])), (3, (.b 36 [(.v false (.pair (.rs 3 (.int .i64)) (.rs 25 (.rs 3 (.int .i64)))))])), (14, (.c false (.v false (.rs 72 (.pair (.int .i64) (.pair (.int .i64) (.int .i64))))))), (15, (.c false (.v true (.int .i64)))), (16, (.c false (.v true (.int .i64))))])], fun v => J48_10 n v.1 v.2.1 v.2.2.1 v.2.2.2.1 v.2.2.2.2.1⟩)], [], true⟩
noncomputable def code48 : Code := Tryz.f48.body.getD .skip
theorem tb48_ok (n : Nat) : (tb48 n).ok Tryz.prog := tbOk mixed (⟨con67_ok n, ⟨con66_ok n, ⟨con68_ok n, trivial⟩⟩⟩)
theorem lp48_0 (n : Nat) : LpAt (tb48 n) (loopBody code48 0) 0 := lpAt rfl (fun _ => by kernel_rfl) (fun _ _ => by kernel_rfl)
theorem blocks48 : blocks code48 = [(0, .loop (loopBody code48 0)), (1, blockBody code48 1)] := by kernel_rfl
theorem ct48_10 (n : Nat) : CtOk (tb48 n) (sec code48 8).2 ⟨[(2, (.b 59 [(.v false (.pair (.rs 57 (.rs 72 (.pair (.int .i64) (.pair (.int .i64) (.int .i64))))) (.pair (.rs 76 (.pair (.int .i64) (.pair (.int .i64) .bool))) (.rs 72 (.pair (.int .i64) (.pair (.int .i64) (.int .i64)))))))])), (3, (.b 36 [(.v false (.pair (.rs 3 (.int .i64)) (.rs 25 (.rs 3 (.int .i64)))))])), (14, (.c false (.v false (.rs 72 (.pair (.int .i64) (.pair (.int .i64) (.int .i64))))))), (15, (.c false (.v true (.int .i64)))), (16, (.c false (.v true (.int .i64))))], [(.normal, [(2, (.b 59 [(.v false (.pair (.rs 57 (.rs 72 (.pair (.int .i64) (.pair (.int .i64) (.int .i64))))) (.pair (.rs 76 (.pair (.int .i64) (.pair (.int .i64) .bool))) (.rs 72 (.pair (.int .i64) (.pair (.int .i64) (.int .i64)))))))])), (3, (.b 36 [(.v false (.pair (.rs 3 (.int .i64)) (.rs 25 (.rs 3 (.int .i64)))))])), (14, (.c false (.v false (.rs 72 (.pair (.int .i64) (.pair (.int .i64) (.int .i64))))))), (15, (.c false (.v true (.int .i64)))), (16, (.c false (.v true (.int .i64))))])], fun v => J48_10 n v.1 v.2.1 v.2.2.1 v.2.2.2.1 v.2.2.2.2.1⟩ := fun _ => by kernel_rfl
theorem secs48 : seconds code48 = [(some 1, (sec code48 0).2), (some 3, (sec code48 1).2), (none, (sec code48 2).2), (none, (sec code48 3).2), (some 11, (sec code48 4).2), (some 4, (sec code48 5).2), (none, (sec code48 6).2), (some 5, (sec code48 7).2), (some 10, (sec code48 8).2), (some 6, (sec code48 9).2), (some 7, (sec code48 10).2), (none, (sec code48 11).2), (some 8, (sec code48 12).2), (none, (sec code48 13).2), (none, (sec code48 14).2), (none, (sec code48 15).2)] := by kernel_rfl
theorem la48 (n : Nat) : LpAll (tb48 n) code48 := lpAll blocks48 (bl_loop (lp48_0 n) (bl_none rfl (bl_nil))) secs48 (cs_none rfl (cs_none rfl (cs_none rfl (cs_none rfl (cs_none rfl (cs_none rfl (cs_none rfl (cs_none rfl (cs_one rfl (ct48_10 n) (cs_none rfl (cs_none rfl (cs_none rfl (cs_none rfl (cs_none rfl (cs_none rfl (cs_none rfl (cs_nil))))))))))))))))) (by kernel_rfl)
theorem ev48 (n : Nat) (x : pdens [.c true (.v false (.pair (.rs 57 (.rs 72 (.pair (.int .i64) (.pair (.int .i64) (.int .i64))))) (.pair (.rs 76 (.pair (.int .i64) (.pair (.int .i64) .bool))) (.rs 72 (.pair (.int .i64) (.pair (.int .i64) (.int .i64))))))), .c true (.v false (.pair (.rs 3 (.int .i64)) (.rs 25 (.rs 3 (.int .i64)))))]) : evSig (tb48 n) Tryz.f48 [.c true (.v false (.pair (.rs 57 (.rs 72 (.pair (.int .i64) (.pair (.int .i64) (.int .i64))))) (.pair (.rs 76 (.pair (.int .i64) (.pair (.int .i64) .bool))) (.rs 72 (.pair (.int .i64) (.pair (.int .i64) (.int .i64))))))), .c true (.v false (.pair (.rs 3 (.int .i64)) (.rs 25 (.rs 3 (.int .i64)))))] [.c false (.v true .bool)] x = F48 n x.1 x.2.1 := by kernel_rfl
theorem con48_ok (n : Nat) : Con.ok Tryz.prog 48 (con48 n) := conOf_ok (tb48_ok n) (body_la (by kernel_rfl : Tryz.f48.body = some code48) (la48 n)) Tryz.func48 (enters Tryz.func48 (by kernel_rfl) (by kernel_rfl)) rfl rfl (ev48 n)
/-! ### loop.example/fathomline/impl.ExecOk -/
def F24 (n : Nat) (a0 : List (List (Int × Int × Int))) (a1 : List Int × List (List Int)) : Option (rdens [.c true (.v false (.rs 57 (.rs 72 (.pair (.int .i64) (.pair (.int .i64) (.int .i64)))))), .c true (.v false (.pair (.rs 3 (.int .i64)) (.rs 25 (.rs 3 (.int .i64)))))] [.c false (.v true .bool)]) :=
  (F47 n (a0)).bind fun y1 =>
  cond (y1.fst)
  ((F26 n (a0)).bind fun y2 =>
   (F48 n ((y2.fst.fst, y2.fst.snd.fst, y2.fst.snd.snd)) ((a1.fst, a1.snd))).bind fun y3 =>
   some (y3.fst, ()))
  (some (Bool.false, ()))
noncomputable def con24 (n : Nat) : Con := conOf [.c true (.v false (.rs 57 (.rs 72 (.pair (.int .i64) (.pair (.int .i64) (.int .i64)))))), .c true (.v false (.pair (.rs 3 (.int .i64)) (.rs 25 (.rs 3 (.int .i64)))))] [.c false (.v true .bool)] fun x => F24 n x.1 x.2.1
noncomputable def tb24 (n : Nat) : Tb := ⟨tiOf Tryz.prog, conL [(47, con47 n), (26, con26 n), (48, con48 n)], n, [], 13, lpL [], ctL [], [], true⟩
noncomputable def code24 : Code := Tryz.f24.body.getD .skip
theorem tb24_ok (n : Nat) : (tb24 n).ok Tryz.prog := tbOk mixed (⟨con47_ok n, ⟨con26_ok n, ⟨con48_ok n, trivial⟩⟩⟩)
theorem blocks24 : blocks code24 = [] := by kernel_rfl
theorem la24 (n : Nat) : LpAll (tb24 n) code24 := lpAll blocks24 (bl_nil) rfl (cs_no fun _ => rfl) (by kernel_rfl)
theorem ev24 (n : Nat) (x : pdens [.c true (.v false (.rs 57 (.rs 72 (.pair (.int .i64) (.pair (.int .i64) (.int .i64)))))), .c true (.v false (.pair (.rs 3 (.int .i64)) (.rs 25 (.rs 3 (.int .i64)))))]) : evSig (tb24 n) Tryz.f24 [.c true (.v false (.rs 57 (.rs 72 (.pair (.int .i64) (.pair (.int .i64) (.int .i64)))))), .c true (.v false (.pair (.rs 3 (.int .i64)) (.rs 25 (.rs 3 (.int .i64)))))] [.c false (.v true .bool)] x = F24 n x.1 x.2.1 := by kernel_rfl
theorem con24_ok (n : Nat) : Con.ok Tryz.prog 24 (con24 n) := conOf_ok (tb24_ok n) (body_la (by kernel_rfl : Tryz.f24.body = some code24) (la24 n)) Tryz.func24 (enters Tryz.func24 (by kernel_rfl) (by kernel_rfl)) rfl rfl (ev24 n)
end Go.Proofs.YtdacfaincamliaaGreat.Ev
