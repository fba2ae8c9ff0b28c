/- Plain functions that the loaded code comes to, and that it does. Conditions: none. -/
import Derived.Test.YtdacfaincamliaaGE
import Derived.Test.YtdacfaincamliaaKV
namespace Go.Proofs.Ytdacfaincamliaa.Ev
open Go Go.Proofs
/-! ### loop.example/fathomline/impl.sceneOf -/
def L70_0 (n : Nat) : Nat → List (List (Int × Int × Int)) × Unit → List (List (Int × Int × Int)) × List (Int × Int × Bool) × List (Int × Int × Int) × Unit → List (List (Int × Int × Int)) × List (Int × Int × Bool) × List (Int × Int × Int) × Unit → List (Int × Int × Bool) → Int → Int → Option (odens [((.exit 0), [(2, (.b 95 [(.o yP), (.r 67 yE), (.r 59 yD)])), (3, (.b 95 [(.v true yP), (.v true (.rs 67 yE)), (.r 59 yD)]))])])
  | 0, _, _, _, _, _, _ => none
  | m + 1, x2, x3, x4, x5, x6, x7 =>
    cond (Decidable.decide (x7 < x6))
    (if (0 : Int) ≤ x7 then
     if x7 < (↑x5.length : Int) then
     if (0 : Int) ≤ (x5.getD x7.toNat ((0 : Int), (0 : Int), Bool.false)).fst then
     if (x5.getD x7.toNat ((0 : Int), (0 : Int), Bool.false)).fst < (↑(List.length x2.fst) : Int) then
     if (0 : Int) ≤ (x5.getD x7.toNat ((0 : Int), (0 : Int), Bool.false)).snd.fst then
     if (x5.getD x7.toNat ((0 : Int), (0 : Int), Bool.false)).snd.fst < (↑(List.length (List.getD x2.fst (Int.toNat (x5.getD x7.toNat ((0 : Int), (0 : Int), Bool.false)).fst) [])) : Int) then
     if (List.length x4.snd.snd.fst + [((List.getD (List.getD x2.fst (Int.toNat (x5.getD x7.toNat ((0 : Int), (0 : Int), Bool.false)).fst) []) (Int.toNat (x5.getD x7.toNat ((0 : Int), (0 : Int), Bool.false)).snd.fst) ((0 : Int), (0 : Int), (0 : Int))).fst, (List.getD (List.getD x2.fst (Int.toNat (x5.getD x7.toNat ((0 : Int), (0 : Int), Bool.false)).fst) []) (Int.toNat (x5.getD x7.toNat ((0 : Int), (0 : Int), Bool.false)).snd.fst) ((0 : Int), (0 : Int), (0 : Int))).snd.fst, (List.getD (List.getD x2.fst (Int.toNat (x5.getD x7.toNat ((0 : Int), (0 : Int), Bool.false)).fst) []) (Int.toNat (x5.getD x7.toNat ((0 : Int), (0 : Int), Bool.false)).snd.fst) ((0 : Int), (0 : Int), (0 : Int))).snd.snd)].length) * (24 : Nat) ≤ (140737488355328 : Nat) then
     L70_0 n m ((x2.fst, ())) ((x3.fst, x3.snd.fst, x3.snd.snd.fst, ())) ((x4.fst, x4.snd.fst, x4.snd.snd.fst ++ [((List.getD (List.getD x2.fst (Int.toNat (x5.getD x7.toNat ((0 : Int), (0 : Int), Bool.false)).fst) []) (Int.toNat (x5.getD x7.toNat ((0 : Int), (0 : Int), Bool.false)).snd.fst) ((0 : Int), (0 : Int), (0 : Int))).fst, (List.getD (List.getD x2.fst (Int.toNat (x5.getD x7.toNat ((0 : Int), (0 : Int), Bool.false)).fst) []) (Int.toNat (x5.getD x7.toNat ((0 : Int), (0 : Int), Bool.false)).snd.fst) ((0 : Int), (0 : Int), (0 : Int))).snd.fst, (List.getD (List.getD x2.fst (Int.toNat (x5.getD x7.toNat ((0 : Int), (0 : Int), Bool.false)).fst) []) (Int.toNat (x5.getD x7.toNat ((0 : Int), (0 : Int), Bool.false)).snd.fst) ((0 : Int), (0 : Int), (0 : Int))).snd.snd)], ())) (x5) (x6) (Go.IntKind.i64.wrap (x7 + (1 : Int)))
     else none
     else none
     else none
     else none
     else none
     else none
     else none)
    (some (Sum.inl ((x3.fst, x3.snd.fst, x3.snd.snd.fst, ()), (x4.fst, x4.snd.fst, x4.snd.snd.fst, ()), ())))
def F70 (n : Nat) (a0 : List (List (Int × Int × Int))) : Option (rdens [.c true (.v true yP)] [.c true (.v true (.pair yP (.pair (.rs 67 yE) (.rs 59 yD))))]) :=
  (F42 n (a0)).bind fun y1 =>
  match L70_0 n n ((a0, ())) (([], [], [], ())) ((a0, y1.fst, [], ())) (y1.fst) ((↑(List.length y1.fst) : Int)) ((0 : Int)) with
  | none => none
  | some (Sum.inl v8) =>
   some ((v8.snd.fst.fst, v8.snd.fst.snd.fst, v8.snd.fst.snd.snd.fst), ())
noncomputable def con70 (n : Nat) : Con := conAl (conOf [.c true (.v true yP)] [.c true (.v true (.pair yP (.pair (.rs 67 yE) (.rs 59 yD))))] fun x => F70 n x.1)
noncomputable def tb70 (n : Nat) : Tb := ⟨tiOf Try.prog, conL [(42, con42 n)], n, [], 34, lpL [(0, ⟨[(1, (.b 33 [(.v true yP)])), (2, (.b 95 [(.o yP), (.r 67 yE), (.r 59 yD)])), (3, (.b 95 [(.v true yP), (.v true (.rs 67 yE)), (.r 59 yD)])), (11, (.c false (.v true (.rs 67 yE)))), (12, kI), (13, kI)], [((.exit 0), [(2, (.b 95 [(.o yP), (.r 67 yE), (.r 59 yD)])), (3, (.b 95 [(.v true yP), (.v true (.rs 67 yE)), (.r 59 yD)]))])], fun m v => L70_0 n m v.1 v.2.1 v.2.2.1 v.2.2.2.1 v.2.2.2.2.1 v.2.2.2.2.2.1⟩)], ctL [], [], true⟩
noncomputable def code70 : Code := Try.f70.body.getD .skip
theorem tb70_ok (n : Nat) : (tb70 n).ok Try.prog := tbOk mixed (⟨con42_ok n, trivial⟩)
theorem lp70_0 (n : Nat) : LpAt (tb70 n) (loopBody code70 0) 0 := lpAt rfl (fun _ => by kernel_rfl) (fun _ _ => by kernel_rfl)
theorem blocks70 : blocks code70 = [(0, .loop (loopBody code70 0)), (1, blockBody code70 1)] := by kernel_rfl
theorem la70 (n : Nat) : LpAll (tb70 n) code70 := lpAll blocks70 (bl_loop (lp70_0 n) (bl_none rfl (bl_nil))) rfl (cs_no fun _ => rfl) (by kernel_rfl)
theorem ev70 (n : Nat) (x : pdens [.c true (.v true yP)]) : evSig (tb70 n) Try.f70 [.c true (.v true yP)] [.c true (.v true (.pair yP (.pair (.rs 67 yE) (.rs 59 yD))))] x = F70 n x.1 := by kernel_rfl
theorem con70_ok (n : Nat) : Con.ok Try.prog 70 (con70 n) := conAl_ok (conOf_ok (tb70_ok n) (body_la (by kernel_rfl : Try.f70.body = some code70) (la70 n)) Try.func70 (enters Try.func70 (by kernel_rfl) (by kernel_rfl)) rfl rfl (ev70 n))
/-! ### (loop.example/fathomline/impl.scene).writers -/
def J136_7 (n : Nat) (x7 : Int) (x8 : List Int) (x9 : List (Int × Int × Int)) (x10 : Int) (x11 : Int) : Option (odens [(.normal, [(1, kI), (5, (.c false (.r 3 (.int .i64)))), (9, (.c false (.v false (.rs 59 yD)))), (10, kI), (11, kI)])]) :=
    some (Sum.inl (x7, x8, x9, x10, Go.IntKind.i64.wrap (x11 + (1 : Int)), ()))
def L136_0 (n : Nat) : Nat → Int → List Int → List (Int × Int × Int) → Int → Int → Option (odens [((.exit 0), [(5, (.c false (.r 3 (.int .i64))))])])
  | 0, _, _, _, _, _ => none
  | m + 1, x1, x2, x3, x4, x5 =>
    cond (Decidable.decide (x5 < x4))
    (if (0 : Int) ≤ x5 then
     if x5 < (↑x3.length : Int) then
     (F124 n (((x3.getD x5.toNat ((0 : Int), (0 : Int), (0 : Int))).fst, (x3.getD x5.toNat ((0 : Int), (0 : Int), (0 : Int))).snd.fst, (x3.getD x5.toNat ((0 : Int), (0 : Int), (0 : Int))).snd.snd))).bind fun y6 =>
     cond (y6.fst)
     (cond ((x3.getD x5.toNat ((0 : Int), (0 : Int), (0 : Int))).snd.fst == x1)
      (if (x2.length + [x5].length) * (8 : Nat) ≤ (140737488355328 : Nat) then
       match J136_7 n (x1) (x2 ++ [x5]) (x3) (x4) (x5) with
       | none => none
       | some (Sum.inl v12) =>
        L136_0 n m (v12.fst) (v12.snd.fst) (v12.snd.snd.fst) (v12.snd.snd.snd.fst) (v12.snd.snd.snd.snd.fst)
       else none)
      (match J136_7 n (x1) (x2) (x3) (x4) (x5) with
       | none => none
       | some (Sum.inl v13) =>
        L136_0 n m (v13.fst) (v13.snd.fst) (v13.snd.snd.fst) (v13.snd.snd.snd.fst) (v13.snd.snd.snd.snd.fst)))
     (match J136_7 n (x1) (x2) (x3) (x4) (x5) with
      | none => none
      | some (Sum.inl v14) =>
       L136_0 n m (v14.fst) (v14.snd.fst) (v14.snd.snd.fst) (v14.snd.snd.snd.fst) (v14.snd.snd.snd.snd.fst))
     else none
     else none)
    (some (Sum.inl (x2, ())))
def F136 (n : Nat) (a0 : List (List (Int × Int × Int)) × List (Int × Int × Bool) × List (Int × Int × Int)) (a1 : Int) : Option (rdens [.c true (.v false (.pair yP (.pair (.rs 67 yE) (.rs 59 yD)))), .c false (.v true (.int .i64))] [.c false (.r 3 (.int .i64))]) :=
  match L136_0 n n (a1) ([]) (a0.snd.snd) ((↑(List.length a0.snd.snd) : Int)) ((0 : Int)) with
  | none => none
  | some (Sum.inl v15) =>
   some (v15.fst, ())
noncomputable def con136 (n : Nat) : Con := conOf [.c true (.v false (.pair yP (.pair (.rs 67 yE) (.rs 59 yD)))), .c false (.v true (.int .i64))] [.c false (.r 3 (.int .i64))] fun x => F136 n x.1 x.2.1
noncomputable def tb136 (n : Nat) : Tb := ⟨tiOf Try.prog, conL [(124, con124 n)], n, [], 30, lpL [(0, ⟨[(1, kI), (5, (.c false (.r 3 (.int .i64)))), (9, (.c false (.v false (.rs 59 yD)))), (10, kI), (11, kI)], [((.exit 0), [(5, (.c false (.r 3 (.int .i64))))])], fun m v => L136_0 n m v.1 v.2.1 v.2.2.1 v.2.2.2.1 v.2.2.2.2.1⟩)], ctL [(7, ⟨[(1, kI), (5, (.c false (.r 3 (.int .i64)))), (9, (.c false (.v false (.rs 59 yD)))), (10, kI), (11, kI)], [(.normal, [(1, kI), (5, (.c false (.r 3 (.int .i64)))), (9, (.c false (.v false (.rs 59 yD)))), (10, kI), (11, kI)])], fun v => J136_7 n v.1 v.2.1 v.2.2.1 v.2.2.2.1 v.2.2.2.2.1⟩)], [], true⟩
noncomputable def code136 : Code := Try.f136.body.getD .skip
theorem tb136_ok (n : Nat) : (tb136 n).ok Try.prog := tbOk mixed (⟨con124_ok n, trivial⟩)
theorem lp136_0 (n : Nat) : LpAt (tb136 n) (loopBody code136 0) 0 := lpAt rfl (fun _ => by kernel_rfl) (fun _ _ => by kernel_rfl)
theorem blocks136 : blocks code136 = [(0, .loop (loopBody code136 0)), (1, blockBody code136 1)] := by kernel_rfl
theorem ct136_7 (n : Nat) : CtOk (tb136 n) (sec code136 6).2 ⟨[(1, kI), (5, (.c false (.r 3 (.int .i64)))), (9, (.c false (.v false (.rs 59 yD)))), (10, kI), (11, kI)], [(.normal, [(1, kI), (5, (.c false (.r 3 (.int .i64)))), (9, (.c false (.v false (.rs 59 yD)))), (10, kI), (11, kI)])], fun v => J136_7 n v.1 v.2.1 v.2.2.1 v.2.2.2.1 v.2.2.2.2.1⟩ := fun _ => by kernel_rfl
theorem secs136 : seconds code136 = [(some 1, (sec code136 0).2), (some 2, (sec code136 1).2), (some 8, (sec code136 2).2), (some 3, (sec code136 3).2), (none, (sec code136 4).2), (some 4, (sec code136 5).2), (some 7, (sec code136 6).2), (some 5, (sec code136 7).2), (none, (sec code136 8).2), (none, (sec code136 9).2)] := by kernel_rfl
theorem la136 (n : Nat) : LpAll (tb136 n) code136 := lpAll blocks136 (bl_loop (lp136_0 n) (bl_none rfl (bl_nil))) secs136 (cs_none rfl (cs_none rfl (cs_none rfl (cs_none rfl (cs_none rfl (cs_none rfl (cs_one rfl (ct136_7 n) (cs_none rfl (cs_none rfl (cs_none rfl (cs_nil))))))))))) (by kernel_rfl)
theorem ev136 (n : Nat) (x : pdens [.c true (.v false (.pair yP (.pair (.rs 67 yE) (.rs 59 yD)))), .c false (.v true (.int .i64))]) : evSig (tb136 n) Try.f136 [.c true (.v false (.pair yP (.pair (.rs 67 yE) (.rs 59 yD)))), .c false (.v true (.int .i64))] [.c false (.r 3 (.int .i64))] x = F136 n x.1 x.2.1 := by kernel_rfl
theorem con136_ok (n : Nat) : Con.ok Try.prog 136 (con136 n) := conOf_ok (tb136_ok n) (body_la (by kernel_rfl : Try.f136.body = some code136) (la136 n)) Try.func136 (enters Try.func136 (by kernel_rfl) (by kernel_rfl)) rfl rfl (ev136 n)
/-! ### slices.Index[[]int,int] -/
def L149_0 (n : Nat) : Nat → List Int → Int → Int → Int → Option (odens [(.ret, [(4, kI)]), ((.exit 0), [])])
  | 0, _, _, _, _ => none
  | m + 1, x1, x2, x3, x4 =>
    cond (Decidable.decide (x4 < x3))
    (if (0 : Int) ≤ x4 then
     if x4 < (↑x1.length : Int) then
     cond (x2 == x1.getD x4.toNat (0 : Int))
     (some (Sum.inl (x4, ())))
     (L149_0 n m (x1) (x2) (x3) (Go.IntKind.i64.wrap (x4 + (1 : Int))))
     else none
     else none)
    (some (Sum.inr (Sum.inl (()))))
def F149 (n : Nat) (a0 : List Int) (a1 : Int) : Option (rdens [.c false (.v false (.rs 3 (.int .i64))), .c false (.v true (.int .i64))] [.c false (.v true (.int .i64))]) :=
  match L149_0 n n (a0) (a1) ((↑a0.length : Int)) ((0 : Int)) with
  | none => none
  | some (Sum.inl v5) =>
   some (v5.fst, ())
  | some (Sum.inr (Sum.inl v6)) =>
   some ((-1 : Int), ())
noncomputable def con149 (n : Nat) : Con := conOf [.c false (.v false (.rs 3 (.int .i64))), .c false (.v true (.int .i64))] [.c false (.v true (.int .i64))] fun x => F149 n x.1 x.2.1
noncomputable def tb149 (n : Nat) : Tb := ⟨tiOf Try.prog, conL [], n, [], 19, lpL [(0, ⟨[(0, (.c false (.v false (.rs 3 (.int .i64))))), (1, kI), (7, kI), (8, kI)], [(.ret, [(4, kI)]), ((.exit 0), [])], fun m v => L149_0 n m v.1 v.2.1 v.2.2.1 v.2.2.2.1⟩)], ctL [], [], true⟩
noncomputable def code149 : Code := Try.f149.body.getD .skip
theorem tb149_ok (n : Nat) : (tb149 n).ok Try.prog := tbOk mixed (trivial)
theorem lp149_0 (n : Nat) : LpAt (tb149 n) (loopBody code149 0) 0 := lpAt rfl (fun _ => by kernel_rfl) (fun _ _ => by kernel_rfl)
theorem blocks149 : blocks code149 = [(0, .loop (loopBody code149 0)), (1, blockBody code149 1)] := by kernel_rfl
theorem la149 (n : Nat) : LpAll (tb149 n) code149 := lpAll blocks149 (bl_loop (lp149_0 n) (bl_none rfl (bl_nil))) rfl (cs_no fun _ => rfl) (by kernel_rfl)
theorem ev149 (n : Nat) (x : pdens [.c false (.v false (.rs 3 (.int .i64))), .c false (.v true (.int .i64))]) : evSig (tb149 n) Try.f149 [.c false (.v false (.rs 3 (.int .i64))), .c false (.v true (.int .i64))] [.c false (.v true (.int .i64))] x = F149 n x.1 x.2.1 := by kernel_rfl
theorem con149_ok (n : Nat) : Con.ok Try.prog 149 (con149 n) := conOf_ok (tb149_ok n) (body_la (by kernel_rfl : Try.f149.body = some code149) (la149 n)) Try.func149 (enters Try.func149 (by kernel_rfl) (by kernel_rfl)) rfl rfl (ev149 n)
/-! ### slices.Contains[[]int,int] -/
def F135 (n : Nat) (a0 : List Int) (a1 : Int) : Option (rdens [.c false (.v false (.rs 3 (.int .i64))), .c false (.v true (.int .i64))] [.c false (.v true .bool)]) :=
  (F149 n (a0) (a1)).bind fun y1 =>
  some (Decidable.decide (y1.fst ≥ (0 : Int)), ())
noncomputable def con135 (n : Nat) : Con := conOf [.c false (.v false (.rs 3 (.int .i64))), .c false (.v true (.int .i64))] [.c false (.v true .bool)] fun x => F135 n x.1 x.2.1
noncomputable def tb135 (n : Nat) : Tb := ⟨tiOf Try.prog, conL [(149, con149 n)], n, [], 9, lpL [], ctL [], [], true⟩
noncomputable def code135 : Code := Try.f135.body.getD .skip
theorem tb135_ok (n : Nat) : (tb135 n).ok Try.prog := tbOk mixed (⟨con149_ok n, trivial⟩)
theorem blocks135 : blocks code135 = [] := by kernel_rfl
theorem la135 (n : Nat) : LpAll (tb135 n) code135 := lpAll blocks135 (bl_nil) rfl (cs_no fun _ => rfl) (by kernel_rfl)
theorem ev135 (n : Nat) (x : pdens [.c false (.v false (.rs 3 (.int .i64))), .c false (.v true (.int .i64))]) : evSig (tb135 n) Try.f135 [.c false (.v false (.rs 3 (.int .i64))), .c false (.v true (.int .i64))] [.c false (.v true .bool)] x = F135 n x.1 x.2.1 := by kernel_rfl
theorem con135_ok (n : Nat) : Con.ok Try.prog 135 (con135 n) := conOf_ok (tb135_ok n) (body_la (by kernel_rfl : Try.f135.body = some code135) (la135 n)) Try.func135 (enters Try.func135 (by kernel_rfl) (by kernel_rfl)) rfl rfl (ev135 n)
/-! ### slices.Equal[[]int,int] -/
def L137_0 (n : Nat) : Nat → List Int → List Int → Int → Int → Option (odens [(.ret, [(4, kB)]), ((.exit 0), [])])
  | 0, _, _, _, _ => none
  | m + 1, x1, x2, x3, x4 =>
    cond (Decidable.decide (x4 < x3))
    (if (0 : Int) ≤ x4 then
     if x4 < (↑x1.length : Int) then
     if (0 : Int) ≤ x4 then
     if x4 < (↑x2.length : Int) then
     cond (x1.getD x4.toNat (0 : Int) != x2.getD x4.toNat (0 : Int))
     (some (Sum.inl (Bool.false, ())))
     (L137_0 n m (x1) (x2) (x3) (Go.IntKind.i64.wrap (x4 + (1 : Int))))
     else none
     else none
     else none
     else none)
    (some (Sum.inr (Sum.inl (()))))
def F137 (n : Nat) (a0 : List Int) (a1 : List Int) : Option (rdens [.c false (.v false (.rs 3 (.int .i64))), .c false (.v false (.rs 3 (.int .i64)))] [.c false (.v true .bool)]) :=
  cond ((↑a0.length : Int) != (↑a1.length : Int))
  (some (Bool.false, ()))
  (match L137_0 n n (a0) (a1) ((↑a0.length : Int)) ((0 : Int)) with
   | none => none
   | some (Sum.inl v5) =>
    some (v5.fst, ())
   | some (Sum.inr (Sum.inl v6)) =>
    some (Bool.true, ()))
noncomputable def con137 (n : Nat) : Con := conOf [.c false (.v false (.rs 3 (.int .i64))), .c false (.v false (.rs 3 (.int .i64)))] [.c false (.v true .bool)] fun x => F137 n x.1 x.2.1
noncomputable def tb137 (n : Nat) : Tb := ⟨tiOf Try.prog, conL [], n, [], 26, lpL [(0, ⟨[(0, (.c false (.v false (.rs 3 (.int .i64))))), (1, (.c false (.v false (.rs 3 (.int .i64))))), (12, kI), (13, kI)], [(.ret, [(4, kB)]), ((.exit 0), [])], fun m v => L137_0 n m v.1 v.2.1 v.2.2.1 v.2.2.2.1⟩)], ctL [], [], true⟩
noncomputable def code137 : Code := Try.f137.body.getD .skip
theorem tb137_ok (n : Nat) : (tb137 n).ok Try.prog := tbOk mixed (trivial)
theorem lp137_0 (n : Nat) : LpAt (tb137 n) (loopBody code137 0) 0 := lpAt rfl (fun _ => by kernel_rfl) (fun _ _ => by kernel_rfl)
theorem blocks137 : blocks code137 = [(0, .loop (loopBody code137 0)), (1, blockBody code137 1)] := by kernel_rfl
theorem la137 (n : Nat) : LpAll (tb137 n) code137 := lpAll blocks137 (bl_loop (lp137_0 n) (bl_none rfl (bl_nil))) rfl (cs_no fun _ => rfl) (by kernel_rfl)
theorem ev137 (n : Nat) (x : pdens [.c false (.v false (.rs 3 (.int .i64))), .c false (.v false (.rs 3 (.int .i64)))]) : evSig (tb137 n) Try.f137 [.c false (.v false (.rs 3 (.int .i64))), .c false (.v false (.rs 3 (.int .i64)))] [.c false (.v true .bool)] x = F137 n x.1 x.2.1 := by kernel_rfl
theorem con137_ok (n : Nat) : Con.ok Try.prog 137 (con137 n) := conOf_ok (tb137_ok n) (body_la (by kernel_rfl : Try.f137.body = some code137) (la137 n)) Try.func137 (enters Try.func137 (by kernel_rfl) (by kernel_rfl)) rfl rfl (ev137 n)
/-! ### (loop.example/fathomline/impl.scene).fits -/
def J111_12 (n : Nat) (x9 : (List (List (Int × Int × Int)) × List (Int × Int × Bool) × List (Int × Int × Int)) × Unit) (x10 : (List Int × List (List Int)) × Unit) (x11 : List Int) (x12 : Int) (x13 : Int) : Option (odens [(.normal, [(2, (.b 95 [(.v false (.pair yP (.pair (.rs 67 yE) (.rs 59 yD))))])), (3, (.b 48 [(.v false yX)])), (24, (.c false (.v false (.rs 3 (.int .i64))))), (25, kI), (26, kI)])]) :=
    some (Sum.inl (((x9.fst.fst, x9.fst.snd.fst, x9.fst.snd.snd), ()), ((x10.fst.fst, x10.fst.snd), ()), x11, x12, Go.IntKind.i64.wrap (x13 + (1 : Int)), ()))
def L111_0 (n : Nat) : Nat → (List (List (Int × Int × Int)) × List (Int × Int × Bool) × List (Int × Int × Int)) × Unit → (List Int × List (List Int)) × Unit → List Int → Int → Int → Option (odens [(.ret, [(4, kB)]), ((.exit 0), [(2, (.b 95 [(.v false (.pair yP (.pair (.rs 67 yE) (.rs 59 yD))))])), (3, (.b 48 [(.v false yX)]))])])
  | 0, _, _, _, _, _ => none
  | m + 1, x3, x4, x5, x6, x7 =>
    cond (Decidable.decide (x7 < x6))
    (if (0 : Int) ≤ x7 then
     if x7 < (↑x5.length : Int) then
     if (0 : Int) ≤ x7 then
     if x7 < (↑(List.length x3.fst.snd.snd) : Int) then
     (F121 n (((List.getD x3.fst.snd.snd x7.toNat ((0 : Int), (0 : Int), (0 : Int))).fst, (List.getD x3.fst.snd.snd x7.toNat ((0 : Int), (0 : Int), (0 : Int))).snd.fst, (List.getD x3.fst.snd.snd x7.toNat ((0 : Int), (0 : Int), (0 : Int))).snd.snd))).bind fun y8 =>
     cond (!y8.fst)
     (cond (x5.getD x7.toNat (0 : Int) != (-2 : Int))
      (some (Sum.inl (Bool.false, ())))
      (match J111_12 n (((x3.fst.fst, x3.fst.snd.fst, x3.fst.snd.snd), ())) (((x4.fst.fst, x4.fst.snd), ())) (x5) (x6) (x7) with
       | none => none
       | some (Sum.inl v14) =>
        L111_0 n m (((v14.fst.fst.fst, v14.fst.fst.snd.fst, v14.fst.fst.snd.snd), ())) (((v14.snd.fst.fst.fst, v14.snd.fst.fst.snd), ())) (v14.snd.snd.fst) (v14.snd.snd.snd.fst) (v14.snd.snd.snd.snd.fst)))
     (cond (x5.getD x7.toNat (0 : Int) != (-1 : Int))
      ((F136 n ((x3.fst.fst, x3.fst.snd.fst, x3.fst.snd.snd)) ((List.getD x3.fst.snd.snd x7.toNat ((0 : Int), (0 : Int), (0 : Int))).snd.fst)).bind fun y15 =>
       (F135 n (y15.fst) (x5.getD x7.toNat (0 : Int))).bind fun y16 =>
       cond (!y16.fst)
       (some (Sum.inl (Bool.false, ())))
       (match J111_12 n (((x3.fst.fst, x3.fst.snd.fst, x3.fst.snd.snd), ())) (((x4.fst.fst, x4.fst.snd), ())) (x5) (x6) (x7) with
        | none => none
        | some (Sum.inl v17) =>
         L111_0 n m (((v17.fst.fst.fst, v17.fst.fst.snd.fst, v17.fst.fst.snd.snd), ())) (((v17.snd.fst.fst.fst, v17.snd.fst.fst.snd), ())) (v17.snd.snd.fst) (v17.snd.snd.snd.fst) (v17.snd.snd.snd.snd.fst)))
      (match J111_12 n (((x3.fst.fst, x3.fst.snd.fst, x3.fst.snd.snd), ())) (((x4.fst.fst, x4.fst.snd), ())) (x5) (x6) (x7) with
       | none => none
       | some (Sum.inl v18) =>
        L111_0 n m (((v18.fst.fst.fst, v18.fst.fst.snd.fst, v18.fst.fst.snd.snd), ())) (((v18.snd.fst.fst.fst, v18.snd.fst.fst.snd), ())) (v18.snd.snd.fst) (v18.snd.snd.snd.fst) (v18.snd.snd.snd.snd.fst)))
     else none
     else none
     else none
     else none)
    (some (Sum.inr (Sum.inl (((x3.fst.fst, x3.fst.snd.fst, x3.fst.snd.snd), ()), ((x4.fst.fst, x4.fst.snd), ()), ()))))
def L111_3 (n : Nat) : Nat → (List (List (Int × Int × Int)) × List (Int × Int × Bool) × List (Int × Int × Int)) × Unit → List (List Int) → Int → Int → Option (odens [(.ret, [(4, kB)]), ((.exit 3), [])])
  | 0, _, _, _, _ => none
  | m + 1, x21, x22, x23, x24 =>
    cond (Decidable.decide (x24 < x23))
    (if (0 : Int) ≤ x24 then
     if x24 < (↑x22.length : Int) then
     (F139 n (x22.getD x24.toNat [])).bind fun y25 =>
     (F138 n (y25.fst)).bind fun y26 =>
     (F136 n ((x21.fst.fst, x21.fst.snd.fst, x21.fst.snd.snd)) (x24)).bind fun y27 =>
     (F137 n (y26.fst) (y27.fst)).bind fun y28 =>
     cond (!y28.fst)
     (some (Sum.inl (Bool.false, ())))
     (L111_3 n m (((x21.fst.fst, x21.fst.snd.fst, x21.fst.snd.snd), ())) (x22) (x23) (Go.IntKind.i64.wrap (x24 + (1 : Int))))
     else none
     else none)
    (some (Sum.inr (Sum.inl (()))))
def J111_3 (n : Nat) (x1 : (List (List (Int × Int × Int)) × List (Int × Int × Bool) × List (Int × Int × Int)) × Unit) (x2 : (List Int × List (List Int)) × Unit) : Option (odens [(.ret, [(4, kB)])]) :=
    match L111_0 n n (((x1.fst.fst, x1.fst.snd.fst, x1.fst.snd.snd), ())) (((x2.fst.fst, x2.fst.snd), ())) (x2.fst.fst) ((↑(List.length x2.fst.fst) : Int)) ((0 : Int)) with
    | none => none
    | some (Sum.inl v19) =>
     some (Sum.inl (v19.fst, ()))
    | some (Sum.inr (Sum.inl v20)) =>
     match L111_3 n n (((v20.fst.fst.fst, v20.fst.fst.snd.fst, v20.fst.fst.snd.snd), ())) (v20.snd.fst.fst.snd) ((↑(List.length v20.snd.fst.fst.snd) : Int)) ((0 : Int)) with
     | none => none
     | some (Sum.inl v29) =>
      some (Sum.inl (v29.fst, ()))
     | some (Sum.inr (Sum.inl v30)) =>
      some (Sum.inl (Bool.true, ()))
def F111 (n : Nat) (a0 : List (List (Int × Int × Int)) × List (Int × Int × Bool) × List (Int × Int × Int)) (a1 : List Int × List (List Int)) : Option (rdens [.c true (.v false (.pair yP (.pair (.rs 67 yE) (.rs 59 yD)))), .c true (.v false yX)] [.c false (.v true .bool)]) :=
  cond ((↑(List.length a1.fst) : Int) != (↑(List.length a0.snd.fst) : Int))
  (some (Bool.false, ()))
  (cond ((↑(List.length a1.snd) : Int) != (3 : Int))
   (some (Bool.false, ()))
   (match J111_3 n (((a0.fst, a0.snd.fst, a0.snd.snd), ())) (((a1.fst, a1.snd), ())) with
    | none => none
    | some (Sum.inl v31) =>
     some (v31.fst, ())))
noncomputable def con111 (n : Nat) : Con := conOf [.c true (.v false (.pair yP (.pair (.rs 67 yE) (.rs 59 yD)))), .c true (.v false yX)] [.c false (.v true .bool)] fun x => F111 n x.1 x.2.1
noncomputable def tb111 (n : Nat) : Tb := ⟨tiOf Try.prog, conL [(121, con121 n), (136, con136 n), (135, con135 n), (139, con139 n), (138, con138 n), (137, con137 n)], n, [], 72, lpL [(0, ⟨[(2, (.b 95 [(.v false (.pair yP (.pair (.rs 67 yE) (.rs 59 yD))))])), (3, (.b 48 [(.v false yX)])), (24, (.c false (.v false (.rs 3 (.int .i64))))), (25, kI), (26, kI)], [(.ret, [(4, kB)]), ((.exit 0), [(2, (.b 95 [(.v false (.pair yP (.pair (.rs 67 yE) (.rs 59 yD))))])), (3, (.b 48 [(.v false yX)]))])], fun m v => L111_0 n m v.1 v.2.1 v.2.2.1 v.2.2.2.1 v.2.2.2.2.1⟩), (3, ⟨[(2, (.b 95 [(.v false (.pair yP (.pair (.rs 67 yE) (.rs 59 yD))))])), (56, (.c false (.v false (.rs 25 (.rs 3 (.int .i64)))))), (57, kI), (58, kI)], [(.ret, [(4, kB)]), ((.exit 3), [])], fun m v => L111_3 n m v.1 v.2.1 v.2.2.1 v.2.2.2.1⟩)], ctL [(12, ⟨[(2, (.b 95 [(.v false (.pair yP (.pair (.rs 67 yE) (.rs 59 yD))))])), (3, (.b 48 [(.v false yX)])), (24, (.c false (.v false (.rs 3 (.int .i64))))), (25, kI), (26, kI)], [(.normal, [(2, (.b 95 [(.v false (.pair yP (.pair (.rs 67 yE) (.rs 59 yD))))])), (3, (.b 48 [(.v false yX)])), (24, (.c false (.v false (.rs 3 (.int .i64))))), (25, kI), (26, kI)])], fun v => J111_12 n v.1 v.2.1 v.2.2.1 v.2.2.2.1 v.2.2.2.2.1⟩), (3, ⟨[(2, (.b 95 [(.v false (.pair yP (.pair (.rs 67 yE) (.rs 59 yD))))])), (3, (.b 48 [(.v false yX)]))], [(.ret, [(4, kB)])], fun v => J111_3 n v.1 v.2.1⟩)], [], true⟩
noncomputable def code111 : Code := Try.f111.body.getD .skip
theorem tb111_ok (n : Nat) : (tb111 n).ok Try.prog := tbOk mixed (⟨con121_ok n, ⟨con136_ok n, ⟨con135_ok n, ⟨con139_ok n, ⟨con138_ok n, ⟨con137_ok n, trivial⟩⟩⟩⟩⟩⟩)
theorem lp111_0 (n : Nat) : LpAt (tb111 n) (loopBody code111 0) 0 := lpAt rfl (fun _ => by kernel_rfl) (fun _ _ => by kernel_rfl)
theorem lp111_3 (n : Nat) : LpAt (tb111 n) (loopBody code111 3) 3 := lpAt rfl (fun _ => by kernel_rfl) (fun _ _ => by kernel_rfl)
theorem blocks111 : blocks code111 = [(0, .loop (loopBody code111 0)), (1, blockBody code111 1), (2, blockBody code111 2), (3, .loop (loopBody code111 3)), (4, blockBody code111 4)] := by kernel_rfl
theorem ct111_3 (n : Nat) : CtOk (tb111 n) (sec code111 1).2 ⟨[(2, (.b 95 [(.v false (.pair yP (.pair (.rs 67 yE) (.rs 59 yD))))])), (3, (.b 48 [(.v false yX)]))], [(.ret, [(4, kB)])], fun v => J111_3 n v.1 v.2.1⟩ := fun _ => by kernel_rfl
theorem ct111_12 (n : Nat) : CtOk (tb111 n) (sec code111 8).2 ⟨[(2, (.b 95 [(.v false (.pair yP (.pair (.rs 67 yE) (.rs 59 yD))))])), (3, (.b 48 [(.v false yX)])), (24, (.c false (.v false (.rs 3 (.int .i64))))), (25, kI), (26, kI)], [(.normal, [(2, (.b 95 [(.v false (.pair yP (.pair (.rs 67 yE) (.rs 59 yD))))])), (3, (.b 48 [(.v false yX)])), (24, (.c false (.v false (.rs 3 (.int .i64))))), (25, kI), (26, kI)])], fun v => J111_12 n v.1 v.2.1 v.2.2.1 v.2.2.2.1 v.2.2.2.2.1⟩ := fun _ => by kernel_rfl
theorem secs111 : seconds code111 = [(some 1, (sec code111 0).2), (some 3, (sec code111 1).2), (none, (sec code111 2).2), (none, (sec code111 3).2), (some 13, (sec code111 4).2), (some 4, (sec code111 5).2), (none, (sec code111 6).2), (some 5, (sec code111 7).2), (some 12, (sec code111 8).2), (some 6, (sec code111 9).2), (some 7, (sec code111 10).2), (none, (sec code111 11).2), (none, (sec code111 12).2), (none, (sec code111 13).2), (none, (sec code111 14).2), (none, (sec code111 15).2), (some 19, (sec code111 16).2), (some 14, (sec code111 17).2), (none, (sec code111 18).2), (some 15, (sec code111 19).2), (some 18, (sec code111 20).2), (some 16, (sec code111 21).2), (none, (sec code111 22).2), (none, (sec code111 23).2), (none, (sec code111 24).2)] := by kernel_rfl
theorem la111 (n : Nat) : LpAll (tb111 n) code111 := lpAll blocks111 (bl_loop (lp111_0 n) (bl_none rfl (bl_none rfl (bl_loop (lp111_3 n) (bl_none rfl (bl_nil)))))) secs111 (cs_none rfl (cs_one rfl (ct111_3 n) (cs_none rfl (cs_none rfl (cs_none rfl (cs_none rfl (cs_none rfl (cs_none rfl (cs_one rfl (ct111_12 n) (cs_none rfl (cs_none rfl (cs_none rfl (cs_none rfl (cs_none rfl (cs_none rfl (cs_none rfl (cs_none rfl (cs_none rfl (cs_none rfl (cs_none rfl (cs_none rfl (cs_none rfl (cs_none rfl (cs_none rfl (cs_none rfl (cs_nil)))))))))))))))))))))))))) (by kernel_rfl)
theorem ev111 (n : Nat) (x : pdens [.c true (.v false (.pair yP (.pair (.rs 67 yE) (.rs 59 yD)))), .c true (.v false yX)]) : evSig (tb111 n) Try.f111 [.c true (.v false (.pair yP (.pair (.rs 67 yE) (.rs 59 yD)))), .c true (.v false yX)] [.c false (.v true .bool)] x = F111 n x.1 x.2.1 := by kernel_rfl
theorem con111_ok (n : Nat) : Con.ok Try.prog 111 (con111 n) := conOf_ok (tb111_ok n) (body_la (by kernel_rfl : Try.f111.body = some code111) (la111 n)) Try.func111 (enters Try.func111 (by kernel_rfl) (by kernel_rfl)) rfl rfl (ev111 n)
/-! ### (loop.example/fathomline/impl.scene).lastRead -/
def L141_0 (n : Nat) : Nat → Int → (List (List (Int × Int × Int)) × List (Int × Int × Bool) × List (Int × Int × Int)) × Unit → Option (odens [((.exit 0), [(1, kI)])])
  | 0, _, _ => none
  | m + 1, x1, x2 =>
    if (0 : Int) ≤ x1 then
    if x1 < (↑(List.length x2.fst.snd.snd) : Int) then
    (F121 n (((List.getD x2.fst.snd.snd x1.toNat ((0 : Int), (0 : Int), (0 : Int))).fst, (List.getD x2.fst.snd.snd x1.toNat ((0 : Int), (0 : Int), (0 : Int))).snd.fst, (List.getD x2.fst.snd.snd x1.toNat ((0 : Int), (0 : Int), (0 : Int))).snd.snd))).bind fun y3 =>
    cond (!y3.fst)
    (L141_0 n m (Go.IntKind.i64.wrap (x1 - (1 : Int))) (((x2.fst.fst, x2.fst.snd.fst, x2.fst.snd.snd), ())))
    (some (Sum.inl (x1, ())))
    else none
    else none
def F141 (n : Nat) (a0 : List (List (Int × Int × Int)) × List (Int × Int × Bool) × List (Int × Int × Int)) (a1 : Int) : Option (rdens [.c true (.v false (.pair yP (.pair (.rs 67 yE) (.rs 59 yD)))), .c false (.v true (.int .i64))] [.c false (.v true (.int .i64))]) :=
  match L141_0 n n (Go.IntKind.i64.wrap (a1 - (1 : Int))) (((a0.fst, a0.snd.fst, a0.snd.snd), ())) with
  | none => none
  | some (Sum.inl v4) =>
   some (v4.fst, ())
noncomputable def con141 (n : Nat) : Con := conOf [.c true (.v false (.pair yP (.pair (.rs 67 yE) (.rs 59 yD)))), .c false (.v true (.int .i64))] [.c false (.v true (.int .i64))] fun x => F141 n x.1 x.2.1
noncomputable def tb141 (n : Nat) : Tb := ⟨tiOf Try.prog, conL [(121, con121 n)], n, [], 17, lpL [(0, ⟨[(1, kI), (2, (.b 95 [(.v false (.pair yP (.pair (.rs 67 yE) (.rs 59 yD))))]))], [((.exit 0), [(1, kI)])], fun m v => L141_0 n m v.1 v.2.1⟩)], ctL [], [], true⟩
noncomputable def code141 : Code := Try.f141.body.getD .skip
theorem tb141_ok (n : Nat) : (tb141 n).ok Try.prog := tbOk mixed (⟨con121_ok n, trivial⟩)
theorem lp141_0 (n : Nat) : LpAt (tb141 n) (loopBody code141 0) 0 := lpAt rfl (fun _ => by kernel_rfl) (fun _ _ => by kernel_rfl)
theorem blocks141 : blocks code141 = [(0, .loop (loopBody code141 0)), (1, blockBody code141 1)] := by kernel_rfl
theorem la141 (n : Nat) : LpAll (tb141 n) code141 := lpAll blocks141 (bl_loop (lp141_0 n) (bl_none rfl (bl_nil))) rfl (cs_no fun _ => rfl) (by kernel_rfl)
theorem ev141 (n : Nat) (x : pdens [.c true (.v false (.pair yP (.pair (.rs 67 yE) (.rs 59 yD)))), .c false (.v true (.int .i64))]) : evSig (tb141 n) Try.f141 [.c true (.v false (.pair yP (.pair (.rs 67 yE) (.rs 59 yD)))), .c false (.v true (.int .i64))] [.c false (.v true (.int .i64))] x = F141 n x.1 x.2.1 := by kernel_rfl
theorem con141_ok (n : Nat) : Con.ok Try.prog 141 (con141 n) := conOf_ok (tb141_ok n) (body_la (by kernel_rfl : Try.f141.body = some code141) (la141 n)) Try.func141 (enters Try.func141 (by kernel_rfl) (by kernel_rfl)) rfl rfl (ev141 n)
/-! ### (loop.example/fathomline/impl.scene).value -/
def J112_11 (n : Nat) (x8 : Int) (x9 : (List (List (Int × Int × Int)) × List (Int × Int × Bool) × List (Int × Int × Int)) × Unit) (x10 : (List Int × List (List Int)) × Unit) (x11 : Int) (x12 : Int) : Option (odens [(.normal, [(2, kI), (3, (.b 95 [(.v false (.pair yP (.pair (.rs 67 yE) (.rs 59 yD))))])), (4, (.b 48 [(.v false yX)])), (11, kI), (12, kI)])]) :=
    some (Sum.inl (x8, ((x9.fst.fst, x9.fst.snd.fst, x9.fst.snd.snd), ()), ((x10.fst.fst, x10.fst.snd), ()), x11, Go.IntKind.i64.wrap (x12 + (1 : Int)), ()))
def L112_0 (n : Nat) : Nat → Int → (List (List (Int × Int × Int)) × List (Int × Int × Bool) × List (Int × Int × Int)) × Unit → (List Int × List (List Int)) × Unit → Int → Int → Option (odens [(.ret, [(6, kI), (7, kB)]), ((.exit 0), [])])
  | 0, _, _, _, _, _ => none
  | m + 1, x1, x2, x3, x4, x5 =>
    cond (Decidable.decide (x5 < x4))
    (if (0 : Int) ≤ x1 then
     if x1 < (↑(List.length x2.fst.snd.snd) : Int) then
     (F140 n (((List.getD x2.fst.snd.snd x1.toNat ((0 : Int), (0 : Int), (0 : Int))).fst, (List.getD x2.fst.snd.snd x1.toNat ((0 : Int), (0 : Int), (0 : Int))).snd.fst, (List.getD x2.fst.snd.snd x1.toNat ((0 : Int), (0 : Int), (0 : Int))).snd.snd))).bind fun y6 =>
     cond (y6.fst)
     (some (Sum.inl ((List.getD x2.fst.snd.snd x1.toNat ((0 : Int), (0 : Int), (0 : Int))).snd.snd, Bool.true, ())))
     (cond ((List.getD x2.fst.snd.snd x1.toNat ((0 : Int), (0 : Int), (0 : Int))).fst == (3 : Int))
      ((F141 n ((x2.fst.fst, x2.fst.snd.fst, x2.fst.snd.snd)) (x1)).bind fun y7 =>
       match J112_11 n (y7.fst) (((x2.fst.fst, x2.fst.snd.fst, x2.fst.snd.snd), ())) (((x3.fst.fst, x3.fst.snd), ())) (x4) (x5) with
       | none => none
       | some (Sum.inl v13) =>
        L112_0 n m (v13.fst) (((v13.snd.fst.fst.fst, v13.snd.fst.fst.snd.fst, v13.snd.fst.fst.snd.snd), ())) (((v13.snd.snd.fst.fst.fst, v13.snd.snd.fst.fst.snd), ())) (v13.snd.snd.snd.fst) (v13.snd.snd.snd.snd.fst))
      (if (0 : Int) ≤ x1 then
       if x1 < (↑(List.length x3.fst.fst) : Int) then
       cond (List.getD x3.fst.fst x1.toNat (0 : Int) == (-1 : Int))
       (some (Sum.inl ((0 : Int), Bool.true, ())))
       (if (0 : Int) ≤ x1 then
        if x1 < (↑(List.length x3.fst.fst) : Int) then
        match J112_11 n (List.getD x3.fst.fst x1.toNat (0 : Int)) (((x2.fst.fst, x2.fst.snd.fst, x2.fst.snd.snd), ())) (((x3.fst.fst, x3.fst.snd), ())) (x4) (x5) with
        | none => none
        | some (Sum.inl v14) =>
         L112_0 n m (v14.fst) (((v14.snd.fst.fst.fst, v14.snd.fst.fst.snd.fst, v14.snd.fst.fst.snd.snd), ())) (((v14.snd.snd.fst.fst.fst, v14.snd.snd.fst.fst.snd), ())) (v14.snd.snd.snd.fst) (v14.snd.snd.snd.snd.fst)
        else none
        else none)
       else none
       else none))
     else none
     else none)
    (some (Sum.inr (Sum.inl (()))))
def F112 (n : Nat) (a0 : List (List (Int × Int × Int)) × List (Int × Int × Bool) × List (Int × Int × Int)) (a1 : List Int × List (List Int)) (a2 : Int) : Option (rdens [.c true (.v false (.pair yP (.pair (.rs 67 yE) (.rs 59 yD)))), .c true (.v false yX), .c false (.v true (.int .i64))] [.c false (.v true (.int .i64)), .c false (.v true .bool)]) :=
  match L112_0 n n (a2) (((a0.fst, a0.snd.fst, a0.snd.snd), ())) (((a1.fst, a1.snd), ())) ((↑(List.length a0.snd.fst) : Int)) ((0 : Int)) with
  | none => none
  | some (Sum.inl v15) =>
   some (v15.fst, v15.snd.fst, ())
  | some (Sum.inr (Sum.inl v16)) =>
   some ((0 : Int), Bool.false, ())
noncomputable def con112 (n : Nat) : Con := conOf [.c true (.v false (.pair yP (.pair (.rs 67 yE) (.rs 59 yD)))), .c true (.v false yX), .c false (.v true (.int .i64))] [.c false (.v true (.int .i64)), .c false (.v true .bool)] fun x => F112 n x.1 x.2.1 x.2.2.1
noncomputable def tb112 (n : Nat) : Tb := ⟨tiOf Try.prog, conL [(140, con140 n), (141, con141 n)], n, [], 44, lpL [(0, ⟨[(2, kI), (3, (.b 95 [(.v false (.pair yP (.pair (.rs 67 yE) (.rs 59 yD))))])), (4, (.b 48 [(.v false yX)])), (11, kI), (12, kI)], [(.ret, [(6, kI), (7, kB)]), ((.exit 0), [])], fun m v => L112_0 n m v.1 v.2.1 v.2.2.1 v.2.2.2.1 v.2.2.2.2.1⟩)], ctL [(11, ⟨[(2, kI), (3, (.b 95 [(.v false (.pair yP (.pair (.rs 67 yE) (.rs 59 yD))))])), (4, (.b 48 [(.v false yX)])), (11, kI), (12, kI)], [(.normal, [(2, kI), (3, (.b 95 [(.v false (.pair yP (.pair (.rs 67 yE) (.rs 59 yD))))])), (4, (.b 48 [(.v false yX)])), (11, kI), (12, kI)])], fun v => J112_11 n v.1 v.2.1 v.2.2.1 v.2.2.2.1 v.2.2.2.2.1⟩)], [], true⟩
noncomputable def code112 : Code := Try.f112.body.getD .skip
theorem tb112_ok (n : Nat) : (tb112 n).ok Try.prog := tbOk mixed (⟨con140_ok n, ⟨con141_ok n, trivial⟩⟩)
theorem lp112_0 (n : Nat) : LpAt (tb112 n) (loopBody code112 0) 0 := lpAt rfl (fun _ => by kernel_rfl) (fun _ _ => by kernel_rfl)
theorem blocks112 : blocks code112 = [(0, .loop (loopBody code112 0)), (1, blockBody code112 1), (2, blockBody code112 2)] := by kernel_rfl
theorem ct112_11 (n : Nat) : CtOk (tb112 n) (sec code112 5).2 ⟨[(2, kI), (3, (.b 95 [(.v false (.pair yP (.pair (.rs 67 yE) (.rs 59 yD))))])), (4, (.b 48 [(.v false yX)])), (11, kI), (12, kI)], [(.normal, [(2, kI), (3, (.b 95 [(.v false (.pair yP (.pair (.rs 67 yE) (.rs 59 yD))))])), (4, (.b 48 [(.v false yX)])), (11, kI), (12, kI)])], fun v => J112_11 n v.1 v.2.1 v.2.2.1 v.2.2.2.1 v.2.2.2.2.1⟩ := fun _ => by kernel_rfl
theorem secs112 : seconds code112 = [(some 1, (sec code112 0).2), (some 12, (sec code112 1).2), (some 2, (sec code112 2).2), (none, (sec code112 3).2), (some 3, (sec code112 4).2), (some 11, (sec code112 5).2), (some 5, (sec code112 6).2), (none, (sec code112 7).2), (none, (sec code112 8).2), (none, (sec code112 9).2), (none, (sec code112 10).2), (none, (sec code112 11).2), (none, (sec code112 12).2)] := by kernel_rfl
theorem la112 (n : Nat) : LpAll (tb112 n) code112 := lpAll blocks112 (bl_loop (lp112_0 n) (bl_none rfl (bl_none rfl (bl_nil)))) secs112 (cs_none rfl (cs_none rfl (cs_none rfl (cs_none rfl (cs_none rfl (cs_one rfl (ct112_11 n) (cs_none rfl (cs_none rfl (cs_none rfl (cs_none rfl (cs_none rfl (cs_none rfl (cs_none rfl (cs_nil)))))))))))))) (by kernel_rfl)
theorem ev112 (n : Nat) (x : pdens [.c true (.v false (.pair yP (.pair (.rs 67 yE) (.rs 59 yD)))), .c true (.v false yX), .c false (.v true (.int .i64))]) : evSig (tb112 n) Try.f112 [.c true (.v false (.pair yP (.pair (.rs 67 yE) (.rs 59 yD)))), .c true (.v false yX), .c false (.v true (.int .i64))] [.c false (.v true (.int .i64)), .c false (.v true .bool)] x = F112 n x.1 x.2.1 x.2.2.1 := by kernel_rfl
theorem con112_ok (n : Nat) : Con.ok Try.prog 112 (con112 n) := conOf_ok (tb112_ok n) (body_la (by kernel_rfl : Try.f112.body = some code112) (la112 n)) Try.func112 (enters Try.func112 (by kernel_rfl) (by kernel_rfl)) rfl rfl (ev112 n)
/-! ### (loop.example/fathomline/impl.scene).ok -/
def J71_10 (n : Nat) (x8 : (List (List (Int × Int × Int)) × List (Int × Int × Bool) × List (Int × Int × Int)) × Unit) (x9 : (List Int × List (List Int)) × Unit) (x10 : List (Int × Int × Int)) (x11 : Int) (x12 : Int) : Option (odens [(.normal, [(2, (.b 95 [(.v false (.pair yP (.pair (.rs 67 yE) (.rs 59 yD))))])), (3, (.b 48 [(.v false yX)])), (14, (.c false (.v false (.rs 59 yD)))), (15, kI), (16, kI)])]) :=
    some (Sum.inl (((x8.fst.fst, x8.fst.snd.fst, x8.fst.snd.snd), ()), ((x9.fst.fst, x9.fst.snd), ()), x10, x11, Go.IntKind.i64.wrap (x12 + (1 : Int)), ()))
def L71_0 (n : Nat) : Nat → (List (List (Int × Int × Int)) × List (Int × Int × Bool) × List (Int × Int × Int)) × Unit → (List Int × List (List Int)) × Unit → List (Int × Int × Int) → Int → Int → Option (odens [(.ret, [(4, kB)]), ((.exit 0), [])])
  | 0, _, _, _, _, _ => none
  | m + 1, x2, x3, x4, x5, x6 =>
    cond (Decidable.decide (x6 < x5))
    (if (0 : Int) ≤ x6 then
     if x6 < (↑x4.length : Int) then
     (F110 n (((x4.getD x6.toNat ((0 : Int), (0 : Int), (0 : Int))).fst, (x4.getD x6.toNat ((0 : Int), (0 : Int), (0 : Int))).snd.fst, (x4.getD x6.toNat ((0 : Int), (0 : Int), (0 : Int))).snd.snd))).bind fun y7 =>
     cond (!y7.fst)
     (match J71_10 n (((x2.fst.fst, x2.fst.snd.fst, x2.fst.snd.snd), ())) (((x3.fst.fst, x3.fst.snd), ())) (x4) (x5) (x6) with
      | none => none
      | some (Sum.inl v13) =>
       L71_0 n m (((v13.fst.fst.fst, v13.fst.fst.snd.fst, v13.fst.fst.snd.snd), ())) (((v13.snd.fst.fst.fst, v13.snd.fst.fst.snd), ())) (v13.snd.snd.fst) (v13.snd.snd.snd.fst) (v13.snd.snd.snd.snd.fst))
     ((F112 n ((x2.fst.fst, x2.fst.snd.fst, x2.fst.snd.snd)) ((x3.fst.fst, x3.fst.snd)) (x6)).bind fun y14 =>
      cond (!y14.snd.fst)
      (some (Sum.inl (Bool.false, ())))
      (match J71_10 n (((x2.fst.fst, x2.fst.snd.fst, x2.fst.snd.snd), ())) (((x3.fst.fst, x3.fst.snd), ())) (x4) (x5) (x6) with
       | none => none
       | some (Sum.inl v15) =>
        L71_0 n m (((v15.fst.fst.fst, v15.fst.fst.snd.fst, v15.fst.fst.snd.snd), ())) (((v15.snd.fst.fst.fst, v15.snd.fst.fst.snd), ())) (v15.snd.snd.fst) (v15.snd.snd.snd.fst) (v15.snd.snd.snd.snd.fst)))
     else none
     else none)
    (some (Sum.inr (Sum.inl (()))))
def F71 (n : Nat) (a0 : List (List (Int × Int × Int)) × List (Int × Int × Bool) × List (Int × Int × Int)) (a1 : List Int × List (List Int)) : Option (rdens [.c true (.v false (.pair yP (.pair (.rs 67 yE) (.rs 59 yD)))), .c true (.v false yX)] [.c false (.v true .bool)]) :=
  (F111 n ((a0.fst, a0.snd.fst, a0.snd.snd)) ((a1.fst, a1.snd))).bind fun y1 =>
  cond (!y1.fst)
  (some (Bool.false, ()))
  (match L71_0 n n (((a0.fst, a0.snd.fst, a0.snd.snd), ())) (((a1.fst, a1.snd), ())) (a0.snd.snd) ((↑(List.length a0.snd.snd) : Int)) ((0 : Int)) with
   | none => none
   | some (Sum.inl v16) =>
    some (v16.fst, ())
   | some (Sum.inr (Sum.inl v17)) =>
    some (Bool.true, ()))
noncomputable def con71 (n : Nat) : Con := conOf [.c true (.v false (.pair yP (.pair (.rs 67 yE) (.rs 59 yD)))), .c true (.v false yX)] [.c false (.v true .bool)] fun x => F71 n x.1 x.2.1
noncomputable def tb71 (n : Nat) : Tb := ⟨tiOf Try.prog, conL [(111, con111 n), (110, con110 n), (112, con112 n)], n, [], 34, lpL [(0, ⟨[(2, (.b 95 [(.v false (.pair yP (.pair (.rs 67 yE) (.rs 59 yD))))])), (3, (.b 48 [(.v false yX)])), (14, (.c false (.v false (.rs 59 yD)))), (15, kI), (16, kI)], [(.ret, [(4, kB)]), ((.exit 0), [])], fun m v => L71_0 n m v.1 v.2.1 v.2.2.1 v.2.2.2.1 v.2.2.2.2.1⟩)], ctL [(10, ⟨[(2, (.b 95 [(.v false (.pair yP (.pair (.rs 67 yE) (.rs 59 yD))))])), (3, (.b 48 [(.v false yX)])), (14, (.c false (.v false (.rs 59 yD)))), (15, kI), (16, kI)], [(.normal, [(2, (.b 95 [(.v false (.pair yP (.pair (.rs 67 yE) (.rs 59 yD))))])), (3, (.b 48 [(.v false yX)])), (14, (.c false (.v false (.rs 59 yD)))), (15, kI), (16, kI)])], fun v => J71_10 n v.1 v.2.1 v.2.2.1 v.2.2.2.1 v.2.2.2.2.1⟩)], [], true⟩
noncomputable def code71 : Code := Try.f71.body.getD .skip
theorem tb71_ok (n : Nat) : (tb71 n).ok Try.prog := tbOk mixed (⟨con111_ok n, ⟨con110_ok n, ⟨con112_ok n, trivial⟩⟩⟩)
theorem lp71_0 (n : Nat) : LpAt (tb71 n) (loopBody code71 0) 0 := lpAt rfl (fun _ => by kernel_rfl) (fun _ _ => by kernel_rfl)
theorem blocks71 : blocks code71 = [(0, .loop (loopBody code71 0)), (1, blockBody code71 1)] := by kernel_rfl
theorem ct71_10 (n : Nat) : CtOk (tb71 n) (sec code71 8).2 ⟨[(2, (.b 95 [(.v false (.pair yP (.pair (.rs 67 yE) (.rs 59 yD))))])), (3, (.b 48 [(.v false yX)])), (14, (.c false (.v false (.rs 59 yD)))), (15, kI), (16, kI)], [(.normal, [(2, (.b 95 [(.v false (.pair yP (.pair (.rs 67 yE) (.rs 59 yD))))])), (3, (.b 48 [(.v false yX)])), (14, (.c false (.v false (.rs 59 yD)))), (15, kI), (16, kI)])], fun v => J71_10 n v.1 v.2.1 v.2.2.1 v.2.2.2.1 v.2.2.2.2.1⟩ := fun _ => by kernel_rfl
theorem secs71 : seconds code71 = [(some 1, (sec code71 0).2), (some 3, (sec code71 1).2), (none, (sec code71 2).2), (none, (sec code71 3).2), (some 11, (sec code71 4).2), (some 4, (sec code71 5).2), (none, (sec code71 6).2), (some 5, (sec code71 7).2), (some 10, (sec code71 8).2), (some 6, (sec code71 9).2), (some 7, (sec code71 10).2), (none, (sec code71 11).2), (some 8, (sec code71 12).2), (none, (sec code71 13).2), (none, (sec code71 14).2), (none, (sec code71 15).2)] := by kernel_rfl
theorem la71 (n : Nat) : LpAll (tb71 n) code71 := lpAll blocks71 (bl_loop (lp71_0 n) (bl_none rfl (bl_nil))) secs71 (cs_none rfl (cs_none rfl (cs_none rfl (cs_none rfl (cs_none rfl (cs_none rfl (cs_none rfl (cs_none rfl (cs_one rfl (ct71_10 n) (cs_none rfl (cs_none rfl (cs_none rfl (cs_none rfl (cs_none rfl (cs_none rfl (cs_none rfl (cs_nil))))))))))))))))) (by kernel_rfl)
theorem ev71 (n : Nat) (x : pdens [.c true (.v false (.pair yP (.pair (.rs 67 yE) (.rs 59 yD)))), .c true (.v false yX)]) : evSig (tb71 n) Try.f71 [.c true (.v false (.pair yP (.pair (.rs 67 yE) (.rs 59 yD)))), .c true (.v false yX)] [.c false (.v true .bool)] x = F71 n x.1 x.2.1 := by kernel_rfl
theorem con71_ok (n : Nat) : Con.ok Try.prog 71 (con71 n) := conOf_ok (tb71_ok n) (body_la (by kernel_rfl : Try.f71.body = some code71) (la71 n)) Try.func71 (enters Try.func71 (by kernel_rfl) (by kernel_rfl)) rfl rfl (ev71 n)
/-! ### loop.example/fathomline/impl.ExecOk -/
def F31 (n : Nat) (a0 : List (List (Int × Int × Int))) (a1 : List Int × List (List Int)) : Option (rdens [.c true (.v true yP), .c true (.v true yX)] [.c false (.v true .bool)]) :=
  (F69 n (a0)).bind fun y1 =>
  cond (y1.fst)
  ((F70 n (a0)).bind fun y2 =>
   (F71 n ((y2.fst.fst, y2.fst.snd.fst, y2.fst.snd.snd)) ((a1.fst, a1.snd))).bind fun y3 =>
   some (y3.fst, ()))
  (some (Bool.false, ()))
noncomputable def con31 (n : Nat) : Con := conOf [.c true (.v true yP), .c true (.v true yX)] [.c false (.v true .bool)] fun x => F31 n x.1 x.2.1
noncomputable def tb31 (n : Nat) : Tb := ⟨tiOf Try.prog, conL [(69, con69 n), (70, con70 n), (71, con71 n)], n, [], 13, lpL [], ctL [], [], true⟩
noncomputable def code31 : Code := Try.f31.body.getD .skip
theorem tb31_ok (n : Nat) : (tb31 n).ok Try.prog := tbOk mixed (⟨con69_ok n, ⟨con70_ok n, ⟨con71_ok n, trivial⟩⟩⟩)
theorem blocks31 : blocks code31 = [] := by kernel_rfl
theorem la31 (n : Nat) : LpAll (tb31 n) code31 := lpAll blocks31 (bl_nil) rfl (cs_no fun _ => rfl) (by kernel_rfl)
theorem ev31 (n : Nat) (x : pdens [.c true (.v true yP), .c true (.v true yX)]) : evSig (tb31 n) Try.f31 [.c true (.v true yP), .c true (.v true yX)] [.c false (.v true .bool)] x = F31 n x.1 x.2.1 := by kernel_rfl
theorem con31_ok (n : Nat) : Con.ok Try.prog 31 (con31 n) := conOf_ok (tb31_ok n) (body_la (by kernel_rfl : Try.f31.body = some code31) (la31 n)) Try.func31 (enters Try.func31 (by kernel_rfl) (by kernel_rfl)) rfl rfl (ev31 n)
end Go.Proofs.Ytdacfaincamliaa.Ev
