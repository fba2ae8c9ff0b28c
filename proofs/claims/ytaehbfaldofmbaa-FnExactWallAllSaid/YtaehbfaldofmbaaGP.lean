/- Plain functions that the loaded code comes to, and that it does. Conditions: none. -/
import Derived.Test.YtaehbfaldofmbaaGW
namespace Go.Proofs.Ytaehbfaldofmbaa.Ev
open Go Go.Proofs
/-! ### loop.example/fathomline/spec.l21Ok -/
def J100_3 (n : Nat) (x5 : List Int) (x6 : Int) (x7 : Int) : Option (odens [(.normal, [(0, (.c false (.v false (.rs 3 (.int .i64))))), (1, (.c false (.v true (.int .i64)))), (5, (.c false (.v true (.int .i64))))])]) :=
    some (Sum.inl (x5, x6, Go.IntKind.i64.wrap (x7 + (1 : Int)), ()))
def L100_0 (n : Nat) : Nat → List Int → Int → Int → Option (odens [(.ret, [(4, (.c false (.v true .bool)))]), ((.exit 0), [])])
  | 0, _, _, _ => none
  | m + 1, x1, x2, x3 =>
    cond (Decidable.decide (x3 < (↑x1.length : Int)))
    (if (0 : Int) ≤ x3 then
     if x3 < (↑x1.length : Int) then
     (F129 n (x1.getD x3.toNat (0 : Int)) ((0 : Int)) (Go.IntKind.i64.wrap (x2 - (1 : Int)))).bind fun y4 =>
     cond (!y4.fst)
     (some (Sum.inl (Bool.false, ())))
     (cond (Decidable.decide (x3 > (0 : Int)))
      (if (0 : Int) ≤ Go.IntKind.i64.wrap (x3 - (1 : Int)) then
       if Go.IntKind.i64.wrap (x3 - (1 : Int)) < (↑x1.length : Int) then
       if (0 : Int) ≤ x3 then
       if x3 < (↑x1.length : Int) then
       cond (Decidable.decide (x1.getD (Go.IntKind.i64.wrap (x3 - (1 : Int))).toNat (0 : Int) ≥ x1.getD x3.toNat (0 : Int)))
       (some (Sum.inl (Bool.false, ())))
       (match J100_3 n (x1) (x2) (x3) with
        | none => none
        | some (Sum.inl v8) =>
         L100_0 n m (v8.fst) (v8.snd.fst) (v8.snd.snd.fst))
       else none
       else none
       else none
       else none)
      (match J100_3 n (x1) (x2) (x3) with
       | none => none
       | some (Sum.inl v9) =>
        L100_0 n m (v9.fst) (v9.snd.fst) (v9.snd.snd.fst)))
     else none
     else none)
    (some (Sum.inr (Sum.inl (()))))
def F100 (n : Nat) (a0 : List Int) (a1 : Int) : Option (rdens [.c false (.v false (.rs 3 (.int .i64))), .c false (.v true (.int .i64))] [.c false (.v true .bool)]) :=
  match L100_0 n n (a0) (a1) ((0 : Int)) with
  | none => none
  | some (Sum.inl v10) =>
   some (v10.fst, ())
  | some (Sum.inr (Sum.inl v11)) =>
   some (Bool.true, ())
noncomputable def con100 (n : Nat) : Con := conOf [.c false (.v false (.rs 3 (.int .i64))), .c false (.v true (.int .i64))] [.c false (.v true .bool)] fun x => F100 n x.1 x.2.1
noncomputable def tb100 (n : Nat) : Tb := ⟨tiOf Try.prog, conL [(129, con129 n)], n, [], 36, lpL [(0, ⟨[(0, (.c false (.v false (.rs 3 (.int .i64))))), (1, (.c false (.v true (.int .i64)))), (5, (.c false (.v true (.int .i64))))], [(.ret, [(4, (.c false (.v true .bool)))]), ((.exit 0), [])], fun m v => L100_0 n m v.1 v.2.1 v.2.2.1⟩)], ctL [(3, ⟨[(0, (.c false (.v false (.rs 3 (.int .i64))))), (1, (.c false (.v true (.int .i64)))), (5, (.c false (.v true (.int .i64))))], [(.normal, [(0, (.c false (.v false (.rs 3 (.int .i64))))), (1, (.c false (.v true (.int .i64)))), (5, (.c false (.v true (.int .i64))))])], fun v => J100_3 n v.1 v.2.1 v.2.2.1⟩)], [], true⟩
noncomputable def code100 : Code := Try.f100.body.getD .skip
theorem tb100_ok (n : Nat) : (tb100 n).ok Try.prog := tbOk mixed (⟨con129_ok n, trivial⟩)
theorem lp100_0 (n : Nat) : LpAt (tb100 n) (loopBody code100 0) 0 := lpAt rfl (fun _ => by kernel_rfl) (fun _ _ => by kernel_rfl)
theorem blocks100 : blocks code100 = [(0, .loop (loopBody code100 0)), (1, blockBody code100 1)] := by kernel_rfl
theorem ct100_3 (n : Nat) : CtOk (tb100 n) (sec code100 5).2 ⟨[(0, (.c false (.v false (.rs 3 (.int .i64))))), (1, (.c false (.v true (.int .i64)))), (5, (.c false (.v true (.int .i64))))], [(.normal, [(0, (.c false (.v false (.rs 3 (.int .i64))))), (1, (.c false (.v true (.int .i64)))), (5, (.c false (.v true (.int .i64))))])], fun v => J100_3 n v.1 v.2.1 v.2.2.1⟩ := fun _ => by kernel_rfl
theorem secs100 : seconds code100 = [(some 1, (sec code100 0).2), (some 6, (sec code100 1).2), (some 2, (sec code100 2).2), (some 4, (sec code100 3).2), (none, (sec code100 4).2), (some 3, (sec code100 5).2), (none, (sec code100 6).2), (none, (sec code100 7).2), (none, (sec code100 8).2)] := by kernel_rfl
theorem la100 (n : Nat) : LpAll (tb100 n) code100 := lpAll blocks100 (bl_loop (lp100_0 n) (bl_none rfl (bl_nil))) secs100 (cs_none rfl (cs_none rfl (cs_none rfl (cs_none rfl (cs_none rfl (cs_one rfl (ct100_3 n) (cs_none rfl (cs_none rfl (cs_none rfl (cs_nil)))))))))) (by kernel_rfl)
theorem ev100 (n : Nat) (x : pdens [.c false (.v false (.rs 3 (.int .i64))), .c false (.v true (.int .i64))]) : evSig (tb100 n) Try.f100 [.c false (.v false (.rs 3 (.int .i64))), .c false (.v true (.int .i64))] [.c false (.v true .bool)] x = F100 n x.1 x.2.1 := by kernel_rfl
theorem con100_ok (n : Nat) : Con.ok Try.prog 100 (con100 n) := conOf_ok (tb100_ok n) (body_la (by kernel_rfl : Try.f100.body = some code100) (la100 n)) Try.func100 (enters Try.func100 (by kernel_rfl) (by kernel_rfl)) rfl rfl (ev100 n)
/-! ### loop.example/fathomline/spec.l12Has -/
def L101_0 (n : Nat) : Nat → List Int → Int → Int → Option (odens [(.ret, [(4, (.c false (.v true .bool)))]), ((.exit 0), [])])
  | 0, _, _, _ => none
  | m + 1, x1, x2, x3 =>
    cond (Decidable.decide (x3 < (↑x1.length : Int)))
    (if (0 : Int) ≤ x3 then
     if x3 < (↑x1.length : Int) then
     cond (x1.getD x3.toNat (0 : Int) == x2)
     (some (Sum.inl (Bool.true, ())))
     (L101_0 n m (x1) (x2) (Go.IntKind.i64.wrap (x3 + (1 : Int))))
     else none
     else none)
    (some (Sum.inr (Sum.inl (()))))
def F101 (n : Nat) (a0 : List Int) (a1 : Int) : Option (rdens [.c false (.v false (.rs 3 (.int .i64))), .c false (.v true (.int .i64))] [.c false (.v true .bool)]) :=
  match L101_0 n n (a0) (a1) ((0 : Int)) with
  | none => none
  | some (Sum.inl v4) =>
   some (v4.fst, ())
  | some (Sum.inr (Sum.inl v5)) =>
   some (Bool.false, ())
noncomputable def con101 (n : Nat) : Con := conOf [.c false (.v false (.rs 3 (.int .i64))), .c false (.v true (.int .i64))] [.c false (.v true .bool)] fun x => F101 n x.1 x.2.1
noncomputable def tb101 (n : Nat) : Tb := ⟨tiOf Try.prog, conL [], n, [], 18, lpL [(0, ⟨[(0, (.c false (.v false (.rs 3 (.int .i64))))), (1, (.c false (.v true (.int .i64)))), (5, (.c false (.v true (.int .i64))))], [(.ret, [(4, (.c false (.v true .bool)))]), ((.exit 0), [])], fun m v => L101_0 n m v.1 v.2.1 v.2.2.1⟩)], ctL [], [], true⟩
noncomputable def code101 : Code := Try.f101.body.getD .skip
theorem tb101_ok (n : Nat) : (tb101 n).ok Try.prog := tbOk mixed (trivial)
theorem lp101_0 (n : Nat) : LpAt (tb101 n) (loopBody code101 0) 0 := lpAt rfl (fun _ => by kernel_rfl) (fun _ _ => by kernel_rfl)
theorem blocks101 : blocks code101 = [(0, .loop (loopBody code101 0)), (1, blockBody code101 1)] := by kernel_rfl
theorem la101 (n : Nat) : LpAll (tb101 n) code101 := lpAll blocks101 (bl_loop (lp101_0 n) (bl_none rfl (bl_nil))) rfl (cs_no fun _ => rfl) (by kernel_rfl)
theorem ev101 (n : Nat) (x : pdens [.c false (.v false (.rs 3 (.int .i64))), .c false (.v true (.int .i64))]) : evSig (tb101 n) Try.f101 [.c false (.v false (.rs 3 (.int .i64))), .c false (.v true (.int .i64))] [.c false (.v true .bool)] x = F101 n x.1 x.2.1 := by kernel_rfl
theorem con101_ok (n : Nat) : Con.ok Try.prog 101 (con101 n) := conOf_ok (tb101_ok n) (body_la (by kernel_rfl : Try.f101.body = some code101) (la101 n)) Try.func101 (enters Try.func101 (by kernel_rfl) (by kernel_rfl)) rfl rfl (ev101 n)
/-! ### loop.example/fathomline/spec.WallPut -/
def J59_16 (n : Nat) (x22 : List Int) (x23 : List (List (Int × Int × Int)) × Unit) (x24 : List (List (Int × Int × Int)) × Unit) (x25 : List (List (Int × Int × Int)) × Unit) (x26 : Int) (x27 : Int) (x28 : List (Int × Int × Int)) (x29 : Int) : Option (odens [(.normal, [(1, (.c false (.v false (.rs 3 (.int .i64))))), (2, (.b 44 [(.v false (.rs 50 (.rs 52 (.pair (.int .i64) (.pair (.int .i64) (.int .i64))))))])), (4, (.b 44 [(.o (.rs 50 (.rs 52 (.pair (.int .i64) (.pair (.int .i64) (.int .i64))))))])), (6, (.b 44 [(.o (.rs 50 (.rs 52 (.pair (.int .i64) (.pair (.int .i64) (.int .i64))))))])), (7, (.c false (.v true (.int .i64)))), (8, (.c false (.v true (.int .i64)))), (9, (.c false (.r 52 (.pair (.int .i64) (.pair (.int .i64) (.int .i64)))))), (10, (.c false (.v true (.int .i64))))])]) :=
    some (Sum.inl (x22, (x23.fst, ()), (x24.fst, ()), (x25.fst, ()), Go.IntKind.i64.wrap (x26 + (1 : Int)), x27, x28, x29, ()))
def J59_11 (n : Nat) (x31 : List Int) (x32 : List (List (Int × Int × Int)) × Unit) (x33 : List (List (Int × Int × Int)) × Unit) (x34 : List (List (Int × Int × Int)) × Unit) (x35 : Int) (x36 : Int) (x37 : List (Int × Int × Int)) (x38 : Int) : Option (odens [(.normal, [(1, (.c false (.v false (.rs 3 (.int .i64))))), (2, (.b 44 [(.v false (.rs 50 (.rs 52 (.pair (.int .i64) (.pair (.int .i64) (.int .i64))))))])), (4, (.b 44 [(.o (.rs 50 (.rs 52 (.pair (.int .i64) (.pair (.int .i64) (.int .i64))))))])), (6, (.b 44 [(.o (.rs 50 (.rs 52 (.pair (.int .i64) (.pair (.int .i64) (.int .i64))))))])), (7, (.c false (.v true (.int .i64)))), (8, (.c false (.v true (.int .i64)))), (9, (.c false (.r 52 (.pair (.int .i64) (.pair (.int .i64) (.int .i64)))))), (10, (.c false (.v true (.int .i64))))])]) :=
    some (Sum.inl (x31, (x32.fst, ()), (x33.fst, ()), (x34.fst, ()), x35, x36, x37, Go.IntKind.i64.wrap (x38 + (1 : Int)), ()))
def L59_2 (n : Nat) : Nat → List Int → List (List (Int × Int × Int)) × Unit → List (List (Int × Int × Int)) × Unit → List (List (Int × Int × Int)) × Unit → Int → Int → List (Int × Int × Int) → Int → Option (odens [((.exit 2), [(1, (.c false (.v false (.rs 3 (.int .i64))))), (2, (.b 44 [(.v false (.rs 50 (.rs 52 (.pair (.int .i64) (.pair (.int .i64) (.int .i64))))))])), (4, (.b 44 [(.o (.rs 50 (.rs 52 (.pair (.int .i64) (.pair (.int .i64) (.int .i64))))))])), (6, (.b 44 [(.o (.rs 50 (.rs 52 (.pair (.int .i64) (.pair (.int .i64) (.int .i64))))))])), (7, (.c false (.v true (.int .i64)))), (8, (.c false (.v true (.int .i64)))), (9, (.c false (.r 52 (.pair (.int .i64) (.pair (.int .i64) (.int .i64))))))])])
  | 0, _, _, _, _, _, _, _, _ => none
  | m + 1, x13, x14, x15, x16, x17, x18, x19, x20 =>
    if (0 : Int) ≤ x18 then
    if x18 < (↑(List.length x14.fst) : Int) then
    cond (Decidable.decide (x20 < (↑(List.length (List.getD x14.fst x18.toNat [])) : Int)))
    (if (0 : Int) ≤ x18 then
     if x18 < (↑(List.length x14.fst) : Int) then
     if (0 : Int) ≤ x20 then
     if x20 < (↑(List.length (List.getD x14.fst x18.toNat [])) : Int) then
     if (x19.length + [((List.getD (List.getD x14.fst x18.toNat []) x20.toNat ((0 : Int), (0 : Int), (0 : Int))).fst, (List.getD (List.getD x14.fst x18.toNat []) x20.toNat ((0 : Int), (0 : Int), (0 : Int))).snd.fst, (List.getD (List.getD x14.fst x18.toNat []) x20.toNat ((0 : Int), (0 : Int), (0 : Int))).snd.snd)].length) * (24 : Nat) ≤ (140737488355328 : Nat) then
     if (0 : Int) ≤ x18 then
     if x18 < (↑(List.length x14.fst) : Int) then
     cond (Decidable.decide (Go.IntKind.i64.wrap (x20 + (1 : Int)) < (↑(List.length (List.getD x14.fst x18.toNat [])) : Int)))
     ((F101 n (x13) (x17)).bind fun y21 =>
      cond (y21.fst)
      (if ((x19 ++ [((List.getD (List.getD x14.fst x18.toNat []) x20.toNat ((0 : Int), (0 : Int), (0 : Int))).fst, (List.getD (List.getD x14.fst x18.toNat []) x20.toNat ((0 : Int), (0 : Int), (0 : Int))).snd.fst, (List.getD (List.getD x14.fst x18.toNat []) x20.toNat ((0 : Int), (0 : Int), (0 : Int))).snd.snd)]).length + [((4 : Int), (0 : Int), (0 : Int))].length) * (24 : Nat) ≤ (140737488355328 : Nat) then
       match J59_16 n (x13) ((x14.fst, ())) ((x15.fst, ())) ((x16.fst, ())) (x17) (x18) (x19 ++ [((List.getD (List.getD x14.fst x18.toNat []) x20.toNat ((0 : Int), (0 : Int), (0 : Int))).fst, (List.getD (List.getD x14.fst x18.toNat []) x20.toNat ((0 : Int), (0 : Int), (0 : Int))).snd.fst, (List.getD (List.getD x14.fst x18.toNat []) x20.toNat ((0 : Int), (0 : Int), (0 : Int))).snd.snd)] ++ [((4 : Int), (0 : Int), (0 : Int))]) (x20) with
       | none => none
       | some (Sum.inl v30) =>
        match J59_11 n (v30.fst) ((v30.snd.fst.fst, ())) ((v30.snd.snd.fst.fst, ())) ((v30.snd.snd.snd.fst.fst, ())) (v30.snd.snd.snd.snd.fst) (v30.snd.snd.snd.snd.snd.fst) (v30.snd.snd.snd.snd.snd.snd.fst) (v30.snd.snd.snd.snd.snd.snd.snd.fst) with
        | none => none
        | some (Sum.inl v39) =>
         L59_2 n m (v39.fst) ((v39.snd.fst.fst, ())) ((v39.snd.snd.fst.fst, ())) ((v39.snd.snd.snd.fst.fst, ())) (v39.snd.snd.snd.snd.fst) (v39.snd.snd.snd.snd.snd.fst) (v39.snd.snd.snd.snd.snd.snd.fst) (v39.snd.snd.snd.snd.snd.snd.snd.fst)
       else none)
      (match J59_16 n (x13) ((x14.fst, ())) ((x15.fst, ())) ((x16.fst, ())) (x17) (x18) (x19 ++ [((List.getD (List.getD x14.fst x18.toNat []) x20.toNat ((0 : Int), (0 : Int), (0 : Int))).fst, (List.getD (List.getD x14.fst x18.toNat []) x20.toNat ((0 : Int), (0 : Int), (0 : Int))).snd.fst, (List.getD (List.getD x14.fst x18.toNat []) x20.toNat ((0 : Int), (0 : Int), (0 : Int))).snd.snd)]) (x20) with
       | none => none
       | some (Sum.inl v40) =>
        match J59_11 n (v40.fst) ((v40.snd.fst.fst, ())) ((v40.snd.snd.fst.fst, ())) ((v40.snd.snd.snd.fst.fst, ())) (v40.snd.snd.snd.snd.fst) (v40.snd.snd.snd.snd.snd.fst) (v40.snd.snd.snd.snd.snd.snd.fst) (v40.snd.snd.snd.snd.snd.snd.snd.fst) with
        | none => none
        | some (Sum.inl v41) =>
         L59_2 n m (v41.fst) ((v41.snd.fst.fst, ())) ((v41.snd.snd.fst.fst, ())) ((v41.snd.snd.snd.fst.fst, ())) (v41.snd.snd.snd.snd.fst) (v41.snd.snd.snd.snd.snd.fst) (v41.snd.snd.snd.snd.snd.snd.fst) (v41.snd.snd.snd.snd.snd.snd.snd.fst)))
     (match J59_11 n (x13) ((x14.fst, ())) ((x15.fst, ())) ((x16.fst, ())) (x17) (x18) (x19 ++ [((List.getD (List.getD x14.fst x18.toNat []) x20.toNat ((0 : Int), (0 : Int), (0 : Int))).fst, (List.getD (List.getD x14.fst x18.toNat []) x20.toNat ((0 : Int), (0 : Int), (0 : Int))).snd.fst, (List.getD (List.getD x14.fst x18.toNat []) x20.toNat ((0 : Int), (0 : Int), (0 : Int))).snd.snd)]) (x20) with
      | none => none
      | some (Sum.inl v42) =>
       L59_2 n m (v42.fst) ((v42.snd.fst.fst, ())) ((v42.snd.snd.fst.fst, ())) ((v42.snd.snd.snd.fst.fst, ())) (v42.snd.snd.snd.snd.fst) (v42.snd.snd.snd.snd.snd.fst) (v42.snd.snd.snd.snd.snd.snd.fst) (v42.snd.snd.snd.snd.snd.snd.snd.fst))
     else none
     else none
     else none
     else none
     else none
     else none
     else none)
    (some (Sum.inl (x13, (x14.fst, ()), (x15.fst, ()), (x16.fst, ()), x17, x18, x19, ())))
    else none
    else none
def L59_0 (n : Nat) : Nat → List Int → List (List (Int × Int × Int)) × Unit → List (List (Int × Int × Int)) × Unit → List (List (Int × Int × Int)) × Unit → Int → Int → Option (odens [((.exit 0), [(4, (.b 44 [(.o (.rs 50 (.rs 52 (.pair (.int .i64) (.pair (.int .i64) (.int .i64))))))])), (6, (.b 44 [(.o (.rs 50 (.rs 52 (.pair (.int .i64) (.pair (.int .i64) (.int .i64))))))]))])])
  | 0, _, _, _, _, _, _ => none
  | m + 1, x7, x8, x9, x10, x11, x12 =>
    cond (Decidable.decide (x12 < (↑(List.length x8.fst) : Int)))
    (match L59_2 n n (x7) ((x8.fst, ())) ((x9.fst, ())) ((x10.fst, ())) (x11) (x12) ([]) ((0 : Int)) with
     | none => none
     | some (Sum.inl v43) =>
      if (List.length v43.snd.snd.snd.fst.fst + [v43.snd.snd.snd.snd.snd.snd.fst].length) * (24 : Nat) ≤ (140737488355328 : Nat) then
      L59_0 n m (v43.fst) ((v43.snd.fst.fst, ())) ((v43.snd.snd.fst.fst, ())) ((v43.snd.snd.snd.fst.fst ++ [v43.snd.snd.snd.snd.snd.snd.fst], ())) (v43.snd.snd.snd.snd.fst) (Go.IntKind.i64.wrap (v43.snd.snd.snd.snd.snd.fst + (1 : Int)))
      else none)
    (some (Sum.inl ((x9.fst, ()), (x10.fst, ()), ())))
def J59_3 (n : Nat) (x4 : List Int) (x5 : List (List (Int × Int × Int)) × Unit) (x6 : List (List (Int × Int × Int)) × Unit) : Option (odens [(.ret, [(4, (.b 44 [(.o (.rs 50 (.rs 52 (.pair (.int .i64) (.pair (.int .i64) (.int .i64))))))])), (5, (.c false (.v true .bool)))])]) :=
    match L59_0 n n (x4) ((x5.fst, ())) ((x6.fst, ())) (([], ())) ((0 : Int)) ((0 : Int)) with
    | none => none
    | some (Sum.inl v44) =>
     (F35 n (v44.snd.fst.fst)).bind fun y45 =>
     cond (!y45.fst)
     (some (Sum.inl (([], ()), Bool.false, ())))
     (some (Sum.inl ((v44.snd.fst.fst, ()), Bool.true, ())))
def F59 (n : Nat) (a0 : List (List (Int × Int × Int))) (a1 : List Int) : Option (rdens [.c true (.v false (.rs 50 (.rs 52 (.pair (.int .i64) (.pair (.int .i64) (.int .i64)))))), .c false (.v false (.rs 3 (.int .i64)))] [.c true (.o (.rs 50 (.rs 52 (.pair (.int .i64) (.pair (.int .i64) (.int .i64)))))), .c false (.v true .bool)]) :=
  (F35 n (a0)).bind fun y1 =>
  cond (!y1.fst)
  (some ([], Bool.false, ()))
  ((F40 n (a0)).bind fun y2 =>
   (F100 n (a1) (y2.fst)).bind fun y3 =>
   cond (!y3.fst)
   (some ([], Bool.false, ()))
   (match J59_3 n (a1) ((a0, ())) (([], ())) with
    | none => none
    | some (Sum.inl v46) =>
     some (v46.fst.fst, v46.snd.fst, ())))
noncomputable def con59 (n : Nat) : Con := conOf [.c true (.v false (.rs 50 (.rs 52 (.pair (.int .i64) (.pair (.int .i64) (.int .i64)))))), .c false (.v false (.rs 3 (.int .i64)))] [.c true (.o (.rs 50 (.rs 52 (.pair (.int .i64) (.pair (.int .i64) (.int .i64)))))), .c false (.v true .bool)] fun x => F59 n x.1 x.2.1
noncomputable def tb59 (n : Nat) : Tb := ⟨tiOf Try.prog, conL [(35, con35 n), (40, con40 n), (100, con100 n), (101, con101 n)], n, [], 81, lpL [(2, ⟨[(1, (.c false (.v false (.rs 3 (.int .i64))))), (2, (.b 44 [(.v false (.rs 50 (.rs 52 (.pair (.int .i64) (.pair (.int .i64) (.int .i64))))))])), (4, (.b 44 [(.o (.rs 50 (.rs 52 (.pair (.int .i64) (.pair (.int .i64) (.int .i64))))))])), (6, (.b 44 [(.o (.rs 50 (.rs 52 (.pair (.int .i64) (.pair (.int .i64) (.int .i64))))))])), (7, (.c false (.v true (.int .i64)))), (8, (.c false (.v true (.int .i64)))), (9, (.c false (.r 52 (.pair (.int .i64) (.pair (.int .i64) (.int .i64)))))), (10, (.c false (.v true (.int .i64))))], [((.exit 2), [(1, (.c false (.v false (.rs 3 (.int .i64))))), (2, (.b 44 [(.v false (.rs 50 (.rs 52 (.pair (.int .i64) (.pair (.int .i64) (.int .i64))))))])), (4, (.b 44 [(.o (.rs 50 (.rs 52 (.pair (.int .i64) (.pair (.int .i64) (.int .i64))))))])), (6, (.b 44 [(.o (.rs 50 (.rs 52 (.pair (.int .i64) (.pair (.int .i64) (.int .i64))))))])), (7, (.c false (.v true (.int .i64)))), (8, (.c false (.v true (.int .i64)))), (9, (.c false (.r 52 (.pair (.int .i64) (.pair (.int .i64) (.int .i64))))))])], fun m v => L59_2 n m v.1 v.2.1 v.2.2.1 v.2.2.2.1 v.2.2.2.2.1 v.2.2.2.2.2.1 v.2.2.2.2.2.2.1 v.2.2.2.2.2.2.2.1⟩), (0, ⟨[(1, (.c false (.v false (.rs 3 (.int .i64))))), (2, (.b 44 [(.v false (.rs 50 (.rs 52 (.pair (.int .i64) (.pair (.int .i64) (.int .i64))))))])), (4, (.b 44 [(.o (.rs 50 (.rs 52 (.pair (.int .i64) (.pair (.int .i64) (.int .i64))))))])), (6, (.b 44 [(.o (.rs 50 (.rs 52 (.pair (.int .i64) (.pair (.int .i64) (.int .i64))))))])), (7, (.c false (.v true (.int .i64)))), (8, (.c false (.v true (.int .i64))))], [((.exit 0), [(4, (.b 44 [(.o (.rs 50 (.rs 52 (.pair (.int .i64) (.pair (.int .i64) (.int .i64))))))])), (6, (.b 44 [(.o (.rs 50 (.rs 52 (.pair (.int .i64) (.pair (.int .i64) (.int .i64))))))]))])], fun m v => L59_0 n m v.1 v.2.1 v.2.2.1 v.2.2.2.1 v.2.2.2.2.1 v.2.2.2.2.2.1⟩)], ctL [(16, ⟨[(1, (.c false (.v false (.rs 3 (.int .i64))))), (2, (.b 44 [(.v false (.rs 50 (.rs 52 (.pair (.int .i64) (.pair (.int .i64) (.int .i64))))))])), (4, (.b 44 [(.o (.rs 50 (.rs 52 (.pair (.int .i64) (.pair (.int .i64) (.int .i64))))))])), (6, (.b 44 [(.o (.rs 50 (.rs 52 (.pair (.int .i64) (.pair (.int .i64) (.int .i64))))))])), (7, (.c false (.v true (.int .i64)))), (8, (.c false (.v true (.int .i64)))), (9, (.c false (.r 52 (.pair (.int .i64) (.pair (.int .i64) (.int .i64)))))), (10, (.c false (.v true (.int .i64))))], [(.normal, [(1, (.c false (.v false (.rs 3 (.int .i64))))), (2, (.b 44 [(.v false (.rs 50 (.rs 52 (.pair (.int .i64) (.pair (.int .i64) (.int .i64))))))])), (4, (.b 44 [(.o (.rs 50 (.rs 52 (.pair (.int .i64) (.pair (.int .i64) (.int .i64))))))])), (6, (.b 44 [(.o (.rs 50 (.rs 52 (.pair (.int .i64) (.pair (.int .i64) (.int .i64))))))])), (7, (.c false (.v true (.int .i64)))), (8, (.c false (.v true (.int .i64)))), (9, (.c false (.r 52 (.pair (.int .i64) (.pair (.int .i64) (.int .i64)))))), (10, (.c false (.v true (.int .i64))))])], fun v => J59_16 n v.1 v.2.1 v.2.2.1 v.2.2.2.1 v.2.2.2.2.1 v.2.2.2.2.2.1 v.2.2.2.2.2.2.1 v.2.2.2.2.2.2.2.1⟩), (11, ⟨[(1, (.c false (.v false (.rs 3 (.int .i64))))), (2, (.b 44 [(.v false (.rs 50 (.rs 52 (.pair (.int .i64) (.pair (.int .i64) (.int .i64))))))])), (4, (.b 44 [(.o (.rs 50 (.rs 52 (.pair (.int .i64) (.pair (.int .i64) (.int .i64))))))])), (6, (.b 44 [(.o (.rs 50 (.rs 52 (.pair (.int .i64) (.pair (.int .i64) (.int .i64))))))])), (7, (.c false (.v true (.int .i64)))), (8, (.c false (.v true (.int .i64)))), (9, (.c false (.r 52 (.pair (.int .i64) (.pair (.int .i64) (.int .i64)))))), (10, (.c false (.v true (.int .i64))))], [(.normal, [(1, (.c false (.v false (.rs 3 (.int .i64))))), (2, (.b 44 [(.v false (.rs 50 (.rs 52 (.pair (.int .i64) (.pair (.int .i64) (.int .i64))))))])), (4, (.b 44 [(.o (.rs 50 (.rs 52 (.pair (.int .i64) (.pair (.int .i64) (.int .i64))))))])), (6, (.b 44 [(.o (.rs 50 (.rs 52 (.pair (.int .i64) (.pair (.int .i64) (.int .i64))))))])), (7, (.c false (.v true (.int .i64)))), (8, (.c false (.v true (.int .i64)))), (9, (.c false (.r 52 (.pair (.int .i64) (.pair (.int .i64) (.int .i64)))))), (10, (.c false (.v true (.int .i64))))])], fun v => J59_11 n v.1 v.2.1 v.2.2.1 v.2.2.2.1 v.2.2.2.2.1 v.2.2.2.2.2.1 v.2.2.2.2.2.2.1 v.2.2.2.2.2.2.2.1⟩), (3, ⟨[(1, (.c false (.v false (.rs 3 (.int .i64))))), (2, (.b 44 [(.v false (.rs 50 (.rs 52 (.pair (.int .i64) (.pair (.int .i64) (.int .i64))))))])), (4, (.b 44 [(.o (.rs 50 (.rs 52 (.pair (.int .i64) (.pair (.int .i64) (.int .i64))))))]))], [(.ret, [(4, (.b 44 [(.o (.rs 50 (.rs 52 (.pair (.int .i64) (.pair (.int .i64) (.int .i64))))))])), (5, (.c false (.v true .bool)))])], fun v => J59_3 n v.1 v.2.1 v.2.2.1⟩)], [], true⟩
noncomputable def code59 : Code := Try.f59.body.getD .skip
theorem tb59_ok (n : Nat) : (tb59 n).ok Try.prog := tbOk mixed (⟨con35_ok n, ⟨con40_ok n, ⟨con100_ok n, ⟨con101_ok n, trivial⟩⟩⟩⟩)
theorem lp59_2 (n : Nat) : LpAt (tb59 n) (loopBody code59 2) 2 := lpAt rfl (fun _ => by kernel_rfl) (fun _ _ => by kernel_rfl)
theorem lp59_0 (n : Nat) : LpAt (tb59 n) (loopBody code59 0) 0 := lpAt rfl (fun _ => by kernel_rfl) (fun _ _ => by kernel_rfl)
theorem blocks59 : blocks code59 = [(0, .loop (loopBody code59 0)), (1, blockBody code59 1), (2, .loop (loopBody code59 2)), (3, blockBody code59 3)] := by kernel_rfl
theorem ct59_3 (n : Nat) : CtOk (tb59 n) (sec code59 1).2 ⟨[(1, (.c false (.v false (.rs 3 (.int .i64))))), (2, (.b 44 [(.v false (.rs 50 (.rs 52 (.pair (.int .i64) (.pair (.int .i64) (.int .i64))))))])), (4, (.b 44 [(.o (.rs 50 (.rs 52 (.pair (.int .i64) (.pair (.int .i64) (.int .i64))))))]))], [(.ret, [(4, (.b 44 [(.o (.rs 50 (.rs 52 (.pair (.int .i64) (.pair (.int .i64) (.int .i64))))))])), (5, (.c false (.v true .bool)))])], fun v => J59_3 n v.1 v.2.1 v.2.2.1⟩ := fun _ => by kernel_rfl
theorem ct59_11 (n : Nat) : CtOk (tb59 n) (sec code59 16).2 ⟨[(1, (.c false (.v false (.rs 3 (.int .i64))))), (2, (.b 44 [(.v false (.rs 50 (.rs 52 (.pair (.int .i64) (.pair (.int .i64) (.int .i64))))))])), (4, (.b 44 [(.o (.rs 50 (.rs 52 (.pair (.int .i64) (.pair (.int .i64) (.int .i64))))))])), (6, (.b 44 [(.o (.rs 50 (.rs 52 (.pair (.int .i64) (.pair (.int .i64) (.int .i64))))))])), (7, (.c false (.v true (.int .i64)))), (8, (.c false (.v true (.int .i64)))), (9, (.c false (.r 52 (.pair (.int .i64) (.pair (.int .i64) (.int .i64)))))), (10, (.c false (.v true (.int .i64))))], [(.normal, [(1, (.c false (.v false (.rs 3 (.int .i64))))), (2, (.b 44 [(.v false (.rs 50 (.rs 52 (.pair (.int .i64) (.pair (.int .i64) (.int .i64))))))])), (4, (.b 44 [(.o (.rs 50 (.rs 52 (.pair (.int .i64) (.pair (.int .i64) (.int .i64))))))])), (6, (.b 44 [(.o (.rs 50 (.rs 52 (.pair (.int .i64) (.pair (.int .i64) (.int .i64))))))])), (7, (.c false (.v true (.int .i64)))), (8, (.c false (.v true (.int .i64)))), (9, (.c false (.r 52 (.pair (.int .i64) (.pair (.int .i64) (.int .i64)))))), (10, (.c false (.v true (.int .i64))))])], fun v => J59_11 n v.1 v.2.1 v.2.2.1 v.2.2.2.1 v.2.2.2.2.1 v.2.2.2.2.2.1 v.2.2.2.2.2.2.1 v.2.2.2.2.2.2.2.1⟩ := fun _ => by kernel_rfl
theorem ct59_16 (n : Nat) : CtOk (tb59 n) (sec code59 19).2 ⟨[(1, (.c false (.v false (.rs 3 (.int .i64))))), (2, (.b 44 [(.v false (.rs 50 (.rs 52 (.pair (.int .i64) (.pair (.int .i64) (.int .i64))))))])), (4, (.b 44 [(.o (.rs 50 (.rs 52 (.pair (.int .i64) (.pair (.int .i64) (.int .i64))))))])), (6, (.b 44 [(.o (.rs 50 (.rs 52 (.pair (.int .i64) (.pair (.int .i64) (.int .i64))))))])), (7, (.c false (.v true (.int .i64)))), (8, (.c false (.v true (.int .i64)))), (9, (.c false (.r 52 (.pair (.int .i64) (.pair (.int .i64) (.int .i64)))))), (10, (.c false (.v true (.int .i64))))], [(.normal, [(1, (.c false (.v false (.rs 3 (.int .i64))))), (2, (.b 44 [(.v false (.rs 50 (.rs 52 (.pair (.int .i64) (.pair (.int .i64) (.int .i64))))))])), (4, (.b 44 [(.o (.rs 50 (.rs 52 (.pair (.int .i64) (.pair (.int .i64) (.int .i64))))))])), (6, (.b 44 [(.o (.rs 50 (.rs 52 (.pair (.int .i64) (.pair (.int .i64) (.int .i64))))))])), (7, (.c false (.v true (.int .i64)))), (8, (.c false (.v true (.int .i64)))), (9, (.c false (.r 52 (.pair (.int .i64) (.pair (.int .i64) (.int .i64)))))), (10, (.c false (.v true (.int .i64))))])], fun v => J59_16 n v.1 v.2.1 v.2.2.1 v.2.2.2.1 v.2.2.2.2.1 v.2.2.2.2.2.1 v.2.2.2.2.2.2.1 v.2.2.2.2.2.2.2.1⟩ := fun _ => by kernel_rfl
theorem secs59 : seconds code59 = [(some 1, (sec code59 0).2), (some 3, (sec code59 1).2), (none, (sec code59 2).2), (none, (sec code59 3).2), (some 4, (sec code59 4).2), (some 5, (sec code59 5).2), (some 18, (sec code59 6).2), (some 6, (sec code59 7).2), (some 8, (sec code59 8).2), (none, (sec code59 9).2), (some 7, (sec code59 10).2), (some 9, (sec code59 11).2), (some 17, (sec code59 12).2), (some 10, (sec code59 13).2), (some 12, (sec code59 14).2), (none, (sec code59 15).2), (some 11, (sec code59 16).2), (some 13, (sec code59 17).2), (none, (sec code59 18).2), (some 16, (sec code59 19).2), (none, (sec code59 20).2), (some 20, (sec code59 21).2), (none, (sec code59 22).2), (none, (sec code59 23).2), (none, (sec code59 24).2)] := by kernel_rfl
theorem la59 (n : Nat) : LpAll (tb59 n) code59 := lpAll blocks59 (bl_loop (lp59_0 n) (bl_none rfl (bl_loop (lp59_2 n) (bl_none rfl (bl_nil))))) secs59 (cs_none rfl (cs_one rfl (ct59_3 n) (cs_none rfl (cs_none rfl (cs_none rfl (cs_none rfl (cs_none rfl (cs_none rfl (cs_none rfl (cs_none rfl (cs_none rfl (cs_none rfl (cs_none rfl (cs_none rfl (cs_none rfl (cs_none rfl (cs_one rfl (ct59_11 n) (cs_none rfl (cs_none rfl (cs_one rfl (ct59_16 n) (cs_none rfl (cs_none rfl (cs_none rfl (cs_none rfl (cs_none rfl (cs_nil)))))))))))))))))))))))))) (by kernel_rfl)
theorem ev59 (n : Nat) (x : pdens [.c true (.v false (.rs 50 (.rs 52 (.pair (.int .i64) (.pair (.int .i64) (.int .i64)))))), .c false (.v false (.rs 3 (.int .i64)))]) : evSig (tb59 n) Try.f59 [.c true (.v false (.rs 50 (.rs 52 (.pair (.int .i64) (.pair (.int .i64) (.int .i64)))))), .c false (.v false (.rs 3 (.int .i64)))] [.c true (.o (.rs 50 (.rs 52 (.pair (.int .i64) (.pair (.int .i64) (.int .i64)))))), .c false (.v true .bool)] x = F59 n x.1 x.2.1 := by kernel_rfl
theorem con59_ok (n : Nat) : Con.ok Try.prog 59 (con59 n) := conOf_ok (tb59_ok n) (body_la (by kernel_rfl : Try.f59.body = some code59) (la59 n)) Try.func59 (enters Try.func59 (by kernel_rfl) (by kernel_rfl)) rfl rfl (ev59 n)
/-! ### slices.Index[[]int,int] -/
def L132_0 (n : Nat) : Nat → List Int → Int → Int → Int → Option (odens [(.ret, [(4, (.c false (.v true (.int .i64))))]), ((.exit 0), [])])
  | 0, _, _, _, _ => none
  | m + 1, x1, x2, x3, x4 =>
    cond (Decidable.decide (x4 < x3))
    (if (0 : Int) ≤ x4 then
     if x4 < (↑x1.length : Int) then
     cond (x2 == x1.getD x4.toNat (0 : Int))
     (some (Sum.inl (x4, ())))
     (L132_0 n m (x1) (x2) (x3) (Go.IntKind.i64.wrap (x4 + (1 : Int))))
     else none
     else none)
    (some (Sum.inr (Sum.inl (()))))
def F132 (n : Nat) (a0 : List Int) (a1 : Int) : Option (rdens [.c false (.v false (.rs 3 (.int .i64))), .c false (.v true (.int .i64))] [.c false (.v true (.int .i64))]) :=
  match L132_0 n n (a0) (a1) ((↑a0.length : Int)) ((0 : Int)) with
  | none => none
  | some (Sum.inl v5) =>
   some (v5.fst, ())
  | some (Sum.inr (Sum.inl v6)) =>
   some ((-1 : Int), ())
noncomputable def con132 (n : Nat) : Con := conOf [.c false (.v false (.rs 3 (.int .i64))), .c false (.v true (.int .i64))] [.c false (.v true (.int .i64))] fun x => F132 n x.1 x.2.1
noncomputable def tb132 (n : Nat) : Tb := ⟨tiOf Try.prog, conL [], n, [], 19, lpL [(0, ⟨[(0, (.c false (.v false (.rs 3 (.int .i64))))), (1, (.c false (.v true (.int .i64)))), (7, (.c false (.v true (.int .i64)))), (8, (.c false (.v true (.int .i64))))], [(.ret, [(4, (.c false (.v true (.int .i64))))]), ((.exit 0), [])], fun m v => L132_0 n m v.1 v.2.1 v.2.2.1 v.2.2.2.1⟩)], ctL [], [], true⟩
noncomputable def code132 : Code := Try.f132.body.getD .skip
theorem tb132_ok (n : Nat) : (tb132 n).ok Try.prog := tbOk mixed (trivial)
theorem lp132_0 (n : Nat) : LpAt (tb132 n) (loopBody code132 0) 0 := lpAt rfl (fun _ => by kernel_rfl) (fun _ _ => by kernel_rfl)
theorem blocks132 : blocks code132 = [(0, .loop (loopBody code132 0)), (1, blockBody code132 1)] := by kernel_rfl
theorem la132 (n : Nat) : LpAll (tb132 n) code132 := lpAll blocks132 (bl_loop (lp132_0 n) (bl_none rfl (bl_nil))) rfl (cs_no fun _ => rfl) (by kernel_rfl)
theorem ev132 (n : Nat) (x : pdens [.c false (.v false (.rs 3 (.int .i64))), .c false (.v true (.int .i64))]) : evSig (tb132 n) Try.f132 [.c false (.v false (.rs 3 (.int .i64))), .c false (.v true (.int .i64))] [.c false (.v true (.int .i64))] x = F132 n x.1 x.2.1 := by kernel_rfl
theorem con132_ok (n : Nat) : Con.ok Try.prog 132 (con132 n) := conOf_ok (tb132_ok n) (body_la (by kernel_rfl : Try.f132.body = some code132) (la132 n)) Try.func132 (enters Try.func132 (by kernel_rfl) (by kernel_rfl)) rfl rfl (ev132 n)
/-! ### slices.Contains[[]int,int] -/
def F103 (n : Nat) (a0 : List Int) (a1 : Int) : Option (rdens [.c false (.v false (.rs 3 (.int .i64))), .c false (.v true (.int .i64))] [.c false (.v true .bool)]) :=
  (F132 n (a0) (a1)).bind fun y1 =>
  some (Decidable.decide (y1.fst ≥ (0 : Int)), ())
noncomputable def con103 (n : Nat) : Con := conOf [.c false (.v false (.rs 3 (.int .i64))), .c false (.v true (.int .i64))] [.c false (.v true .bool)] fun x => F103 n x.1 x.2.1
noncomputable def tb103 (n : Nat) : Tb := ⟨tiOf Try.prog, conL [(132, con132 n)], n, [], 9, lpL [], ctL [], [], true⟩
noncomputable def code103 : Code := Try.f103.body.getD .skip
theorem tb103_ok (n : Nat) : (tb103 n).ok Try.prog := tbOk mixed (⟨con132_ok n, trivial⟩)
theorem blocks103 : blocks code103 = [] := by kernel_rfl
theorem la103 (n : Nat) : LpAll (tb103 n) code103 := lpAll blocks103 (bl_nil) rfl (cs_no fun _ => rfl) (by kernel_rfl)
theorem ev103 (n : Nat) (x : pdens [.c false (.v false (.rs 3 (.int .i64))), .c false (.v true (.int .i64))]) : evSig (tb103 n) Try.f103 [.c false (.v false (.rs 3 (.int .i64))), .c false (.v true (.int .i64))] [.c false (.v true .bool)] x = F103 n x.1 x.2.1 := by kernel_rfl
theorem con103_ok (n : Nat) : Con.ok Try.prog 103 (con103 n) := conOf_ok (tb103_ok n) (body_la (by kernel_rfl : Try.f103.body = some code103) (la103 n)) Try.func103 (enters Try.func103 (by kernel_rfl) (by kernel_rfl)) rfl rfl (ev103 n)
/-! ### loop.example/fathomline/impl.WallPut -/
def J60_7 (n : Nat) (x10 : List Int) (x11 : List (List (Int × Int × Int)) × Unit) (x12 : List (List (Int × Int × Int)) × Unit) (x13 : Int) (x14 : List Int) (x15 : Int) (x16 : Int) : Option (odens [(.normal, [(1, (.c false (.v false (.rs 3 (.int .i64))))), (2, (.b 44 [(.v false (.rs 50 (.rs 52 (.pair (.int .i64) (.pair (.int .i64) (.int .i64))))))])), (4, (.b 44 [(.o (.rs 50 (.rs 52 (.pair (.int .i64) (.pair (.int .i64) (.int .i64))))))])), (6, (.c false (.v true (.int .i64)))), (18, (.c false (.v false (.rs 3 (.int .i64))))), (19, (.c false (.v true (.int .i64)))), (20, (.c false (.v true (.int .i64))))])]) :=
    some (Sum.inl (x10, (x11.fst, ()), (x12.fst, ()), x13, x14, x15, Go.IntKind.i64.wrap (x16 + (1 : Int)), ()))
def L60_0 (n : Nat) : Nat → List Int → List (List (Int × Int × Int)) × Unit → List (List (Int × Int × Int)) × Unit → Int → List Int → Int → Int → Option (odens [(.ret, [(4, (.b 44 [(.o (.rs 50 (.rs 52 (.pair (.int .i64) (.pair (.int .i64) (.int .i64))))))])), (5, (.c false (.v true .bool)))]), ((.exit 0), [(1, (.c false (.v false (.rs 3 (.int .i64))))), (2, (.b 44 [(.v false (.rs 50 (.rs 52 (.pair (.int .i64) (.pair (.int .i64) (.int .i64))))))])), (4, (.b 44 [(.o (.rs 50 (.rs 52 (.pair (.int .i64) (.pair (.int .i64) (.int .i64))))))])), (6, (.c false (.v true (.int .i64))))])])
  | 0, _, _, _, _, _, _, _ => none
  | m + 1, x2, x3, x4, x5, x6, x7, x8 =>
    cond (Decidable.decide (x8 < x7))
    (if (0 : Int) ≤ x8 then
     if x8 < (↑x6.length : Int) then
     (F102 n (x6.getD x8.toNat (0 : Int)) ((0 : Int)) (Go.IntKind.i64.wrap (x5 - (1 : Int)))).bind fun y9 =>
     cond (!y9.fst)
     (some (Sum.inl (([], ()), Bool.false, ())))
     (cond (Decidable.decide (x8 > (0 : Int)))
      (if (0 : Int) ≤ Go.IntKind.i64.wrap (x8 - (1 : Int)) then
       if Go.IntKind.i64.wrap (x8 - (1 : Int)) < (↑x2.length : Int) then
       cond (Decidable.decide (x6.getD x8.toNat (0 : Int) ≤ x2.getD (Go.IntKind.i64.wrap (x8 - (1 : Int))).toNat (0 : Int)))
       (some (Sum.inl (([], ()), Bool.false, ())))
       (match J60_7 n (x2) ((x3.fst, ())) ((x4.fst, ())) (x5) (x6) (x7) (x8) with
        | none => none
        | some (Sum.inl v17) =>
         L60_0 n m (v17.fst) ((v17.snd.fst.fst, ())) ((v17.snd.snd.fst.fst, ())) (v17.snd.snd.snd.fst) (v17.snd.snd.snd.snd.fst) (v17.snd.snd.snd.snd.snd.fst) (v17.snd.snd.snd.snd.snd.snd.fst))
       else none
       else none)
      (match J60_7 n (x2) ((x3.fst, ())) ((x4.fst, ())) (x5) (x6) (x7) (x8) with
       | none => none
       | some (Sum.inl v18) =>
        L60_0 n m (v18.fst) ((v18.snd.fst.fst, ())) ((v18.snd.snd.fst.fst, ())) (v18.snd.snd.snd.fst) (v18.snd.snd.snd.snd.fst) (v18.snd.snd.snd.snd.snd.fst) (v18.snd.snd.snd.snd.snd.snd.fst)))
     else none
     else none)
    (some (Sum.inr (Sum.inl (x2, (x3.fst, ()), (x4.fst, ()), x5, ()))))
def J60_22 (n : Nat) (x40 : List Int) (x41 : List (List (Int × Int × Int)) × Unit) (x42 : List (List (Int × Int × Int)) × Unit) (x43 : Int) (x44 : List (Int × Int × Int)) (x45 : (Int × Int × Int) × Unit) (x46 : List (List (Int × Int × Int))) (x47 : Int) (x48 : Int) (x49 : List (Int × Int × Int)) (x50 : Int) (x51 : Int) : Option (odens [(.normal, [(1, (.c false (.v false (.rs 3 (.int .i64))))), (4, (.b 44 [(.o (.rs 50 (.rs 52 (.pair (.int .i64) (.pair (.int .i64) (.int .i64))))))])), (9, (.b 44 [(.o (.rs 50 (.rs 52 (.pair (.int .i64) (.pair (.int .i64) (.int .i64))))))])), (10, (.c false (.v true (.int .i64)))), (13, (.c false (.r 52 (.pair (.int .i64) (.pair (.int .i64) (.int .i64)))))), (15, (.b 52 [(.v true (.pair (.int .i64) (.pair (.int .i64) (.int .i64))))])), (49, (.c false (.v false (.rs 50 (.rs 52 (.pair (.int .i64) (.pair (.int .i64) (.int .i64)))))))), (50, (.c false (.v true (.int .i64)))), (51, (.c false (.v true (.int .i64)))), (55, (.c false (.v false (.rs 52 (.pair (.int .i64) (.pair (.int .i64) (.int .i64))))))), (56, (.c false (.v true (.int .i64)))), (57, (.c false (.v true (.int .i64))))])]) :=
    some (Sum.inl (x40, (x41.fst, ()), (x42.fst, ()), Go.IntKind.i64.wrap (x43 + (1 : Int)), x44, ((x45.fst.fst, x45.fst.snd.fst, x45.fst.snd.snd), ()), x46, x47, x48, x49, x50, x51, ()))
def J60_23 (n : Nat) (x53 : List Int) (x54 : List (List (Int × Int × Int)) × Unit) (x55 : List (List (Int × Int × Int)) × Unit) (x56 : Int) (x57 : List (Int × Int × Int)) (x58 : (Int × Int × Int) × Unit) (x59 : List (List (Int × Int × Int))) (x60 : Int) (x61 : Int) (x62 : List (Int × Int × Int)) (x63 : Int) (x64 : Int) : Option (odens [(.normal, [(1, (.c false (.v false (.rs 3 (.int .i64))))), (4, (.b 44 [(.o (.rs 50 (.rs 52 (.pair (.int .i64) (.pair (.int .i64) (.int .i64))))))])), (9, (.b 44 [(.o (.rs 50 (.rs 52 (.pair (.int .i64) (.pair (.int .i64) (.int .i64))))))])), (10, (.c false (.v true (.int .i64)))), (13, (.c false (.r 52 (.pair (.int .i64) (.pair (.int .i64) (.int .i64)))))), (49, (.c false (.v false (.rs 50 (.rs 52 (.pair (.int .i64) (.pair (.int .i64) (.int .i64)))))))), (50, (.c false (.v true (.int .i64)))), (51, (.c false (.v true (.int .i64)))), (55, (.c false (.v false (.rs 52 (.pair (.int .i64) (.pair (.int .i64) (.int .i64))))))), (56, (.c false (.v true (.int .i64)))), (57, (.c false (.v true (.int .i64))))])]) :=
    if (x57.length + [(x58.fst.fst, x58.fst.snd.fst, x58.fst.snd.snd)].length) * (24 : Nat) ≤ (140737488355328 : Nat) then
    some (Sum.inl (x53, (x54.fst, ()), (x55.fst, ()), x56, x57 ++ [(x58.fst.fst, x58.fst.snd.fst, x58.fst.snd.snd)], x59, x60, x61, x62, x63, x64, ()))
    else none
def J60_24 (n : Nat) (x66 : List Int) (x67 : List (List (Int × Int × Int)) × Unit) (x68 : List (List (Int × Int × Int)) × Unit) (x69 : Int) (x70 : List (Int × Int × Int)) (x71 : List (List (Int × Int × Int))) (x72 : Int) (x73 : Int) (x74 : List (Int × Int × Int)) (x75 : Int) (x76 : Int) : Option (odens [(.normal, [(1, (.c false (.v false (.rs 3 (.int .i64))))), (4, (.b 44 [(.o (.rs 50 (.rs 52 (.pair (.int .i64) (.pair (.int .i64) (.int .i64))))))])), (9, (.b 44 [(.o (.rs 50 (.rs 52 (.pair (.int .i64) (.pair (.int .i64) (.int .i64))))))])), (10, (.c false (.v true (.int .i64)))), (13, (.c false (.r 52 (.pair (.int .i64) (.pair (.int .i64) (.int .i64)))))), (49, (.c false (.v false (.rs 50 (.rs 52 (.pair (.int .i64) (.pair (.int .i64) (.int .i64)))))))), (50, (.c false (.v true (.int .i64)))), (51, (.c false (.v true (.int .i64)))), (55, (.c false (.v false (.rs 52 (.pair (.int .i64) (.pair (.int .i64) (.int .i64))))))), (56, (.c false (.v true (.int .i64)))), (57, (.c false (.v true (.int .i64))))])]) :=
    some (Sum.inl (x66, (x67.fst, ()), (x68.fst, ()), x69, x70, x71, x72, x73, x74, x75, Go.IntKind.i64.wrap (x76 + (1 : Int)), ()))
def L60_4 (n : Nat) : Nat → List Int → List (List (Int × Int × Int)) × Unit → List (List (Int × Int × Int)) × Unit → Int → List (Int × Int × Int) → List (List (Int × Int × Int)) → Int → Int → List (Int × Int × Int) → Int → Int → Option (odens [((.exit 4), [(1, (.c false (.v false (.rs 3 (.int .i64))))), (4, (.b 44 [(.o (.rs 50 (.rs 52 (.pair (.int .i64) (.pair (.int .i64) (.int .i64))))))])), (9, (.b 44 [(.o (.rs 50 (.rs 52 (.pair (.int .i64) (.pair (.int .i64) (.int .i64))))))])), (10, (.c false (.v true (.int .i64)))), (13, (.c false (.r 52 (.pair (.int .i64) (.pair (.int .i64) (.int .i64)))))), (49, (.c false (.v false (.rs 50 (.rs 52 (.pair (.int .i64) (.pair (.int .i64) (.int .i64)))))))), (50, (.c false (.v true (.int .i64)))), (51, (.c false (.v true (.int .i64))))])])
  | 0, _, _, _, _, _, _, _, _, _, _, _ => none
  | m + 1, x28, x29, x30, x31, x32, x33, x34, x35, x36, x37, x38 =>
    cond (Decidable.decide (x38 < x37))
    (if (0 : Int) ≤ x38 then
     if x38 < (↑x36.length : Int) then
     cond (Decidable.decide (x38 > (0 : Int)))
     ((F103 n (x28) (x31)).bind fun y39 =>
      cond (y39.fst)
      (if (x32.length + [((4 : Int), (0 : Int), (0 : Int))].length) * (24 : Nat) ≤ (140737488355328 : Nat) then
       match J60_22 n (x28) ((x29.fst, ())) ((x30.fst, ())) (x31) (x32 ++ [((4 : Int), (0 : Int), (0 : Int))]) ((((x36.getD x38.toNat ((0 : Int), (0 : Int), (0 : Int))).fst, (x36.getD x38.toNat ((0 : Int), (0 : Int), (0 : Int))).snd.fst, (x36.getD x38.toNat ((0 : Int), (0 : Int), (0 : Int))).snd.snd), ())) (x33) (x34) (x35) (x36) (x37) (x38) with
       | none => none
       | some (Sum.inl v52) =>
        match J60_23 n (v52.fst) ((v52.snd.fst.fst, ())) ((v52.snd.snd.fst.fst, ())) (v52.snd.snd.snd.fst) (v52.snd.snd.snd.snd.fst) (((v52.snd.snd.snd.snd.snd.fst.fst.fst, v52.snd.snd.snd.snd.snd.fst.fst.snd.fst, v52.snd.snd.snd.snd.snd.fst.fst.snd.snd), ())) (v52.snd.snd.snd.snd.snd.snd.fst) (v52.snd.snd.snd.snd.snd.snd.snd.fst) (v52.snd.snd.snd.snd.snd.snd.snd.snd.fst) (v52.snd.snd.snd.snd.snd.snd.snd.snd.snd.fst) (v52.snd.snd.snd.snd.snd.snd.snd.snd.snd.snd.fst) (v52.snd.snd.snd.snd.snd.snd.snd.snd.snd.snd.snd.fst) with
        | none => none
        | some (Sum.inl v65) =>
         match J60_24 n (v65.fst) ((v65.snd.fst.fst, ())) ((v65.snd.snd.fst.fst, ())) (v65.snd.snd.snd.fst) (v65.snd.snd.snd.snd.fst) (v65.snd.snd.snd.snd.snd.fst) (v65.snd.snd.snd.snd.snd.snd.fst) (v65.snd.snd.snd.snd.snd.snd.snd.fst) (v65.snd.snd.snd.snd.snd.snd.snd.snd.fst) (v65.snd.snd.snd.snd.snd.snd.snd.snd.snd.fst) (v65.snd.snd.snd.snd.snd.snd.snd.snd.snd.snd.fst) with
         | none => none
         | some (Sum.inl v77) =>
          L60_4 n m (v77.fst) ((v77.snd.fst.fst, ())) ((v77.snd.snd.fst.fst, ())) (v77.snd.snd.snd.fst) (v77.snd.snd.snd.snd.fst) (v77.snd.snd.snd.snd.snd.fst) (v77.snd.snd.snd.snd.snd.snd.fst) (v77.snd.snd.snd.snd.snd.snd.snd.fst) (v77.snd.snd.snd.snd.snd.snd.snd.snd.fst) (v77.snd.snd.snd.snd.snd.snd.snd.snd.snd.fst) (v77.snd.snd.snd.snd.snd.snd.snd.snd.snd.snd.fst)
       else none)
      (match J60_22 n (x28) ((x29.fst, ())) ((x30.fst, ())) (x31) (x32) ((((x36.getD x38.toNat ((0 : Int), (0 : Int), (0 : Int))).fst, (x36.getD x38.toNat ((0 : Int), (0 : Int), (0 : Int))).snd.fst, (x36.getD x38.toNat ((0 : Int), (0 : Int), (0 : Int))).snd.snd), ())) (x33) (x34) (x35) (x36) (x37) (x38) with
       | none => none
       | some (Sum.inl v78) =>
        match J60_23 n (v78.fst) ((v78.snd.fst.fst, ())) ((v78.snd.snd.fst.fst, ())) (v78.snd.snd.snd.fst) (v78.snd.snd.snd.snd.fst) (((v78.snd.snd.snd.snd.snd.fst.fst.fst, v78.snd.snd.snd.snd.snd.fst.fst.snd.fst, v78.snd.snd.snd.snd.snd.fst.fst.snd.snd), ())) (v78.snd.snd.snd.snd.snd.snd.fst) (v78.snd.snd.snd.snd.snd.snd.snd.fst) (v78.snd.snd.snd.snd.snd.snd.snd.snd.fst) (v78.snd.snd.snd.snd.snd.snd.snd.snd.snd.fst) (v78.snd.snd.snd.snd.snd.snd.snd.snd.snd.snd.fst) (v78.snd.snd.snd.snd.snd.snd.snd.snd.snd.snd.snd.fst) with
        | none => none
        | some (Sum.inl v79) =>
         match J60_24 n (v79.fst) ((v79.snd.fst.fst, ())) ((v79.snd.snd.fst.fst, ())) (v79.snd.snd.snd.fst) (v79.snd.snd.snd.snd.fst) (v79.snd.snd.snd.snd.snd.fst) (v79.snd.snd.snd.snd.snd.snd.fst) (v79.snd.snd.snd.snd.snd.snd.snd.fst) (v79.snd.snd.snd.snd.snd.snd.snd.snd.fst) (v79.snd.snd.snd.snd.snd.snd.snd.snd.snd.fst) (v79.snd.snd.snd.snd.snd.snd.snd.snd.snd.snd.fst) with
         | none => none
         | some (Sum.inl v80) =>
          L60_4 n m (v80.fst) ((v80.snd.fst.fst, ())) ((v80.snd.snd.fst.fst, ())) (v80.snd.snd.snd.fst) (v80.snd.snd.snd.snd.fst) (v80.snd.snd.snd.snd.snd.fst) (v80.snd.snd.snd.snd.snd.snd.fst) (v80.snd.snd.snd.snd.snd.snd.snd.fst) (v80.snd.snd.snd.snd.snd.snd.snd.snd.fst) (v80.snd.snd.snd.snd.snd.snd.snd.snd.snd.fst) (v80.snd.snd.snd.snd.snd.snd.snd.snd.snd.snd.fst)))
     (match J60_23 n (x28) ((x29.fst, ())) ((x30.fst, ())) (x31) (x32) ((((x36.getD x38.toNat ((0 : Int), (0 : Int), (0 : Int))).fst, (x36.getD x38.toNat ((0 : Int), (0 : Int), (0 : Int))).snd.fst, (x36.getD x38.toNat ((0 : Int), (0 : Int), (0 : Int))).snd.snd), ())) (x33) (x34) (x35) (x36) (x37) (x38) with
      | none => none
      | some (Sum.inl v81) =>
       match J60_24 n (v81.fst) ((v81.snd.fst.fst, ())) ((v81.snd.snd.fst.fst, ())) (v81.snd.snd.snd.fst) (v81.snd.snd.snd.snd.fst) (v81.snd.snd.snd.snd.snd.fst) (v81.snd.snd.snd.snd.snd.snd.fst) (v81.snd.snd.snd.snd.snd.snd.snd.fst) (v81.snd.snd.snd.snd.snd.snd.snd.snd.fst) (v81.snd.snd.snd.snd.snd.snd.snd.snd.snd.fst) (v81.snd.snd.snd.snd.snd.snd.snd.snd.snd.snd.fst) with
       | none => none
       | some (Sum.inl v82) =>
        L60_4 n m (v82.fst) ((v82.snd.fst.fst, ())) ((v82.snd.snd.fst.fst, ())) (v82.snd.snd.snd.fst) (v82.snd.snd.snd.snd.fst) (v82.snd.snd.snd.snd.snd.fst) (v82.snd.snd.snd.snd.snd.snd.fst) (v82.snd.snd.snd.snd.snd.snd.snd.fst) (v82.snd.snd.snd.snd.snd.snd.snd.snd.fst) (v82.snd.snd.snd.snd.snd.snd.snd.snd.snd.fst) (v82.snd.snd.snd.snd.snd.snd.snd.snd.snd.snd.fst))
     else none
     else none)
    (some (Sum.inl (x28, (x29.fst, ()), (x30.fst, ()), x31, x32, x33, x34, x35, ())))
def L60_2 (n : Nat) : Nat → List Int → List (List (Int × Int × Int)) × Unit → List (List (Int × Int × Int)) × Unit → Int → List (List (Int × Int × Int)) → Int → Int → Option (odens [((.exit 2), [(4, (.b 44 [(.o (.rs 50 (.rs 52 (.pair (.int .i64) (.pair (.int .i64) (.int .i64))))))])), (9, (.b 44 [(.o (.rs 50 (.rs 52 (.pair (.int .i64) (.pair (.int .i64) (.int .i64))))))]))])])
  | 0, _, _, _, _, _, _, _ => none
  | m + 1, x21, x22, x23, x24, x25, x26, x27 =>
    cond (Decidable.decide (x27 < x26))
    (if (0 : Int) ≤ x27 then
     if x27 < (↑x25.length : Int) then
     match L60_4 n n (x21) ((x22.fst, ())) ((x23.fst, ())) (x24) ([]) (x25) (x26) (x27) (x25.getD x27.toNat []) ((↑(List.length (x25.getD x27.toNat [])) : Int)) ((0 : Int)) with
     | none => none
     | some (Sum.inl v83) =>
      if (List.length v83.snd.snd.fst.fst + [v83.snd.snd.snd.snd.fst].length) * (24 : Nat) ≤ (140737488355328 : Nat) then
      L60_2 n m (v83.fst) ((v83.snd.fst.fst, ())) ((v83.snd.snd.fst.fst ++ [v83.snd.snd.snd.snd.fst], ())) (v83.snd.snd.snd.fst) (v83.snd.snd.snd.snd.snd.fst) (v83.snd.snd.snd.snd.snd.snd.fst) (Go.IntKind.i64.wrap (v83.snd.snd.snd.snd.snd.snd.snd.fst + (1 : Int)))
      else none
     else none
     else none)
    (some (Sum.inl ((x22.fst, ()), (x23.fst, ()), ())))
def F60 (n : Nat) (a0 : List (List (Int × Int × Int))) (a1 : List Int) : Option (rdens [.c true (.v false (.rs 50 (.rs 52 (.pair (.int .i64) (.pair (.int .i64) (.int .i64)))))), .c false (.v false (.rs 3 (.int .i64)))] [.c true (.o (.rs 50 (.rs 52 (.pair (.int .i64) (.pair (.int .i64) (.int .i64)))))), .c false (.v true .bool)]) :=
  (F41 n (a0)).bind fun y1 =>
  match L60_0 n n (a1) ((a0, ())) (([], ())) (y1.fst) (a1) ((↑a1.length : Int)) ((0 : Int)) with
  | none => none
  | some (Sum.inl v19) =>
   some (v19.fst.fst, v19.snd.fst, ())
  | some (Sum.inr (Sum.inl v20)) =>
   cond (Decidable.decide (v20.snd.snd.snd.fst < (0 : Int)))
   (some ([], Bool.false, ()))
   (match L60_2 n n (v20.fst) ((v20.snd.snd.fst.fst, ())) (([], ())) ((0 : Int)) (v20.snd.fst.fst) ((↑(List.length v20.snd.fst.fst) : Int)) ((0 : Int)) with
    | none => none
    | some (Sum.inl v84) =>
     (F37 n (v84.snd.fst.fst)).bind fun y85 =>
     cond (!y85.fst)
     (some ([], Bool.false, ()))
     (some (v84.snd.fst.fst, Bool.true, ())))
noncomputable def con60 (n : Nat) : Con := conOf [.c true (.v false (.rs 50 (.rs 52 (.pair (.int .i64) (.pair (.int .i64) (.int .i64)))))), .c false (.v false (.rs 3 (.int .i64)))] [.c true (.o (.rs 50 (.rs 52 (.pair (.int .i64) (.pair (.int .i64) (.int .i64)))))), .c false (.v true .bool)] fun x => F60 n x.1 x.2.1
noncomputable def tb60 (n : Nat) : Tb := ⟨tiOf Try.prog, conL [(41, con41 n), (102, con102 n), (103, con103 n), (37, con37 n)], n, [], 90, lpL [(0, ⟨[(1, (.c false (.v false (.rs 3 (.int .i64))))), (2, (.b 44 [(.v false (.rs 50 (.rs 52 (.pair (.int .i64) (.pair (.int .i64) (.int .i64))))))])), (4, (.b 44 [(.o (.rs 50 (.rs 52 (.pair (.int .i64) (.pair (.int .i64) (.int .i64))))))])), (6, (.c false (.v true (.int .i64)))), (18, (.c false (.v false (.rs 3 (.int .i64))))), (19, (.c false (.v true (.int .i64)))), (20, (.c false (.v true (.int .i64))))], [(.ret, [(4, (.b 44 [(.o (.rs 50 (.rs 52 (.pair (.int .i64) (.pair (.int .i64) (.int .i64))))))])), (5, (.c false (.v true .bool)))]), ((.exit 0), [(1, (.c false (.v false (.rs 3 (.int .i64))))), (2, (.b 44 [(.v false (.rs 50 (.rs 52 (.pair (.int .i64) (.pair (.int .i64) (.int .i64))))))])), (4, (.b 44 [(.o (.rs 50 (.rs 52 (.pair (.int .i64) (.pair (.int .i64) (.int .i64))))))])), (6, (.c false (.v true (.int .i64))))])], fun m v => L60_0 n m v.1 v.2.1 v.2.2.1 v.2.2.2.1 v.2.2.2.2.1 v.2.2.2.2.2.1 v.2.2.2.2.2.2.1⟩), (4, ⟨[(1, (.c false (.v false (.rs 3 (.int .i64))))), (4, (.b 44 [(.o (.rs 50 (.rs 52 (.pair (.int .i64) (.pair (.int .i64) (.int .i64))))))])), (9, (.b 44 [(.o (.rs 50 (.rs 52 (.pair (.int .i64) (.pair (.int .i64) (.int .i64))))))])), (10, (.c false (.v true (.int .i64)))), (13, (.c false (.r 52 (.pair (.int .i64) (.pair (.int .i64) (.int .i64)))))), (49, (.c false (.v false (.rs 50 (.rs 52 (.pair (.int .i64) (.pair (.int .i64) (.int .i64)))))))), (50, (.c false (.v true (.int .i64)))), (51, (.c false (.v true (.int .i64)))), (55, (.c false (.v false (.rs 52 (.pair (.int .i64) (.pair (.int .i64) (.int .i64))))))), (56, (.c false (.v true (.int .i64)))), (57, (.c false (.v true (.int .i64))))], [((.exit 4), [(1, (.c false (.v false (.rs 3 (.int .i64))))), (4, (.b 44 [(.o (.rs 50 (.rs 52 (.pair (.int .i64) (.pair (.int .i64) (.int .i64))))))])), (9, (.b 44 [(.o (.rs 50 (.rs 52 (.pair (.int .i64) (.pair (.int .i64) (.int .i64))))))])), (10, (.c false (.v true (.int .i64)))), (13, (.c false (.r 52 (.pair (.int .i64) (.pair (.int .i64) (.int .i64)))))), (49, (.c false (.v false (.rs 50 (.rs 52 (.pair (.int .i64) (.pair (.int .i64) (.int .i64)))))))), (50, (.c false (.v true (.int .i64)))), (51, (.c false (.v true (.int .i64))))])], fun m v => L60_4 n m v.1 v.2.1 v.2.2.1 v.2.2.2.1 v.2.2.2.2.1 v.2.2.2.2.2.1 v.2.2.2.2.2.2.1 v.2.2.2.2.2.2.2.1 v.2.2.2.2.2.2.2.2.1 v.2.2.2.2.2.2.2.2.2.1 v.2.2.2.2.2.2.2.2.2.2.1⟩), (2, ⟨[(1, (.c false (.v false (.rs 3 (.int .i64))))), (4, (.b 44 [(.o (.rs 50 (.rs 52 (.pair (.int .i64) (.pair (.int .i64) (.int .i64))))))])), (9, (.b 44 [(.o (.rs 50 (.rs 52 (.pair (.int .i64) (.pair (.int .i64) (.int .i64))))))])), (10, (.c false (.v true (.int .i64)))), (49, (.c false (.v false (.rs 50 (.rs 52 (.pair (.int .i64) (.pair (.int .i64) (.int .i64)))))))), (50, (.c false (.v true (.int .i64)))), (51, (.c false (.v true (.int .i64))))], [((.exit 2), [(4, (.b 44 [(.o (.rs 50 (.rs 52 (.pair (.int .i64) (.pair (.int .i64) (.int .i64))))))])), (9, (.b 44 [(.o (.rs 50 (.rs 52 (.pair (.int .i64) (.pair (.int .i64) (.int .i64))))))]))])], fun m v => L60_2 n m v.1 v.2.1 v.2.2.1 v.2.2.2.1 v.2.2.2.2.1 v.2.2.2.2.2.1 v.2.2.2.2.2.2.1⟩)], ctL [(7, ⟨[(1, (.c false (.v false (.rs 3 (.int .i64))))), (2, (.b 44 [(.v false (.rs 50 (.rs 52 (.pair (.int .i64) (.pair (.int .i64) (.int .i64))))))])), (4, (.b 44 [(.o (.rs 50 (.rs 52 (.pair (.int .i64) (.pair (.int .i64) (.int .i64))))))])), (6, (.c false (.v true (.int .i64)))), (18, (.c false (.v false (.rs 3 (.int .i64))))), (19, (.c false (.v true (.int .i64)))), (20, (.c false (.v true (.int .i64))))], [(.normal, [(1, (.c false (.v false (.rs 3 (.int .i64))))), (2, (.b 44 [(.v false (.rs 50 (.rs 52 (.pair (.int .i64) (.pair (.int .i64) (.int .i64))))))])), (4, (.b 44 [(.o (.rs 50 (.rs 52 (.pair (.int .i64) (.pair (.int .i64) (.int .i64))))))])), (6, (.c false (.v true (.int .i64)))), (18, (.c false (.v false (.rs 3 (.int .i64))))), (19, (.c false (.v true (.int .i64)))), (20, (.c false (.v true (.int .i64))))])], fun v => J60_7 n v.1 v.2.1 v.2.2.1 v.2.2.2.1 v.2.2.2.2.1 v.2.2.2.2.2.1 v.2.2.2.2.2.2.1⟩), (22, ⟨[(1, (.c false (.v false (.rs 3 (.int .i64))))), (4, (.b 44 [(.o (.rs 50 (.rs 52 (.pair (.int .i64) (.pair (.int .i64) (.int .i64))))))])), (9, (.b 44 [(.o (.rs 50 (.rs 52 (.pair (.int .i64) (.pair (.int .i64) (.int .i64))))))])), (10, (.c false (.v true (.int .i64)))), (13, (.c false (.r 52 (.pair (.int .i64) (.pair (.int .i64) (.int .i64)))))), (15, (.b 52 [(.v true (.pair (.int .i64) (.pair (.int .i64) (.int .i64))))])), (49, (.c false (.v false (.rs 50 (.rs 52 (.pair (.int .i64) (.pair (.int .i64) (.int .i64)))))))), (50, (.c false (.v true (.int .i64)))), (51, (.c false (.v true (.int .i64)))), (55, (.c false (.v false (.rs 52 (.pair (.int .i64) (.pair (.int .i64) (.int .i64))))))), (56, (.c false (.v true (.int .i64)))), (57, (.c false (.v true (.int .i64))))], [(.normal, [(1, (.c false (.v false (.rs 3 (.int .i64))))), (4, (.b 44 [(.o (.rs 50 (.rs 52 (.pair (.int .i64) (.pair (.int .i64) (.int .i64))))))])), (9, (.b 44 [(.o (.rs 50 (.rs 52 (.pair (.int .i64) (.pair (.int .i64) (.int .i64))))))])), (10, (.c false (.v true (.int .i64)))), (13, (.c false (.r 52 (.pair (.int .i64) (.pair (.int .i64) (.int .i64)))))), (15, (.b 52 [(.v true (.pair (.int .i64) (.pair (.int .i64) (.int .i64))))])), (49, (.c false (.v false (.rs 50 (.rs 52 (.pair (.int .i64) (.pair (.int .i64) (.int .i64)))))))), (50, (.c false (.v true (.int .i64)))), (51, (.c false (.v true (.int .i64)))), (55, (.c false (.v false (.rs 52 (.pair (.int .i64) (.pair (.int .i64) (.int .i64))))))), (56, (.c false (.v true (.int .i64)))), (57, (.c false (.v true (.int .i64))))])], fun v => J60_22 n v.1 v.2.1 v.2.2.1 v.2.2.2.1 v.2.2.2.2.1 v.2.2.2.2.2.1 v.2.2.2.2.2.2.1 v.2.2.2.2.2.2.2.1 v.2.2.2.2.2.2.2.2.1 v.2.2.2.2.2.2.2.2.2.1 v.2.2.2.2.2.2.2.2.2.2.1 v.2.2.2.2.2.2.2.2.2.2.2.1⟩), (23, ⟨[(1, (.c false (.v false (.rs 3 (.int .i64))))), (4, (.b 44 [(.o (.rs 50 (.rs 52 (.pair (.int .i64) (.pair (.int .i64) (.int .i64))))))])), (9, (.b 44 [(.o (.rs 50 (.rs 52 (.pair (.int .i64) (.pair (.int .i64) (.int .i64))))))])), (10, (.c false (.v true (.int .i64)))), (13, (.c false (.r 52 (.pair (.int .i64) (.pair (.int .i64) (.int .i64)))))), (15, (.b 52 [(.v true (.pair (.int .i64) (.pair (.int .i64) (.int .i64))))])), (49, (.c false (.v false (.rs 50 (.rs 52 (.pair (.int .i64) (.pair (.int .i64) (.int .i64)))))))), (50, (.c false (.v true (.int .i64)))), (51, (.c false (.v true (.int .i64)))), (55, (.c false (.v false (.rs 52 (.pair (.int .i64) (.pair (.int .i64) (.int .i64))))))), (56, (.c false (.v true (.int .i64)))), (57, (.c false (.v true (.int .i64))))], [(.normal, [(1, (.c false (.v false (.rs 3 (.int .i64))))), (4, (.b 44 [(.o (.rs 50 (.rs 52 (.pair (.int .i64) (.pair (.int .i64) (.int .i64))))))])), (9, (.b 44 [(.o (.rs 50 (.rs 52 (.pair (.int .i64) (.pair (.int .i64) (.int .i64))))))])), (10, (.c false (.v true (.int .i64)))), (13, (.c false (.r 52 (.pair (.int .i64) (.pair (.int .i64) (.int .i64)))))), (49, (.c false (.v false (.rs 50 (.rs 52 (.pair (.int .i64) (.pair (.int .i64) (.int .i64)))))))), (50, (.c false (.v true (.int .i64)))), (51, (.c false (.v true (.int .i64)))), (55, (.c false (.v false (.rs 52 (.pair (.int .i64) (.pair (.int .i64) (.int .i64))))))), (56, (.c false (.v true (.int .i64)))), (57, (.c false (.v true (.int .i64))))])], fun v => J60_23 n v.1 v.2.1 v.2.2.1 v.2.2.2.1 v.2.2.2.2.1 v.2.2.2.2.2.1 v.2.2.2.2.2.2.1 v.2.2.2.2.2.2.2.1 v.2.2.2.2.2.2.2.2.1 v.2.2.2.2.2.2.2.2.2.1 v.2.2.2.2.2.2.2.2.2.2.1 v.2.2.2.2.2.2.2.2.2.2.2.1⟩), (24, ⟨[(1, (.c false (.v false (.rs 3 (.int .i64))))), (4, (.b 44 [(.o (.rs 50 (.rs 52 (.pair (.int .i64) (.pair (.int .i64) (.int .i64))))))])), (9, (.b 44 [(.o (.rs 50 (.rs 52 (.pair (.int .i64) (.pair (.int .i64) (.int .i64))))))])), (10, (.c false (.v true (.int .i64)))), (13, (.c false (.r 52 (.pair (.int .i64) (.pair (.int .i64) (.int .i64)))))), (49, (.c false (.v false (.rs 50 (.rs 52 (.pair (.int .i64) (.pair (.int .i64) (.int .i64)))))))), (50, (.c false (.v true (.int .i64)))), (51, (.c false (.v true (.int .i64)))), (55, (.c false (.v false (.rs 52 (.pair (.int .i64) (.pair (.int .i64) (.int .i64))))))), (56, (.c false (.v true (.int .i64)))), (57, (.c false (.v true (.int .i64))))], [(.normal, [(1, (.c false (.v false (.rs 3 (.int .i64))))), (4, (.b 44 [(.o (.rs 50 (.rs 52 (.pair (.int .i64) (.pair (.int .i64) (.int .i64))))))])), (9, (.b 44 [(.o (.rs 50 (.rs 52 (.pair (.int .i64) (.pair (.int .i64) (.int .i64))))))])), (10, (.c false (.v true (.int .i64)))), (13, (.c false (.r 52 (.pair (.int .i64) (.pair (.int .i64) (.int .i64)))))), (49, (.c false (.v false (.rs 50 (.rs 52 (.pair (.int .i64) (.pair (.int .i64) (.int .i64)))))))), (50, (.c false (.v true (.int .i64)))), (51, (.c false (.v true (.int .i64)))), (55, (.c false (.v false (.rs 52 (.pair (.int .i64) (.pair (.int .i64) (.int .i64))))))), (56, (.c false (.v true (.int .i64)))), (57, (.c false (.v true (.int .i64))))])], fun v => J60_24 n v.1 v.2.1 v.2.2.1 v.2.2.2.1 v.2.2.2.2.1 v.2.2.2.2.2.1 v.2.2.2.2.2.2.1 v.2.2.2.2.2.2.2.1 v.2.2.2.2.2.2.2.2.1 v.2.2.2.2.2.2.2.2.2.1 v.2.2.2.2.2.2.2.2.2.2.1⟩)], [], true⟩
noncomputable def code60 : Code := Try.f60.body.getD .skip
theorem tb60_ok (n : Nat) : (tb60 n).ok Try.prog := tbOk mixed (⟨con41_ok n, ⟨con102_ok n, ⟨con103_ok n, ⟨con37_ok n, trivial⟩⟩⟩⟩)
theorem lp60_0 (n : Nat) : LpAt (tb60 n) (loopBody code60 0) 0 := lpAt rfl (fun _ => by kernel_rfl) (fun _ _ => by kernel_rfl)
theorem lp60_4 (n : Nat) : LpAt (tb60 n) (loopBody code60 4) 4 := lpAt rfl (fun _ => by kernel_rfl) (fun _ _ => by kernel_rfl)
theorem lp60_2 (n : Nat) : LpAt (tb60 n) (loopBody code60 2) 2 := lpAt rfl (fun _ => by kernel_rfl) (fun _ _ => by kernel_rfl)
theorem blocks60 : blocks code60 = [(0, .loop (loopBody code60 0)), (1, blockBody code60 1), (2, .loop (loopBody code60 2)), (3, blockBody code60 3), (4, .loop (loopBody code60 4)), (5, blockBody code60 5)] := by kernel_rfl
theorem ct60_7 (n : Nat) : CtOk (tb60 n) (sec code60 6).2 ⟨[(1, (.c false (.v false (.rs 3 (.int .i64))))), (2, (.b 44 [(.v false (.rs 50 (.rs 52 (.pair (.int .i64) (.pair (.int .i64) (.int .i64))))))])), (4, (.b 44 [(.o (.rs 50 (.rs 52 (.pair (.int .i64) (.pair (.int .i64) (.int .i64))))))])), (6, (.c false (.v true (.int .i64)))), (18, (.c false (.v false (.rs 3 (.int .i64))))), (19, (.c false (.v true (.int .i64)))), (20, (.c false (.v true (.int .i64))))], [(.normal, [(1, (.c false (.v false (.rs 3 (.int .i64))))), (2, (.b 44 [(.v false (.rs 50 (.rs 52 (.pair (.int .i64) (.pair (.int .i64) (.int .i64))))))])), (4, (.b 44 [(.o (.rs 50 (.rs 52 (.pair (.int .i64) (.pair (.int .i64) (.int .i64))))))])), (6, (.c false (.v true (.int .i64)))), (18, (.c false (.v false (.rs 3 (.int .i64))))), (19, (.c false (.v true (.int .i64)))), (20, (.c false (.v true (.int .i64))))])], fun v => J60_7 n v.1 v.2.1 v.2.2.1 v.2.2.2.1 v.2.2.2.2.1 v.2.2.2.2.2.1 v.2.2.2.2.2.2.1⟩ := fun _ => by kernel_rfl
theorem ct60_24 (n : Nat) : CtOk (tb60 n) (sec code60 26).2 ⟨[(1, (.c false (.v false (.rs 3 (.int .i64))))), (4, (.b 44 [(.o (.rs 50 (.rs 52 (.pair (.int .i64) (.pair (.int .i64) (.int .i64))))))])), (9, (.b 44 [(.o (.rs 50 (.rs 52 (.pair (.int .i64) (.pair (.int .i64) (.int .i64))))))])), (10, (.c false (.v true (.int .i64)))), (13, (.c false (.r 52 (.pair (.int .i64) (.pair (.int .i64) (.int .i64)))))), (49, (.c false (.v false (.rs 50 (.rs 52 (.pair (.int .i64) (.pair (.int .i64) (.int .i64)))))))), (50, (.c false (.v true (.int .i64)))), (51, (.c false (.v true (.int .i64)))), (55, (.c false (.v false (.rs 52 (.pair (.int .i64) (.pair (.int .i64) (.int .i64))))))), (56, (.c false (.v true (.int .i64)))), (57, (.c false (.v true (.int .i64))))], [(.normal, [(1, (.c false (.v false (.rs 3 (.int .i64))))), (4, (.b 44 [(.o (.rs 50 (.rs 52 (.pair (.int .i64) (.pair (.int .i64) (.int .i64))))))])), (9, (.b 44 [(.o (.rs 50 (.rs 52 (.pair (.int .i64) (.pair (.int .i64) (.int .i64))))))])), (10, (.c false (.v true (.int .i64)))), (13, (.c false (.r 52 (.pair (.int .i64) (.pair (.int .i64) (.int .i64)))))), (49, (.c false (.v false (.rs 50 (.rs 52 (.pair (.int .i64) (.pair (.int .i64) (.int .i64)))))))), (50, (.c false (.v true (.int .i64)))), (51, (.c false (.v true (.int .i64)))), (55, (.c false (.v false (.rs 52 (.pair (.int .i64) (.pair (.int .i64) (.int .i64))))))), (56, (.c false (.v true (.int .i64)))), (57, (.c false (.v true (.int .i64))))])], fun v => J60_24 n v.1 v.2.1 v.2.2.1 v.2.2.2.1 v.2.2.2.2.1 v.2.2.2.2.2.1 v.2.2.2.2.2.2.1 v.2.2.2.2.2.2.2.1 v.2.2.2.2.2.2.2.2.1 v.2.2.2.2.2.2.2.2.2.1 v.2.2.2.2.2.2.2.2.2.2.1⟩ := fun _ => by kernel_rfl
theorem ct60_23 (n : Nat) : CtOk (tb60 n) (sec code60 28).2 ⟨[(1, (.c false (.v false (.rs 3 (.int .i64))))), (4, (.b 44 [(.o (.rs 50 (.rs 52 (.pair (.int .i64) (.pair (.int .i64) (.int .i64))))))])), (9, (.b 44 [(.o (.rs 50 (.rs 52 (.pair (.int .i64) (.pair (.int .i64) (.int .i64))))))])), (10, (.c false (.v true (.int .i64)))), (13, (.c false (.r 52 (.pair (.int .i64) (.pair (.int .i64) (.int .i64)))))), (15, (.b 52 [(.v true (.pair (.int .i64) (.pair (.int .i64) (.int .i64))))])), (49, (.c false (.v false (.rs 50 (.rs 52 (.pair (.int .i64) (.pair (.int .i64) (.int .i64)))))))), (50, (.c false (.v true (.int .i64)))), (51, (.c false (.v true (.int .i64)))), (55, (.c false (.v false (.rs 52 (.pair (.int .i64) (.pair (.int .i64) (.int .i64))))))), (56, (.c false (.v true (.int .i64)))), (57, (.c false (.v true (.int .i64))))], [(.normal, [(1, (.c false (.v false (.rs 3 (.int .i64))))), (4, (.b 44 [(.o (.rs 50 (.rs 52 (.pair (.int .i64) (.pair (.int .i64) (.int .i64))))))])), (9, (.b 44 [(.o (.rs 50 (.rs 52 (.pair (.int .i64) (.pair (.int .i64) (.int .i64))))))])), (10, (.c false (.v true (.int .i64)))), (13, (.c false (.r 52 (.pair (.int .i64) (.pair (.int .i64) (.int .i64)))))), (49, (.c false (.v false (.rs 50 (.rs 52 (.pair (.int .i64) (.pair (.int .i64) (.int .i64)))))))), (50, (.c false (.v true (.int .i64)))), (51, (.c false (.v true (.int .i64)))), (55, (.c false (.v false (.rs 52 (.pair (.int .i64) (.pair (.int .i64) (.int .i64))))))), (56, (.c false (.v true (.int .i64)))), (57, (.c false (.v true (.int .i64))))])], fun v => J60_23 n v.1 v.2.1 v.2.2.1 v.2.2.2.1 v.2.2.2.2.1 v.2.2.2.2.2.1 v.2.2.2.2.2.2.1 v.2.2.2.2.2.2.2.1 v.2.2.2.2.2.2.2.2.1 v.2.2.2.2.2.2.2.2.2.1 v.2.2.2.2.2.2.2.2.2.2.1 v.2.2.2.2.2.2.2.2.2.2.2.1⟩ := fun _ => by kernel_rfl
theorem ct60_22 (n : Nat) : CtOk (tb60 n) (sec code60 30).2 ⟨[(1, (.c false (.v false (.rs 3 (.int .i64))))), (4, (.b 44 [(.o (.rs 50 (.rs 52 (.pair (.int .i64) (.pair (.int .i64) (.int .i64))))))])), (9, (.b 44 [(.o (.rs 50 (.rs 52 (.pair (.int .i64) (.pair (.int .i64) (.int .i64))))))])), (10, (.c false (.v true (.int .i64)))), (13, (.c false (.r 52 (.pair (.int .i64) (.pair (.int .i64) (.int .i64)))))), (15, (.b 52 [(.v true (.pair (.int .i64) (.pair (.int .i64) (.int .i64))))])), (49, (.c false (.v false (.rs 50 (.rs 52 (.pair (.int .i64) (.pair (.int .i64) (.int .i64)))))))), (50, (.c false (.v true (.int .i64)))), (51, (.c false (.v true (.int .i64)))), (55, (.c false (.v false (.rs 52 (.pair (.int .i64) (.pair (.int .i64) (.int .i64))))))), (56, (.c false (.v true (.int .i64)))), (57, (.c false (.v true (.int .i64))))], [(.normal, [(1, (.c false (.v false (.rs 3 (.int .i64))))), (4, (.b 44 [(.o (.rs 50 (.rs 52 (.pair (.int .i64) (.pair (.int .i64) (.int .i64))))))])), (9, (.b 44 [(.o (.rs 50 (.rs 52 (.pair (.int .i64) (.pair (.int .i64) (.int .i64))))))])), (10, (.c false (.v true (.int .i64)))), (13, (.c false (.r 52 (.pair (.int .i64) (.pair (.int .i64) (.int .i64)))))), (15, (.b 52 [(.v true (.pair (.int .i64) (.pair (.int .i64) (.int .i64))))])), (49, (.c false (.v false (.rs 50 (.rs 52 (.pair (.int .i64) (.pair (.int .i64) (.int .i64)))))))), (50, (.c false (.v true (.int .i64)))), (51, (.c false (.v true (.int .i64)))), (55, (.c false (.v false (.rs 52 (.pair (.int .i64) (.pair (.int .i64) (.int .i64))))))), (56, (.c false (.v true (.int .i64)))), (57, (.c false (.v true (.int .i64))))])], fun v => J60_22 n v.1 v.2.1 v.2.2.1 v.2.2.2.1 v.2.2.2.2.1 v.2.2.2.2.2.1 v.2.2.2.2.2.2.1 v.2.2.2.2.2.2.2.1 v.2.2.2.2.2.2.2.2.1 v.2.2.2.2.2.2.2.2.2.1 v.2.2.2.2.2.2.2.2.2.2.1 v.2.2.2.2.2.2.2.2.2.2.2.1⟩ := fun _ => by kernel_rfl
theorem secs60 : seconds code60 = [(some 1, (sec code60 0).2), (some 2, (sec code60 1).2), (some 8, (sec code60 2).2), (some 3, (sec code60 3).2), (none, (sec code60 4).2), (some 4, (sec code60 5).2), (some 7, (sec code60 6).2), (some 5, (sec code60 7).2), (none, (sec code60 8).2), (none, (sec code60 9).2), (some 10, (sec code60 10).2), (none, (sec code60 11).2), (none, (sec code60 12).2), (some 11, (sec code60 13).2), (some 12, (sec code60 14).2), (some 27, (sec code60 15).2), (some 13, (sec code60 16).2), (none, (sec code60 17).2), (some 14, (sec code60 18).2), (some 26, (sec code60 19).2), (some 15, (sec code60 20).2), (some 16, (sec code60 21).2), (some 25, (sec code60 22).2), (some 17, (sec code60 23).2), (none, (sec code60 24).2), (some 18, (sec code60 25).2), (some 24, (sec code60 26).2), (some 19, (sec code60 27).2), (some 23, (sec code60 28).2), (none, (sec code60 29).2), (some 22, (sec code60 30).2), (none, (sec code60 31).2), (some 29, (sec code60 32).2), (none, (sec code60 33).2), (none, (sec code60 34).2), (none, (sec code60 35).2)] := by kernel_rfl
theorem la60 (n : Nat) : LpAll (tb60 n) code60 := lpAll blocks60 (bl_loop (lp60_0 n) (bl_none rfl (bl_loop (lp60_2 n) (bl_none rfl (bl_loop (lp60_4 n) (bl_none rfl (bl_nil))))))) secs60 (cs_none rfl (cs_none rfl (cs_none rfl (cs_none rfl (cs_none rfl (cs_none rfl (cs_one rfl (ct60_7 n) (cs_none rfl (cs_none rfl (cs_none rfl (cs_none rfl (cs_none rfl (cs_none rfl (cs_none rfl (cs_none rfl (cs_none rfl (cs_none rfl (cs_none rfl (cs_none rfl (cs_none rfl (cs_none rfl (cs_none rfl (cs_none rfl (cs_none rfl (cs_none rfl (cs_none rfl (cs_one rfl (ct60_24 n) (cs_none rfl (cs_one rfl (ct60_23 n) (cs_none rfl (cs_one rfl (ct60_22 n) (cs_none rfl (cs_none rfl (cs_none rfl (cs_none rfl (cs_none rfl (cs_nil))))))))))))))))))))))))))))))))))))) (by kernel_rfl)
theorem ev60 (n : Nat) (x : pdens [.c true (.v false (.rs 50 (.rs 52 (.pair (.int .i64) (.pair (.int .i64) (.int .i64)))))), .c false (.v false (.rs 3 (.int .i64)))]) : evSig (tb60 n) Try.f60 [.c true (.v false (.rs 50 (.rs 52 (.pair (.int .i64) (.pair (.int .i64) (.int .i64)))))), .c false (.v false (.rs 3 (.int .i64)))] [.c true (.o (.rs 50 (.rs 52 (.pair (.int .i64) (.pair (.int .i64) (.int .i64)))))), .c false (.v true .bool)] x = F60 n x.1 x.2.1 := by kernel_rfl
theorem con60_ok (n : Nat) : Con.ok Try.prog 60 (con60 n) := conOf_ok (tb60_ok n) (body_la (by kernel_rfl : Try.f60.body = some code60) (la60 n)) Try.func60 (enters Try.func60 (by kernel_rfl) (by kernel_rfl)) rfl rfl (ev60 n)
end Go.Proofs.Ytaehbfaldofmbaa.Ev
