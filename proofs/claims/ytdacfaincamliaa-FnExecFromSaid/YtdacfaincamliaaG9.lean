/- Plain functions that the loaded code comes to, and that it does. Conditions: none. -/
import Derived.Test.YtdacfaincamliaaGN
import Derived.Test.YtdacfaincamliaaGV
import Derived.Test.YtdacfaincamliaaGL
namespace Go.Proofs.Ytdacfaincamliaa.Ev
open Go Go.Proofs
/-! ### loop.example/fathomline/laws.lpRead -/
def J43_4 (n : Nat) (x6 : List (Int × Int × Bool)) (x7 : Int) (x8 : List (List (Int × Int × Int)) × Unit) (x9 : Int) (x10 : Int) : Option (odens [(.normal, [(1, (.c false (.v false (.rs 67 yE)))), (2, kI), (3, (.b 33 [(.v false yP)])), (7, kI), (8, kI)])]) :=
    some (Sum.inl (x6, x7, (x8.fst, ()), x9, Go.IntKind.i64.wrap (x10 + (1 : Int)), ()))
def L43_0 (n : Nat) : Nat → List (Int × Int × Bool) → Int → List (List (Int × Int × Int)) × Unit → Int → Int → Option (odens [((.exit 0), [(7, kI)])])
  | 0, _, _, _, _, _ => none
  | m + 1, x1, x2, x3, x4, x5 =>
    cond (Decidable.decide (x5 < x2))
    (if (0 : Int) ≤ x5 then
     if x5 < (↑x1.length : Int) then
     if (0 : Int) ≤ (x1.getD x5.toNat ((0 : Int), (0 : Int), Bool.false)).fst then
     if (x1.getD x5.toNat ((0 : Int), (0 : Int), Bool.false)).fst < (↑(List.length x3.fst) : Int) then
     if (0 : Int) ≤ x5 then
     if x5 < (↑x1.length : Int) then
     if (0 : Int) ≤ (x1.getD x5.toNat ((0 : Int), (0 : Int), Bool.false)).snd.fst then
     if (x1.getD x5.toNat ((0 : Int), (0 : Int), Bool.false)).snd.fst < (↑(List.length (List.getD x3.fst (Int.toNat (x1.getD x5.toNat ((0 : Int), (0 : Int), Bool.false)).fst) [])) : Int) then
     cond ((List.getD (List.getD x3.fst (Int.toNat (x1.getD x5.toNat ((0 : Int), (0 : Int), Bool.false)).fst) []) (Int.toNat (x1.getD x5.toNat ((0 : Int), (0 : Int), Bool.false)).snd.fst) ((0 : Int), (0 : Int), (0 : Int))).fst == (2 : Int))
     (match J43_4 n (x1) (x2) ((x3.fst, ())) (Go.IntKind.i64.wrap (x4 + (1 : Int))) (x5) with
      | none => none
      | some (Sum.inl v11) =>
       L43_0 n m (v11.fst) (v11.snd.fst) ((v11.snd.snd.fst.fst, ())) (v11.snd.snd.snd.fst) (v11.snd.snd.snd.snd.fst))
     (cond ((List.getD (List.getD x3.fst (Int.toNat (x1.getD x5.toNat ((0 : Int), (0 : Int), Bool.false)).fst) []) (Int.toNat (x1.getD x5.toNat ((0 : Int), (0 : Int), Bool.false)).snd.fst) ((0 : Int), (0 : Int), (0 : Int))).fst == (5 : Int))
      (match J43_4 n (x1) (x2) ((x3.fst, ())) (Go.IntKind.i64.wrap (x4 + (1 : Int))) (x5) with
       | none => none
       | some (Sum.inl v12) =>
        L43_0 n m (v12.fst) (v12.snd.fst) ((v12.snd.snd.fst.fst, ())) (v12.snd.snd.snd.fst) (v12.snd.snd.snd.snd.fst))
      (match J43_4 n (x1) (x2) ((x3.fst, ())) (x4) (x5) with
       | none => none
       | some (Sum.inl v13) =>
        L43_0 n m (v13.fst) (v13.snd.fst) ((v13.snd.snd.fst.fst, ())) (v13.snd.snd.snd.fst) (v13.snd.snd.snd.snd.fst)))
     else none
     else none
     else none
     else none
     else none
     else none
     else none
     else none)
    (some (Sum.inl (x4, ())))
def F43 (n : Nat) (a0 : List (List (Int × Int × Int))) (a1 : List (Int × Int × Bool)) (a2 : Int) : Option (rdens [.c true (.v false yP), .c false (.v false (.rs 67 yE)), .c false (.v true (.int .i64))] [.c false (.v true (.int .i64))]) :=
  match L43_0 n n (a1) (a2) ((a0, ())) ((0 : Int)) ((0 : Int)) with
  | none => none
  | some (Sum.inl v14) =>
   some (v14.fst, ())
noncomputable def con43 (n : Nat) : Con := conOf [.c true (.v false yP), .c false (.v false (.rs 67 yE)), .c false (.v true (.int .i64))] [.c false (.v true (.int .i64))] fun x => F43 n x.1 x.2.1 x.2.2.1
noncomputable def tb43 (n : Nat) : Tb := ⟨tiOf Try.prog, conL [], n, [], 42, lpL [(0, ⟨[(1, (.c false (.v false (.rs 67 yE)))), (2, kI), (3, (.b 33 [(.v false yP)])), (7, kI), (8, kI)], [((.exit 0), [(7, kI)])], fun m v => L43_0 n m v.1 v.2.1 v.2.2.1 v.2.2.2.1 v.2.2.2.2.1⟩)], ctL [(4, ⟨[(1, (.c false (.v false (.rs 67 yE)))), (2, kI), (3, (.b 33 [(.v false yP)])), (7, kI), (8, kI)], [(.normal, [(1, (.c false (.v false (.rs 67 yE)))), (2, kI), (3, (.b 33 [(.v false yP)])), (7, kI), (8, kI)])], fun v => J43_4 n v.1 v.2.1 v.2.2.1 v.2.2.2.1 v.2.2.2.2.1⟩)], [], true⟩
noncomputable def code43 : Code := Try.f43.body.getD .skip
theorem tb43_ok (n : Nat) : (tb43 n).ok Try.prog := tbOk mixed (trivial)
theorem lp43_0 (n : Nat) : LpAt (tb43 n) (loopBody code43 0) 0 := lpAt rfl (fun _ => by kernel_rfl) (fun _ _ => by kernel_rfl)
theorem blocks43 : blocks code43 = [(0, .loop (loopBody code43 0)), (1, blockBody code43 1)] := by kernel_rfl
theorem ct43_4 (n : Nat) : CtOk (tb43 n) (sec code43 6).2 ⟨[(1, (.c false (.v false (.rs 67 yE)))), (2, kI), (3, (.b 33 [(.v false yP)])), (7, kI), (8, kI)], [(.normal, [(1, (.c false (.v false (.rs 67 yE)))), (2, kI), (3, (.b 33 [(.v false yP)])), (7, kI), (8, kI)])], fun v => J43_4 n v.1 v.2.1 v.2.2.1 v.2.2.2.1 v.2.2.2.2.1⟩ := fun _ => by kernel_rfl
theorem secs43 : seconds code43 = [(some 1, (sec code43 0).2), (some 2, (sec code43 1).2), (some 8, (sec code43 2).2), (some 3, (sec code43 3).2), (some 5, (sec code43 4).2), (none, (sec code43 5).2), (some 4, (sec code43 6).2), (some 6, (sec code43 7).2), (none, (sec code43 8).2), (none, (sec code43 9).2)] := by kernel_rfl
theorem la43 (n : Nat) : LpAll (tb43 n) code43 := lpAll blocks43 (bl_loop (lp43_0 n) (bl_none rfl (bl_nil))) secs43 (cs_none rfl (cs_none rfl (cs_none rfl (cs_none rfl (cs_none rfl (cs_none rfl (cs_one rfl (ct43_4 n) (cs_none rfl (cs_none rfl (cs_none rfl (cs_nil))))))))))) (by kernel_rfl)
theorem ev43 (n : Nat) (x : pdens [.c true (.v false yP), .c false (.v false (.rs 67 yE)), .c false (.v true (.int .i64))]) : evSig (tb43 n) Try.f43 [.c true (.v false yP), .c false (.v false (.rs 67 yE)), .c false (.v true (.int .i64))] [.c false (.v true (.int .i64))] x = F43 n x.1 x.2.1 x.2.2.1 := by kernel_rfl
theorem con43_ok (n : Nat) : Con.ok Try.prog 43 (con43 n) := conOf_ok (tb43_ok n) (body_la (by kernel_rfl : Try.f43.body = some code43) (la43 n)) Try.func43 (enters Try.func43 (by kernel_rfl) (by kernel_rfl)) rfl rfl (ev43 n)
/-! ### loop.example/fathomline/laws.FnExecFrom -/
def J9_11 (n : Nat) (x17 : List (List (Int × Int × Int)) × Unit) (x18 : (List Int × List (List Int)) × Unit) (x19 : List Int × List Int × Unit) (x20 : List (Int × Int × Bool)) (x21 : Int) : Option (odens [(.normal, [(3, (.b 33 [(.v true yP)])), (4, (.b 48 [(.v true yX)])), (7, (.b 28 [(.r 3 (.int .i64)), (.r 3 (.int .i64))])), (9, (.c false (.r 67 yE))), (10, kI)])]) :=
    some (Sum.inl ((x17.fst, ()), ((x18.fst.fst, x18.fst.snd), ()), (x19.fst, x19.snd.fst, ()), x20, Go.IntKind.i64.wrap (x21 + (1 : Int)), ()))
def J9_16 (n : Nat) (x24 : List (List (Int × Int × Int)) × Unit) (x25 : (List Int × List (List Int)) × Unit) (x26 : List Int × List Int × Unit) (x27 : List (Int × Int × Bool)) (x28 : Int) (x29 : Int) : Option (odens [((.exit 1), [(3, (.b 33 [(.v true yP)])), (4, (.b 48 [(.v true yX)])), (7, (.b 28 [(.r 3 (.int .i64)), (.r 3 (.int .i64))])), (9, (.c false (.r 67 yE))), (10, kI)]), (.ret, [(2, kB)]), (.normal, [(3, (.b 33 [(.v true yP)])), (4, (.b 48 [(.v true yX)])), (7, (.b 28 [(.r 3 (.int .i64)), (.r 3 (.int .i64))])), (9, (.c false (.r 67 yE))), (10, kI)])]) :=
    if (0 : Int) ≤ x28 then
    if x28 < (↑(List.length x25.fst.fst) : Int) then
    cond (Decidable.decide (List.getD x25.fst.fst x28.toNat (0 : Int) < (0 : Int)))
    (some (Sum.inl ((x24.fst, ()), ((x25.fst.fst, x25.fst.snd), ()), (x26.fst, x26.snd.fst, ()), x27, x28, ())))
    (if (0 : Int) ≤ x28 then
     if x28 < (↑(List.length x25.fst.fst) : Int) then
     if (0 : Int) ≤ List.getD x25.fst.fst x28.toNat (0 : Int) then
     if List.getD x25.fst.fst x28.toNat (0 : Int) < (↑x27.length : Int) then
     if Int.toNat (List.getD x25.fst.fst x28.toNat (0 : Int)) < x27.length then
     if (0 : Int) ≤ (x27.getD (Int.toNat (List.getD x25.fst.fst x28.toNat (0 : Int))) ((0 : Int), (0 : Int), Bool.false)).fst then
     if (x27.getD (Int.toNat (List.getD x25.fst.fst x28.toNat (0 : Int))) ((0 : Int), (0 : Int), Bool.false)).fst < (↑(List.length x24.fst) : Int) then
     if (0 : Int) ≤ x28 then
     if x28 < (↑(List.length x25.fst.fst) : Int) then
     if (0 : Int) ≤ List.getD x25.fst.fst x28.toNat (0 : Int) then
     if List.getD x25.fst.fst x28.toNat (0 : Int) < (↑x27.length : Int) then
     if Int.toNat (List.getD x25.fst.fst x28.toNat (0 : Int)) < x27.length then
     if (0 : Int) ≤ (x27.getD (Int.toNat (List.getD x25.fst.fst x28.toNat (0 : Int))) ((0 : Int), (0 : Int), Bool.false)).snd.fst then
     if (x27.getD (Int.toNat (List.getD x25.fst.fst x28.toNat (0 : Int))) ((0 : Int), (0 : Int), Bool.false)).snd.fst < (↑(List.length (List.getD x24.fst (Int.toNat (x27.getD (Int.toNat (List.getD x25.fst.fst x28.toNat (0 : Int))) ((0 : Int), (0 : Int), Bool.false)).fst) [])) : Int) then
     if (0 : Int) ≤ x28 then
     if x28 < (↑x27.length : Int) then
     if x28.toNat < x27.length then
     if (0 : Int) ≤ (x27.getD x28.toNat ((0 : Int), (0 : Int), Bool.false)).fst then
     if (x27.getD x28.toNat ((0 : Int), (0 : Int), Bool.false)).fst < (↑(List.length x24.fst) : Int) then
     if (0 : Int) ≤ x28 then
     if x28 < (↑x27.length : Int) then
     if x28.toNat < x27.length then
     if (0 : Int) ≤ (x27.getD x28.toNat ((0 : Int), (0 : Int), Bool.false)).snd.fst then
     if (x27.getD x28.toNat ((0 : Int), (0 : Int), Bool.false)).snd.fst < (↑(List.length (List.getD x24.fst (Int.toNat (x27.getD x28.toNat ((0 : Int), (0 : Int), Bool.false)).fst) [])) : Int) then
     cond ((List.getD (List.getD x24.fst (Int.toNat (x27.getD (Int.toNat (List.getD x25.fst.fst x28.toNat (0 : Int))) ((0 : Int), (0 : Int), Bool.false)).fst) []) (Int.toNat (x27.getD (Int.toNat (List.getD x25.fst.fst x28.toNat (0 : Int))) ((0 : Int), (0 : Int), Bool.false)).snd.fst) ((0 : Int), (0 : Int), (0 : Int))).snd.fst != (List.getD (List.getD x24.fst (Int.toNat (x27.getD x28.toNat ((0 : Int), (0 : Int), Bool.false)).fst) []) (Int.toNat (x27.getD x28.toNat ((0 : Int), (0 : Int), Bool.false)).snd.fst) ((0 : Int), (0 : Int), (0 : Int))).snd.fst)
     (some (Sum.inr (Sum.inl (Bool.false, ()))))
     (cond ((List.getD (List.getD x24.fst (Int.toNat (x27.getD (Int.toNat (List.getD x25.fst.fst x28.toNat (0 : Int))) ((0 : Int), (0 : Int), Bool.false)).fst) []) (Int.toNat (x27.getD (Int.toNat (List.getD x25.fst.fst x28.toNat (0 : Int))) ((0 : Int), (0 : Int), Bool.false)).snd.fst) ((0 : Int), (0 : Int), (0 : Int))).fst != (3 : Int))
      (cond ((List.getD (List.getD x24.fst (Int.toNat (x27.getD (Int.toNat (List.getD x25.fst.fst x28.toNat (0 : Int))) ((0 : Int), (0 : Int), Bool.false)).fst) []) (Int.toNat (x27.getD (Int.toNat (List.getD x25.fst.fst x28.toNat (0 : Int))) ((0 : Int), (0 : Int), Bool.false)).snd.fst) ((0 : Int), (0 : Int), (0 : Int))).snd.snd != x29)
       (some (Sum.inr (Sum.inl (Bool.false, ()))))
       (some (Sum.inr (Sum.inr (Sum.inl ((x24.fst, ()), ((x25.fst.fst, x25.fst.snd), ()), (x26.fst, x26.snd.fst, ()), x27, x28, ()))))))
      (some (Sum.inr (Sum.inr (Sum.inl ((x24.fst, ()), ((x25.fst.fst, x25.fst.snd), ()), (x26.fst, x26.snd.fst, ()), x27, x28, ()))))))
     else none
     else none
     else none
     else none
     else none
     else none
     else none
     else none
     else none
     else none
     else none
     else none
     else none
     else none
     else none
     else none
     else none
     else none
     else none
     else none
     else none
     else none
     else none
     else none)
    else none
    else none
def L9_0 (n : Nat) : Nat → List (List (Int × Int × Int)) × Unit → (List Int × List (List Int)) × Unit → List Int × List Int × Unit → List (Int × Int × Bool) → Int → Option (odens [(.ret, [(2, kB)]), ((.exit 0), [])])
  | 0, _, _, _, _, _ => none
  | m + 1, x12, x13, x14, x15, x16 =>
    cond (Decidable.decide (x16 < (↑x15.length : Int)))
    (if (0 : Int) ≤ x16 then
     if x16 < (↑(List.length x13.fst.fst) : Int) then
     cond (List.getD x13.fst.fst x16.toNat (0 : Int) == (-2 : Int))
     (match J9_11 n ((x12.fst, ())) (((x13.fst.fst, x13.fst.snd), ())) ((x14.fst, x14.snd.fst, ())) (x15) (x16) with
      | none => none
      | some (Sum.inl v22) =>
       L9_0 n m ((v22.fst.fst, ())) (((v22.snd.fst.fst.fst, v22.snd.fst.fst.snd), ())) ((v22.snd.snd.fst.fst, v22.snd.snd.fst.snd.fst, ())) (v22.snd.snd.snd.fst) (v22.snd.snd.snd.snd.fst))
     ((F43 n (x12.fst) (x15) (x16)).bind fun y23 =>
      if (0 : Int) ≤ y23.fst then
      if y23.fst < (↑(List.length x14.fst) : Int) then
      if Int.toNat y23.fst < List.length x14.fst then
      if (0 : Int) ≤ x16 then
      if x16 < (↑(List.length x13.fst.fst) : Int) then
      cond (List.getD x13.fst.fst x16.toNat (0 : Int) == (-1 : Int))
      (cond (List.getD x14.fst (Int.toNat y23.fst) (0 : Int) != (0 : Int))
       (some (Sum.inl (Bool.false, ())))
       (match J9_16 n ((x12.fst, ())) (((x13.fst.fst, x13.fst.snd), ())) ((x14.fst, x14.snd.fst, ())) (x15) (x16) (List.getD x14.fst (Int.toNat y23.fst) (0 : Int)) with
        | none => none
        | some (Sum.inl v30) =>
         match J9_11 n ((v30.fst.fst, ())) (((v30.snd.fst.fst.fst, v30.snd.fst.fst.snd), ())) ((v30.snd.snd.fst.fst, v30.snd.snd.fst.snd.fst, ())) (v30.snd.snd.snd.fst) (v30.snd.snd.snd.snd.fst) with
         | none => none
         | some (Sum.inl v31) =>
          L9_0 n m ((v31.fst.fst, ())) (((v31.snd.fst.fst.fst, v31.snd.fst.fst.snd), ())) ((v31.snd.snd.fst.fst, v31.snd.snd.fst.snd.fst, ())) (v31.snd.snd.snd.fst) (v31.snd.snd.snd.snd.fst)
        | some (Sum.inr (Sum.inl v32)) =>
         some (Sum.inl (v32.fst, ()))
        | some (Sum.inr (Sum.inr (Sum.inl v33))) =>
         match J9_11 n ((v33.fst.fst, ())) (((v33.snd.fst.fst.fst, v33.snd.fst.fst.snd), ())) ((v33.snd.snd.fst.fst, v33.snd.snd.fst.snd.fst, ())) (v33.snd.snd.snd.fst) (v33.snd.snd.snd.snd.fst) with
         | none => none
         | some (Sum.inl v34) =>
          L9_0 n m ((v34.fst.fst, ())) (((v34.snd.fst.fst.fst, v34.snd.fst.fst.snd), ())) ((v34.snd.snd.fst.fst, v34.snd.snd.fst.snd.fst, ())) (v34.snd.snd.snd.fst) (v34.snd.snd.snd.snd.fst)))
      (match J9_16 n ((x12.fst, ())) (((x13.fst.fst, x13.fst.snd), ())) ((x14.fst, x14.snd.fst, ())) (x15) (x16) (List.getD x14.fst (Int.toNat y23.fst) (0 : Int)) with
       | none => none
       | some (Sum.inl v35) =>
        match J9_11 n ((v35.fst.fst, ())) (((v35.snd.fst.fst.fst, v35.snd.fst.fst.snd), ())) ((v35.snd.snd.fst.fst, v35.snd.snd.fst.snd.fst, ())) (v35.snd.snd.snd.fst) (v35.snd.snd.snd.snd.fst) with
        | none => none
        | some (Sum.inl v36) =>
         L9_0 n m ((v36.fst.fst, ())) (((v36.snd.fst.fst.fst, v36.snd.fst.fst.snd), ())) ((v36.snd.snd.fst.fst, v36.snd.snd.fst.snd.fst, ())) (v36.snd.snd.snd.fst) (v36.snd.snd.snd.snd.fst)
       | some (Sum.inr (Sum.inl v37)) =>
        some (Sum.inl (v37.fst, ()))
       | some (Sum.inr (Sum.inr (Sum.inl v38))) =>
        match J9_11 n ((v38.fst.fst, ())) (((v38.snd.fst.fst.fst, v38.snd.fst.fst.snd), ())) ((v38.snd.snd.fst.fst, v38.snd.snd.fst.snd.fst, ())) (v38.snd.snd.snd.fst) (v38.snd.snd.snd.snd.fst) with
        | none => none
        | some (Sum.inl v39) =>
         L9_0 n m ((v39.fst.fst, ())) (((v39.snd.fst.fst.fst, v39.snd.fst.fst.snd), ())) ((v39.snd.snd.fst.fst, v39.snd.snd.fst.snd.fst, ())) (v39.snd.snd.snd.fst) (v39.snd.snd.snd.snd.fst))
      else none
      else none
      else none
      else none
      else none)
     else none
     else none)
    (some (Sum.inr (Sum.inl (()))))
def J9_8 (n : Nat) (x8 : List (List (Int × Int × Int)) × Unit) (x9 : (List Int × List (List Int)) × Unit) (x10 : List Int × List Int × Unit) : Option (odens [(.ret, [(2, kB)])]) :=
    (F42 n (x8.fst)).bind fun y11 =>
    match L9_0 n n ((x8.fst, ())) (((x9.fst.fst, x9.fst.snd), ())) ((x10.fst, x10.snd.fst, ())) (y11.fst) ((0 : Int)) with
    | none => none
    | some (Sum.inl v40) =>
     some (Sum.inl (v40.fst, ()))
    | some (Sum.inr (Sum.inl v41)) =>
     some (Sum.inl (Bool.true, ()))
def F9 (n : Nat) (a0 : List Int) : Option (rdens [.c false (.v true (.rs 5 (.int .u8)))] [.c false (.v true .bool)]) :=
  cond (Decidable.decide ((↑a0.length : Int) > (1048576 : Int)))
  (some (Bool.true, ()))
  ((F38 n (a0)).bind fun y1 =>
   (F39 n (y1.fst) ((y1.snd.fst.fst, y1.snd.fst.snd))).bind fun y2 =>
   (F40 n (y1.fst) ((y1.snd.fst.fst, y1.snd.fst.snd))).bind fun y3 =>
   cond (!y3.snd.fst == y2.snd.fst)
   (cond (y3.snd.fst == y2.snd.fst)
    ((F41 n ((y3.fst.fst, y3.fst.snd)) ((y2.fst.fst, y2.fst.snd))).bind fun y4 =>
     some (y4.fst, ()))
    (some (Bool.false, ())))
   ((F41 n ((y3.fst.fst, y3.fst.snd)) ((y2.fst.fst, y2.fst.snd))).bind fun y5 =>
    cond (!y5.fst)
    (cond (y3.snd.fst == y2.snd.fst)
     ((F41 n ((y3.fst.fst, y3.fst.snd)) ((y2.fst.fst, y2.fst.snd))).bind fun y6 =>
      some (y6.fst, ()))
     (some (Bool.false, ())))
    (cond (!y3.snd.fst)
     (cond (y3.snd.fst == y2.snd.fst)
      ((F41 n ((y3.fst.fst, y3.fst.snd)) ((y2.fst.fst, y2.fst.snd))).bind fun y7 =>
       some (y7.fst, ()))
      (some (Bool.false, ())))
     (match J9_8 n ((y1.fst, ())) (((y1.snd.fst.fst, y1.snd.fst.snd), ())) ((y3.fst.fst, y3.fst.snd, ())) with
      | none => none
      | some (Sum.inl v42) =>
       some (v42.fst, ())))))
noncomputable def con9 (n : Nat) : Con := conOf [.c false (.v true (.rs 5 (.int .u8)))] [.c false (.v true .bool)] fun x => F9 n x.1
noncomputable def tb9 (n : Nat) : Tb := ⟨tiOf Try.prog, conL [(38, con38 n), (39, con39 n), (40, con40 n), (41, con41 n), (42, con42 n), (43, con43 n)], n, [], 147, lpL [(0, ⟨[(3, (.b 33 [(.v true yP)])), (4, (.b 48 [(.v true yX)])), (7, (.b 28 [(.r 3 (.int .i64)), (.r 3 (.int .i64))])), (9, (.c false (.r 67 yE))), (10, kI)], [(.ret, [(2, kB)]), ((.exit 0), [])], fun m v => L9_0 n m v.1 v.2.1 v.2.2.1 v.2.2.2.1 v.2.2.2.2.1⟩)], ctL [(11, ⟨[(3, (.b 33 [(.v true yP)])), (4, (.b 48 [(.v true yX)])), (7, (.b 28 [(.r 3 (.int .i64)), (.r 3 (.int .i64))])), (9, (.c false (.r 67 yE))), (10, kI)], [(.normal, [(3, (.b 33 [(.v true yP)])), (4, (.b 48 [(.v true yX)])), (7, (.b 28 [(.r 3 (.int .i64)), (.r 3 (.int .i64))])), (9, (.c false (.r 67 yE))), (10, kI)])], fun v => J9_11 n v.1 v.2.1 v.2.2.1 v.2.2.2.1 v.2.2.2.2.1⟩), (16, ⟨[(3, (.b 33 [(.v true yP)])), (4, (.b 48 [(.v true yX)])), (7, (.b 28 [(.r 3 (.int .i64)), (.r 3 (.int .i64))])), (9, (.c false (.r 67 yE))), (10, kI), (11, kI)], [((.exit 1), [(3, (.b 33 [(.v true yP)])), (4, (.b 48 [(.v true yX)])), (7, (.b 28 [(.r 3 (.int .i64)), (.r 3 (.int .i64))])), (9, (.c false (.r 67 yE))), (10, kI)]), (.ret, [(2, kB)]), (.normal, [(3, (.b 33 [(.v true yP)])), (4, (.b 48 [(.v true yX)])), (7, (.b 28 [(.r 3 (.int .i64)), (.r 3 (.int .i64))])), (9, (.c false (.r 67 yE))), (10, kI)])], fun v => J9_16 n v.1 v.2.1 v.2.2.1 v.2.2.2.1 v.2.2.2.2.1 v.2.2.2.2.2.1⟩), (8, ⟨[(3, (.b 33 [(.v true yP)])), (4, (.b 48 [(.v true yX)])), (7, (.b 28 [(.r 3 (.int .i64)), (.r 3 (.int .i64))]))], [(.ret, [(2, kB)])], fun v => J9_8 n v.1 v.2.1 v.2.2.1⟩)], [], true⟩
noncomputable def code9 : Code := Try.f9.body.getD .skip
theorem tb9_ok (n : Nat) : (tb9 n).ok Try.prog := tbOk mixed (⟨con38_ok n, ⟨con39_ok n, ⟨con40_ok n, ⟨con41_ok n, ⟨con42_ok n, ⟨con43_ok n, trivial⟩⟩⟩⟩⟩⟩)
theorem lp9_0 (n : Nat) : LpAt (tb9 n) (loopBody code9 0) 0 := lpAt rfl (fun _ => by kernel_rfl) (fun _ _ => by kernel_rfl)
theorem blocks9 : blocks code9 = [(0, .loop (loopBody code9 0)), (1, blockBody code9 1)] := by kernel_rfl
theorem ct9_8 (n : Nat) : CtOk (tb9 n) (sec code9 7).2 ⟨[(3, (.b 33 [(.v true yP)])), (4, (.b 48 [(.v true yX)])), (7, (.b 28 [(.r 3 (.int .i64)), (.r 3 (.int .i64))]))], [(.ret, [(2, kB)])], fun v => J9_8 n v.1 v.2.1 v.2.2.1⟩ := fun _ => by kernel_rfl
theorem ct9_11 (n : Nat) : CtOk (tb9 n) (sec code9 15).2 ⟨[(3, (.b 33 [(.v true yP)])), (4, (.b 48 [(.v true yX)])), (7, (.b 28 [(.r 3 (.int .i64)), (.r 3 (.int .i64))])), (9, (.c false (.r 67 yE))), (10, kI)], [(.normal, [(3, (.b 33 [(.v true yP)])), (4, (.b 48 [(.v true yX)])), (7, (.b 28 [(.r 3 (.int .i64)), (.r 3 (.int .i64))])), (9, (.c false (.r 67 yE))), (10, kI)])], fun v => J9_11 n v.1 v.2.1 v.2.2.1 v.2.2.2.1 v.2.2.2.2.1⟩ := fun _ => by kernel_rfl
theorem ct9_16 (n : Nat) : CtOk (tb9 n) (sec code9 19).2 ⟨[(3, (.b 33 [(.v true yP)])), (4, (.b 48 [(.v true yX)])), (7, (.b 28 [(.r 3 (.int .i64)), (.r 3 (.int .i64))])), (9, (.c false (.r 67 yE))), (10, kI), (11, kI)], [((.exit 1), [(3, (.b 33 [(.v true yP)])), (4, (.b 48 [(.v true yX)])), (7, (.b 28 [(.r 3 (.int .i64)), (.r 3 (.int .i64))])), (9, (.c false (.r 67 yE))), (10, kI)]), (.ret, [(2, kB)]), (.normal, [(3, (.b 33 [(.v true yP)])), (4, (.b 48 [(.v true yX)])), (7, (.b 28 [(.r 3 (.int .i64)), (.r 3 (.int .i64))])), (9, (.c false (.r 67 yE))), (10, kI)])], fun v => J9_16 n v.1 v.2.1 v.2.2.1 v.2.2.2.1 v.2.2.2.2.1 v.2.2.2.2.2.1⟩ := fun _ => by kernel_rfl
theorem secs9 : seconds code9 = [(some 1, (sec code9 0).2), (some 3, (sec code9 1).2), (none, (sec code9 2).2), (none, (sec code9 3).2), (some 4, (sec code9 4).2), (some 5, (sec code9 5).2), (some 6, (sec code9 6).2), (some 8, (sec code9 7).2), (none, (sec code9 8).2), (none, (sec code9 9).2), (some 9, (sec code9 10).2), (some 20, (sec code9 11).2), (some 10, (sec code9 12).2), (some 12, (sec code9 13).2), (none, (sec code9 14).2), (some 11, (sec code9 15).2), (some 13, (sec code9 16).2), (none, (sec code9 17).2), (some 14, (sec code9 18).2), (some 16, (sec code9 19).2), (none, (sec code9 20).2), (none, (sec code9 21).2), (some 17, (sec code9 22).2), (none, (sec code9 23).2), (some 18, (sec code9 24).2), (none, (sec code9 25).2), (none, (sec code9 26).2), (none, (sec code9 27).2)] := by kernel_rfl
theorem la9 (n : Nat) : LpAll (tb9 n) code9 := lpAll blocks9 (bl_loop (lp9_0 n) (bl_none rfl (bl_nil))) secs9 (cs_none rfl (cs_none rfl (cs_none rfl (cs_none rfl (cs_none rfl (cs_none rfl (cs_none rfl (cs_one rfl (ct9_8 n) (cs_none rfl (cs_none rfl (cs_none rfl (cs_none rfl (cs_none rfl (cs_none rfl (cs_none rfl (cs_one rfl (ct9_11 n) (cs_none rfl (cs_none rfl (cs_none rfl (cs_one rfl (ct9_16 n) (cs_none rfl (cs_none rfl (cs_none rfl (cs_none rfl (cs_none rfl (cs_none rfl (cs_none rfl (cs_none rfl (cs_nil))))))))))))))))))))))))))))) (by kernel_rfl)
theorem ev9 (n : Nat) (x : pdens [.c false (.v true (.rs 5 (.int .u8)))]) : evSig (tb9 n) Try.f9 [.c false (.v true (.rs 5 (.int .u8)))] [.c false (.v true .bool)] x = F9 n x.1 := by kernel_rfl
theorem con9_ok (n : Nat) : Con.ok Try.prog 9 (con9 n) := conOf_ok (tb9_ok n) (body_la (by kernel_rfl : Try.f9.body = some code9) (la9 n)) Try.func9 (enters Try.func9 (by kernel_rfl) (by kernel_rfl)) rfl rfl (ev9 n)
end Go.Proofs.Ytdacfaincamliaa.Ev
