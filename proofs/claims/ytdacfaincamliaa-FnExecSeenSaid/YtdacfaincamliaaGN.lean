/- Plain functions that the loaded code comes to, and that it does. Conditions: none. -/
import Derived.Test.YtdacfaincamliaaGF
import Derived.Test.YtdacfaincamliaaGI
import Derived.Test.YtdacfaincamliaaKW
namespace Go.Proofs.Ytdacfaincamliaa.Ev
open Go Go.Proofs
/-! ### loop.example/fathomline/spec.l12Seen -/
def J83_4 (n : Nat) (x10 : List (Int × Int × Bool)) (x11 : List (List (Int × Int × Int)) × Unit) (x12 : (List Int × List (List Int)) × Unit) (x13 : List Int × List Int × Unit) (x14 : List Int × List Int × Unit) (x15 : Int) : Option (odens [(.normal, [(1, (.c false (.v false (.rs 67 yE)))), (3, (.b 33 [(.v false yP)])), (5, (.b 48 [(.v false yX)])), (6, (.b 28 [(.r 3 (.int .i64)), (.r 3 (.int .i64))])), (7, (.b 28 [(.r 3 (.int .i64)), (.r 3 (.int .i64))])), (8, kI)])]) :=
    some (Sum.inl (x10, (x11.fst, ()), ((x12.fst.fst, x12.fst.snd), ()), (x13.fst, x13.snd.fst, ()), (x14.fst, x14.snd.fst, ()), Go.IntKind.i64.wrap (x15 + (1 : Int)), ()))
def L83_0 (n : Nat) : Nat → List (Int × Int × Bool) → List (List (Int × Int × Int)) × Unit → (List Int × List (List Int)) × Unit → List Int × List Int × Unit → List Int × List Int × Unit → Int → Option (odens [((.exit 0), [(1, (.c false (.v false (.rs 67 yE)))), (3, (.b 33 [(.v false yP)])), (5, (.b 48 [(.v false yX)])), (6, (.b 28 [(.r 3 (.int .i64)), (.r 3 (.int .i64))])), (7, (.b 28 [(.r 3 (.int .i64)), (.r 3 (.int .i64))]))])])
  | 0, _, _, _, _, _, _ => none
  | m + 1, x1, x2, x3, x4, x5, x6 =>
    cond (Decidable.decide (x6 < (↑x1.length : Int)))
    (if (0 : Int) ≤ x6 then
     if x6 < (↑x1.length : Int) then
     (F107 n (x2.fst) (((x1.getD x6.toNat ((0 : Int), (0 : Int), Bool.false)).fst, (x1.getD x6.toNat ((0 : Int), (0 : Int), Bool.false)).snd.fst, (x1.getD x6.toNat ((0 : Int), (0 : Int), Bool.false)).snd.snd))).bind fun y7 =>
     (F79 n ((y7.fst.fst, y7.fst.snd.fst, y7.fst.snd.snd))).bind fun y8 =>
     cond (y8.fst)
     ((F108 n (x2.fst) (x1) ((x3.fst.fst, x3.fst.snd)) (x6) (Go.IntKind.i64.wrap (Go.IntKind.i64.wrap ((2 : Int) * (↑x1.length : Int)) + (2 : Int)))).bind fun y9 =>
      if (List.length x5.fst + [y9.fst].length) * (8 : Nat) ≤ (140737488355328 : Nat) then
      match J83_4 n (x1) ((x2.fst, ())) (((x3.fst.fst, x3.fst.snd), ())) ((x4.fst, x4.snd.fst, ())) ((x5.fst ++ [y9.fst], x5.snd.fst, ())) (x6) with
      | none => none
      | some (Sum.inl v16) =>
       L83_0 n m (v16.fst) ((v16.snd.fst.fst, ())) (((v16.snd.snd.fst.fst.fst, v16.snd.snd.fst.fst.snd), ())) ((v16.snd.snd.snd.fst.fst, v16.snd.snd.snd.fst.snd.fst, ())) ((v16.snd.snd.snd.snd.fst.fst, v16.snd.snd.snd.snd.fst.snd.fst, ())) (v16.snd.snd.snd.snd.snd.fst)
      else none)
     (match J83_4 n (x1) ((x2.fst, ())) (((x3.fst.fst, x3.fst.snd), ())) ((x4.fst, x4.snd.fst, ())) ((x5.fst, x5.snd.fst, ())) (x6) with
      | none => none
      | some (Sum.inl v17) =>
       L83_0 n m (v17.fst) ((v17.snd.fst.fst, ())) (((v17.snd.snd.fst.fst.fst, v17.snd.snd.fst.fst.snd), ())) ((v17.snd.snd.snd.fst.fst, v17.snd.snd.snd.fst.snd.fst, ())) ((v17.snd.snd.snd.snd.fst.fst, v17.snd.snd.snd.snd.fst.snd.fst, ())) (v17.snd.snd.snd.snd.snd.fst))
     else none
     else none)
    (some (Sum.inl (x1, (x2.fst, ()), ((x3.fst.fst, x3.fst.snd), ()), (x4.fst, x4.snd.fst, ()), (x5.fst, x5.snd.fst, ()), ())))
def J83_13 (n : Nat) (x25 : List (Int × Int × Bool)) (x26 : List (List (Int × Int × Int)) × Unit) (x27 : (List Int × List (List Int)) × Unit) (x28 : List Int × List Int × Unit) (x29 : List Int × List Int × Unit) (x30 : Int) (x31 : Int) : Option (odens [(.normal, [(1, (.c false (.v false (.rs 67 yE)))), (3, (.b 33 [(.v false yP)])), (5, (.b 48 [(.v false yX)])), (6, (.b 28 [(.r 3 (.int .i64)), (.r 3 (.int .i64))])), (7, (.b 28 [(.r 3 (.int .i64)), (.r 3 (.int .i64))])), (9, kI)])]) :=
    (F108 n (x26.fst) (x25) ((x27.fst.fst, x27.fst.snd)) (x31) (Go.IntKind.i64.wrap (Go.IntKind.i64.wrap ((2 : Int) * (↑x25.length : Int)) + (2 : Int)))).bind fun y32 =>
    if (List.length x29.snd.fst + [y32.fst].length) * (8 : Nat) ≤ (140737488355328 : Nat) then
    some (Sum.inl (x25, (x26.fst, ()), ((x27.fst.fst, x27.fst.snd), ()), (x28.fst, x28.snd.fst, ()), (x29.fst, x29.snd.fst ++ [y32.fst], ()), x30, ()))
    else none
def J83_9 (n : Nat) (x34 : List (Int × Int × Bool)) (x35 : List (List (Int × Int × Int)) × Unit) (x36 : (List Int × List (List Int)) × Unit) (x37 : List Int × List Int × Unit) (x38 : List Int × List Int × Unit) (x39 : Int) : Option (odens [(.normal, [(1, (.c false (.v false (.rs 67 yE)))), (3, (.b 33 [(.v false yP)])), (5, (.b 48 [(.v false yX)])), (6, (.b 28 [(.r 3 (.int .i64)), (.r 3 (.int .i64))])), (7, (.b 28 [(.r 3 (.int .i64)), (.r 3 (.int .i64))])), (9, kI)])]) :=
    some (Sum.inl (x34, (x35.fst, ()), ((x36.fst.fst, x36.fst.snd), ()), (x37.fst, x37.snd.fst, ()), (x38.fst, x38.snd.fst, ()), Go.IntKind.i64.wrap (x39 + (1 : Int)), ()))
def L83_2 (n : Nat) : Nat → List (Int × Int × Bool) → List (List (Int × Int × Int)) × Unit → (List Int × List (List Int)) × Unit → List Int × List Int × Unit → List Int × List Int × Unit → Int → Option (odens [((.exit 2), [(6, (.b 28 [(.r 3 (.int .i64)), (.r 3 (.int .i64))])), (7, (.b 28 [(.r 3 (.int .i64)), (.r 3 (.int .i64))]))])])
  | 0, _, _, _, _, _, _ => none
  | m + 1, x19, x20, x21, x22, x23, x24 =>
    cond (Decidable.decide (x24 < (3 : Int)))
    (if (0 : Int) ≤ x24 then
     if x24 < (↑(List.length x21.fst.snd) : Int) then
     cond (Decidable.decide ((↑(List.length (List.getD x21.fst.snd x24.toNat [])) : Int) > (0 : Int)))
     (if (0 : Int) ≤ x24 then
      if x24 < (↑(List.length x21.fst.snd) : Int) then
      if (0 : Int) ≤ x24 then
      if x24 < (↑(List.length x21.fst.snd) : Int) then
      if (0 : Int) ≤ Go.IntKind.i64.wrap ((↑(List.length (List.getD x21.fst.snd x24.toNat [])) : Int) - (1 : Int)) then
      if Go.IntKind.i64.wrap ((↑(List.length (List.getD x21.fst.snd x24.toNat [])) : Int) - (1 : Int)) < (↑(List.length (List.getD x21.fst.snd x24.toNat [])) : Int) then
      match J83_13 n (x19) ((x20.fst, ())) (((x21.fst.fst, x21.fst.snd), ())) ((x22.fst, x22.snd.fst, ())) ((x23.fst, x23.snd.fst, ())) (x24) (List.getD (List.getD x21.fst.snd x24.toNat []) (Go.IntKind.i64.wrap ((↑(List.length (List.getD x21.fst.snd x24.toNat [])) : Int) - (1 : Int))).toNat (0 : Int)) with
      | none => none
      | some (Sum.inl v33) =>
       match J83_9 n (v33.fst) ((v33.snd.fst.fst, ())) (((v33.snd.snd.fst.fst.fst, v33.snd.snd.fst.fst.snd), ())) ((v33.snd.snd.snd.fst.fst, v33.snd.snd.snd.fst.snd.fst, ())) ((v33.snd.snd.snd.snd.fst.fst, v33.snd.snd.snd.snd.fst.snd.fst, ())) (v33.snd.snd.snd.snd.snd.fst) with
       | none => none
       | some (Sum.inl v40) =>
        L83_2 n m (v40.fst) ((v40.snd.fst.fst, ())) (((v40.snd.snd.fst.fst.fst, v40.snd.snd.fst.fst.snd), ())) ((v40.snd.snd.snd.fst.fst, v40.snd.snd.snd.fst.snd.fst, ())) ((v40.snd.snd.snd.snd.fst.fst, v40.snd.snd.snd.snd.fst.snd.fst, ())) (v40.snd.snd.snd.snd.snd.fst)
      else none
      else none
      else none
      else none
      else none
      else none)
     (match J83_13 n (x19) ((x20.fst, ())) (((x21.fst.fst, x21.fst.snd), ())) ((x22.fst, x22.snd.fst, ())) ((x23.fst, x23.snd.fst, ())) (x24) ((-1 : Int)) with
      | none => none
      | some (Sum.inl v41) =>
       match J83_9 n (v41.fst) ((v41.snd.fst.fst, ())) (((v41.snd.snd.fst.fst.fst, v41.snd.snd.fst.fst.snd), ())) ((v41.snd.snd.snd.fst.fst, v41.snd.snd.snd.fst.snd.fst, ())) ((v41.snd.snd.snd.snd.fst.fst, v41.snd.snd.snd.snd.fst.snd.fst, ())) (v41.snd.snd.snd.snd.snd.fst) with
       | none => none
       | some (Sum.inl v42) =>
        L83_2 n m (v42.fst) ((v42.snd.fst.fst, ())) (((v42.snd.snd.fst.fst.fst, v42.snd.snd.fst.fst.snd), ())) ((v42.snd.snd.snd.fst.fst, v42.snd.snd.snd.fst.snd.fst, ())) ((v42.snd.snd.snd.snd.fst.fst, v42.snd.snd.snd.snd.fst.snd.fst, ())) (v42.snd.snd.snd.snd.snd.fst))
     else none
     else none)
    (some (Sum.inl ((x22.fst, x22.snd.fst, ()), (x23.fst, x23.snd.fst, ()), ())))
def F83 (n : Nat) (a0 : List (List (Int × Int × Int))) (a1 : List (Int × Int × Bool)) (a2 : List Int × List (List Int)) : Option (rdens [.c true (.v false yP), .c false (.v false (.rs 67 yE)), .c true (.v false yX)] [.c true (.o (.pair (.rs 3 (.int .i64)) (.rs 3 (.int .i64))))]) :=
  match L83_0 n n (a1) ((a0, ())) (((a2.fst, a2.snd), ())) (([], [], ())) (([], [], ())) ((0 : Int)) with
  | none => none
  | some (Sum.inl v18) =>
   match L83_2 n n (v18.fst) ((v18.snd.fst.fst, ())) (((v18.snd.snd.fst.fst.fst, v18.snd.snd.fst.fst.snd), ())) ((v18.snd.snd.snd.fst.fst, v18.snd.snd.snd.fst.snd.fst, ())) ((v18.snd.snd.snd.snd.fst.fst, v18.snd.snd.snd.snd.fst.snd.fst, ())) ((0 : Int)) with
   | none => none
   | some (Sum.inl v43) =>
    some ((v43.snd.fst.fst, v43.snd.fst.snd.fst), ())
noncomputable def con83 (n : Nat) : Con := conOf [.c true (.v false yP), .c false (.v false (.rs 67 yE)), .c true (.v false yX)] [.c true (.o (.pair (.rs 3 (.int .i64)) (.rs 3 (.int .i64))))] fun x => F83 n x.1 x.2.1 x.2.2.1
noncomputable def tb83 (n : Nat) : Tb := ⟨tiOf Try.prog, conL [(107, con107 n), (79, con79 n), (108, con108 n)], n, [], 80, lpL [(0, ⟨[(1, (.c false (.v false (.rs 67 yE)))), (3, (.b 33 [(.v false yP)])), (5, (.b 48 [(.v false yX)])), (6, (.b 28 [(.r 3 (.int .i64)), (.r 3 (.int .i64))])), (7, (.b 28 [(.r 3 (.int .i64)), (.r 3 (.int .i64))])), (8, kI)], [((.exit 0), [(1, (.c false (.v false (.rs 67 yE)))), (3, (.b 33 [(.v false yP)])), (5, (.b 48 [(.v false yX)])), (6, (.b 28 [(.r 3 (.int .i64)), (.r 3 (.int .i64))])), (7, (.b 28 [(.r 3 (.int .i64)), (.r 3 (.int .i64))]))])], fun m v => L83_0 n m v.1 v.2.1 v.2.2.1 v.2.2.2.1 v.2.2.2.2.1 v.2.2.2.2.2.1⟩), (2, ⟨[(1, (.c false (.v false (.rs 67 yE)))), (3, (.b 33 [(.v false yP)])), (5, (.b 48 [(.v false yX)])), (6, (.b 28 [(.r 3 (.int .i64)), (.r 3 (.int .i64))])), (7, (.b 28 [(.r 3 (.int .i64)), (.r 3 (.int .i64))])), (9, kI)], [((.exit 2), [(6, (.b 28 [(.r 3 (.int .i64)), (.r 3 (.int .i64))])), (7, (.b 28 [(.r 3 (.int .i64)), (.r 3 (.int .i64))]))])], fun m v => L83_2 n m v.1 v.2.1 v.2.2.1 v.2.2.2.1 v.2.2.2.2.1 v.2.2.2.2.2.1⟩)], ctL [(4, ⟨[(1, (.c false (.v false (.rs 67 yE)))), (3, (.b 33 [(.v false yP)])), (5, (.b 48 [(.v false yX)])), (6, (.b 28 [(.r 3 (.int .i64)), (.r 3 (.int .i64))])), (7, (.b 28 [(.r 3 (.int .i64)), (.r 3 (.int .i64))])), (8, kI)], [(.normal, [(1, (.c false (.v false (.rs 67 yE)))), (3, (.b 33 [(.v false yP)])), (5, (.b 48 [(.v false yX)])), (6, (.b 28 [(.r 3 (.int .i64)), (.r 3 (.int .i64))])), (7, (.b 28 [(.r 3 (.int .i64)), (.r 3 (.int .i64))])), (8, kI)])], fun v => J83_4 n v.1 v.2.1 v.2.2.1 v.2.2.2.1 v.2.2.2.2.1 v.2.2.2.2.2.1⟩), (13, ⟨[(1, (.c false (.v false (.rs 67 yE)))), (3, (.b 33 [(.v false yP)])), (5, (.b 48 [(.v false yX)])), (6, (.b 28 [(.r 3 (.int .i64)), (.r 3 (.int .i64))])), (7, (.b 28 [(.r 3 (.int .i64)), (.r 3 (.int .i64))])), (9, kI), (10, kI)], [(.normal, [(1, (.c false (.v false (.rs 67 yE)))), (3, (.b 33 [(.v false yP)])), (5, (.b 48 [(.v false yX)])), (6, (.b 28 [(.r 3 (.int .i64)), (.r 3 (.int .i64))])), (7, (.b 28 [(.r 3 (.int .i64)), (.r 3 (.int .i64))])), (9, kI)])], fun v => J83_13 n v.1 v.2.1 v.2.2.1 v.2.2.2.1 v.2.2.2.2.1 v.2.2.2.2.2.1 v.2.2.2.2.2.2.1⟩), (9, ⟨[(1, (.c false (.v false (.rs 67 yE)))), (3, (.b 33 [(.v false yP)])), (5, (.b 48 [(.v false yX)])), (6, (.b 28 [(.r 3 (.int .i64)), (.r 3 (.int .i64))])), (7, (.b 28 [(.r 3 (.int .i64)), (.r 3 (.int .i64))])), (9, kI)], [(.normal, [(1, (.c false (.v false (.rs 67 yE)))), (3, (.b 33 [(.v false yP)])), (5, (.b 48 [(.v false yX)])), (6, (.b 28 [(.r 3 (.int .i64)), (.r 3 (.int .i64))])), (7, (.b 28 [(.r 3 (.int .i64)), (.r 3 (.int .i64))])), (9, kI)])], fun v => J83_9 n v.1 v.2.1 v.2.2.1 v.2.2.2.1 v.2.2.2.2.1 v.2.2.2.2.2.1⟩)], [], true⟩
noncomputable def code83 : Code := Try.f83.body.getD .skip
theorem tb83_ok (n : Nat) : (tb83 n).ok Try.prog := tbOk mixed (⟨con107_ok n, ⟨con79_ok n, ⟨con108_ok n, trivial⟩⟩⟩)
theorem lp83_0 (n : Nat) : LpAt (tb83 n) (loopBody code83 0) 0 := lpAt rfl (fun _ => by kernel_rfl) (fun _ _ => by kernel_rfl)
theorem lp83_2 (n : Nat) : LpAt (tb83 n) (loopBody code83 2) 2 := lpAt rfl (fun _ => by kernel_rfl) (fun _ _ => by kernel_rfl)
theorem blocks83 : blocks code83 = [(0, .loop (loopBody code83 0)), (1, blockBody code83 1), (2, .loop (loopBody code83 2)), (3, blockBody code83 3)] := by kernel_rfl
theorem ct83_4 (n : Nat) : CtOk (tb83 n) (sec code83 6).2 ⟨[(1, (.c false (.v false (.rs 67 yE)))), (3, (.b 33 [(.v false yP)])), (5, (.b 48 [(.v false yX)])), (6, (.b 28 [(.r 3 (.int .i64)), (.r 3 (.int .i64))])), (7, (.b 28 [(.r 3 (.int .i64)), (.r 3 (.int .i64))])), (8, kI)], [(.normal, [(1, (.c false (.v false (.rs 67 yE)))), (3, (.b 33 [(.v false yP)])), (5, (.b 48 [(.v false yX)])), (6, (.b 28 [(.r 3 (.int .i64)), (.r 3 (.int .i64))])), (7, (.b 28 [(.r 3 (.int .i64)), (.r 3 (.int .i64))])), (8, kI)])], fun v => J83_4 n v.1 v.2.1 v.2.2.1 v.2.2.2.1 v.2.2.2.2.1 v.2.2.2.2.2.1⟩ := fun _ => by kernel_rfl
theorem ct83_9 (n : Nat) : CtOk (tb83 n) (sec code83 12).2 ⟨[(1, (.c false (.v false (.rs 67 yE)))), (3, (.b 33 [(.v false yP)])), (5, (.b 48 [(.v false yX)])), (6, (.b 28 [(.r 3 (.int .i64)), (.r 3 (.int .i64))])), (7, (.b 28 [(.r 3 (.int .i64)), (.r 3 (.int .i64))])), (9, kI)], [(.normal, [(1, (.c false (.v false (.rs 67 yE)))), (3, (.b 33 [(.v false yP)])), (5, (.b 48 [(.v false yX)])), (6, (.b 28 [(.r 3 (.int .i64)), (.r 3 (.int .i64))])), (7, (.b 28 [(.r 3 (.int .i64)), (.r 3 (.int .i64))])), (9, kI)])], fun v => J83_9 n v.1 v.2.1 v.2.2.1 v.2.2.2.1 v.2.2.2.2.1 v.2.2.2.2.2.1⟩ := fun _ => by kernel_rfl
theorem ct83_13 (n : Nat) : CtOk (tb83 n) (sec code83 14).2 ⟨[(1, (.c false (.v false (.rs 67 yE)))), (3, (.b 33 [(.v false yP)])), (5, (.b 48 [(.v false yX)])), (6, (.b 28 [(.r 3 (.int .i64)), (.r 3 (.int .i64))])), (7, (.b 28 [(.r 3 (.int .i64)), (.r 3 (.int .i64))])), (9, kI), (10, kI)], [(.normal, [(1, (.c false (.v false (.rs 67 yE)))), (3, (.b 33 [(.v false yP)])), (5, (.b 48 [(.v false yX)])), (6, (.b 28 [(.r 3 (.int .i64)), (.r 3 (.int .i64))])), (7, (.b 28 [(.r 3 (.int .i64)), (.r 3 (.int .i64))])), (9, kI)])], fun v => J83_13 n v.1 v.2.1 v.2.2.1 v.2.2.2.1 v.2.2.2.2.1 v.2.2.2.2.2.1 v.2.2.2.2.2.2.1⟩ := fun _ => by kernel_rfl
theorem secs83 : seconds code83 = [(some 1, (sec code83 0).2), (some 2, (sec code83 1).2), (some 7, (sec code83 2).2), (some 3, (sec code83 3).2), (some 5, (sec code83 4).2), (none, (sec code83 5).2), (some 4, (sec code83 6).2), (none, (sec code83 7).2), (some 14, (sec code83 8).2), (some 8, (sec code83 9).2), (some 10, (sec code83 10).2), (none, (sec code83 11).2), (some 9, (sec code83 12).2), (some 11, (sec code83 13).2), (some 13, (sec code83 14).2), (none, (sec code83 15).2), (none, (sec code83 16).2)] := by kernel_rfl
theorem la83 (n : Nat) : LpAll (tb83 n) code83 := lpAll blocks83 (bl_loop (lp83_0 n) (bl_none rfl (bl_loop (lp83_2 n) (bl_none rfl (bl_nil))))) secs83 (cs_none rfl (cs_none rfl (cs_none rfl (cs_none rfl (cs_none rfl (cs_none rfl (cs_one rfl (ct83_4 n) (cs_none rfl (cs_none rfl (cs_none rfl (cs_none rfl (cs_none rfl (cs_one rfl (ct83_9 n) (cs_none rfl (cs_one rfl (ct83_13 n) (cs_none rfl (cs_none rfl (cs_nil)))))))))))))))))) (by kernel_rfl)
theorem ev83 (n : Nat) (x : pdens [.c true (.v false yP), .c false (.v false (.rs 67 yE)), .c true (.v false yX)]) : evSig (tb83 n) Try.f83 [.c true (.v false yP), .c false (.v false (.rs 67 yE)), .c true (.v false yX)] [.c true (.o (.pair (.rs 3 (.int .i64)) (.rs 3 (.int .i64))))] x = F83 n x.1 x.2.1 x.2.2.1 := by kernel_rfl
theorem con83_ok (n : Nat) : Con.ok Try.prog 83 (con83 n) := conOf_ok (tb83_ok n) (body_la (by kernel_rfl : Try.f83.body = some code83) (la83 n)) Try.func83 (enters Try.func83 (by kernel_rfl) (by kernel_rfl)) rfl rfl (ev83 n)
/-! ### loop.example/fathomline/spec.ExecSeen -/
def F39 (n : Nat) (a0 : List (List (Int × Int × Int))) (a1 : List Int × List (List Int)) : Option (rdens [.c true (.v false yP), .c true (.v false yX)] [.c true (.o (.pair (.rs 3 (.int .i64)) (.rs 3 (.int .i64)))), .c false (.v true .bool)]) :=
  (F29 n (a0) ((a1.fst, a1.snd))).bind fun y1 =>
  cond (!y1.fst)
  (some (([], []), Bool.false, ()))
  ((F65 n (a0)).bind fun y2 =>
   (F83 n (a0) (y2.fst) ((a1.fst, a1.snd))).bind fun y3 =>
   some ((y3.fst.fst, y3.fst.snd), Bool.true, ()))
noncomputable def con39 (n : Nat) : Con := conOf [.c true (.v false yP), .c true (.v false yX)] [.c true (.o (.pair (.rs 3 (.int .i64)) (.rs 3 (.int .i64)))), .c false (.v true .bool)] fun x => F39 n x.1 x.2.1
noncomputable def tb39 (n : Nat) : Tb := ⟨tiOf Try.prog, conL [(29, con29 n), (65, con65 n), (83, con83 n)], n, [], 16, lpL [], ctL [], [], true⟩
noncomputable def code39 : Code := Try.f39.body.getD .skip
theorem tb39_ok (n : Nat) : (tb39 n).ok Try.prog := tbOk mixed (⟨con29_ok n, ⟨con65_ok n, ⟨con83_ok n, trivial⟩⟩⟩)
theorem blocks39 : blocks code39 = [] := by kernel_rfl
theorem la39 (n : Nat) : LpAll (tb39 n) code39 := lpAll blocks39 (bl_nil) rfl (cs_no fun _ => rfl) (by kernel_rfl)
theorem ev39 (n : Nat) (x : pdens [.c true (.v false yP), .c true (.v false yX)]) : evSig (tb39 n) Try.f39 [.c true (.v false yP), .c true (.v false yX)] [.c true (.o (.pair (.rs 3 (.int .i64)) (.rs 3 (.int .i64)))), .c false (.v true .bool)] x = F39 n x.1 x.2.1 := by kernel_rfl
theorem con39_ok (n : Nat) : Con.ok Try.prog 39 (con39 n) := conOf_ok (tb39_ok n) (body_la (by kernel_rfl : Try.f39.body = some code39) (la39 n)) Try.func39 (enters Try.func39 (by kernel_rfl) (by kernel_rfl)) rfl rfl (ev39 n)
/-! ### (loop.example/fathomline/impl.scene).seen -/
def J84_8 (n : Nat) (x10 : (List (List (Int × Int × Int)) × List (Int × Int × Bool) × List (Int × Int × Int)) × Unit) (x11 : (List Int × List (List Int)) × Unit) (x12 : List Int × List Int × Unit) (x13 : List Int × List Int × Unit) (x14 : List (Int × Int × Int)) (x15 : Int) (x16 : Int) : Option (odens [(.normal, [(2, (.b 95 [(.v false (.pair yP (.pair (.rs 67 yE) (.rs 59 yD))))])), (3, (.b 48 [(.v false yX)])), (4, (.b 28 [(.r 3 (.int .i64)), (.r 3 (.int .i64))])), (5, (.b 28 [(.r 3 (.int .i64)), (.r 3 (.int .i64))])), (14, (.c false (.v false (.rs 59 yD)))), (15, kI), (16, kI)])]) :=
    some (Sum.inl (((x10.fst.fst, x10.fst.snd.fst, x10.fst.snd.snd), ()), ((x11.fst.fst, x11.fst.snd), ()), (x12.fst, x12.snd.fst, ()), (x13.fst, x13.snd.fst, ()), x14, x15, Go.IntKind.i64.wrap (x16 + (1 : Int)), ()))
def L84_0 (n : Nat) : Nat → (List (List (Int × Int × Int)) × List (Int × Int × Bool) × List (Int × Int × Int)) × Unit → (List Int × List (List Int)) × Unit → List Int × List Int × Unit → List Int × List Int × Unit → List (Int × Int × Int) → Int → Int → Option (odens [((.exit 0), [(2, (.b 95 [(.v false (.pair yP (.pair (.rs 67 yE) (.rs 59 yD))))])), (3, (.b 48 [(.v false yX)])), (4, (.b 28 [(.r 3 (.int .i64)), (.r 3 (.int .i64))])), (5, (.b 28 [(.r 3 (.int .i64)), (.r 3 (.int .i64))]))])])
  | 0, _, _, _, _, _, _, _ => none
  | m + 1, x1, x2, x3, x4, x5, x6, x7 =>
    cond (Decidable.decide (x7 < x6))
    (if (0 : Int) ≤ x7 then
     if x7 < (↑x5.length : Int) then
     (F121 n (((x5.getD x7.toNat ((0 : Int), (0 : Int), (0 : Int))).fst, (x5.getD x7.toNat ((0 : Int), (0 : Int), (0 : Int))).snd.fst, (x5.getD x7.toNat ((0 : Int), (0 : Int), (0 : Int))).snd.snd))).bind fun y8 =>
     cond (y8.fst)
     ((F112 n ((x1.fst.fst, x1.fst.snd.fst, x1.fst.snd.snd)) ((x2.fst.fst, x2.fst.snd)) (x7)).bind fun y9 =>
      if (List.length x4.fst + [y9.fst].length) * (8 : Nat) ≤ (140737488355328 : Nat) then
      match J84_8 n (((x1.fst.fst, x1.fst.snd.fst, x1.fst.snd.snd), ())) (((x2.fst.fst, x2.fst.snd), ())) ((x3.fst, x3.snd.fst, ())) ((x4.fst ++ [y9.fst], x4.snd.fst, ())) (x5) (x6) (x7) with
      | none => none
      | some (Sum.inl v17) =>
       L84_0 n m (((v17.fst.fst.fst, v17.fst.fst.snd.fst, v17.fst.fst.snd.snd), ())) (((v17.snd.fst.fst.fst, v17.snd.fst.fst.snd), ())) ((v17.snd.snd.fst.fst, v17.snd.snd.fst.snd.fst, ())) ((v17.snd.snd.snd.fst.fst, v17.snd.snd.snd.fst.snd.fst, ())) (v17.snd.snd.snd.snd.fst) (v17.snd.snd.snd.snd.snd.fst) (v17.snd.snd.snd.snd.snd.snd.fst)
      else none)
     (match J84_8 n (((x1.fst.fst, x1.fst.snd.fst, x1.fst.snd.snd), ())) (((x2.fst.fst, x2.fst.snd), ())) ((x3.fst, x3.snd.fst, ())) ((x4.fst, x4.snd.fst, ())) (x5) (x6) (x7) with
      | none => none
      | some (Sum.inl v18) =>
       L84_0 n m (((v18.fst.fst.fst, v18.fst.fst.snd.fst, v18.fst.fst.snd.snd), ())) (((v18.snd.fst.fst.fst, v18.snd.fst.fst.snd), ())) ((v18.snd.snd.fst.fst, v18.snd.snd.fst.snd.fst, ())) ((v18.snd.snd.snd.fst.fst, v18.snd.snd.snd.fst.snd.fst, ())) (v18.snd.snd.snd.snd.fst) (v18.snd.snd.snd.snd.snd.fst) (v18.snd.snd.snd.snd.snd.snd.fst))
     else none
     else none)
    (some (Sum.inl (((x1.fst.fst, x1.fst.snd.fst, x1.fst.snd.snd), ()), ((x2.fst.fst, x2.fst.snd), ()), (x3.fst, x3.snd.fst, ()), (x4.fst, x4.snd.fst, ()), ())))
def J84_15 (n : Nat) (x28 : (List (List (Int × Int × Int)) × List (Int × Int × Bool) × List (Int × Int × Int)) × Unit) (x29 : (List Int × List (List Int)) × Unit) (x30 : List Int × List Int × Unit) (x31 : List Int × List Int × Unit) (x32 : Int) (x33 : List (List Int)) (x34 : Int) (x35 : Int) : Option (odens [(.normal, [(2, (.b 95 [(.v false (.pair yP (.pair (.rs 67 yE) (.rs 59 yD))))])), (3, (.b 48 [(.v false yX)])), (4, (.b 28 [(.r 3 (.int .i64)), (.r 3 (.int .i64))])), (5, (.b 28 [(.r 3 (.int .i64)), (.r 3 (.int .i64))])), (38, (.c false (.v false (.rs 25 (.rs 3 (.int .i64)))))), (39, kI), (40, kI)])]) :=
    if (List.length x31.snd.fst + [x32].length) * (8 : Nat) ≤ (140737488355328 : Nat) then
    some (Sum.inl (((x28.fst.fst, x28.fst.snd.fst, x28.fst.snd.snd), ()), ((x29.fst.fst, x29.fst.snd), ()), (x30.fst, x30.snd.fst, ()), (x31.fst, x31.snd.fst ++ [x32], ()), x33, x34, x35, ()))
    else none
def J84_16 (n : Nat) (x37 : (List (List (Int × Int × Int)) × List (Int × Int × Bool) × List (Int × Int × Int)) × Unit) (x38 : (List Int × List (List Int)) × Unit) (x39 : List Int × List Int × Unit) (x40 : List Int × List Int × Unit) (x41 : List (List Int)) (x42 : Int) (x43 : Int) : Option (odens [(.normal, [(2, (.b 95 [(.v false (.pair yP (.pair (.rs 67 yE) (.rs 59 yD))))])), (3, (.b 48 [(.v false yX)])), (4, (.b 28 [(.r 3 (.int .i64)), (.r 3 (.int .i64))])), (5, (.b 28 [(.r 3 (.int .i64)), (.r 3 (.int .i64))])), (38, (.c false (.v false (.rs 25 (.rs 3 (.int .i64)))))), (39, kI), (40, kI)])]) :=
    some (Sum.inl (((x37.fst.fst, x37.fst.snd.fst, x37.fst.snd.snd), ()), ((x38.fst.fst, x38.fst.snd), ()), (x39.fst, x39.snd.fst, ()), (x40.fst, x40.snd.fst, ()), x41, x42, Go.IntKind.i64.wrap (x43 + (1 : Int)), ()))
def L84_2 (n : Nat) : Nat → (List (List (Int × Int × Int)) × List (Int × Int × Bool) × List (Int × Int × Int)) × Unit → (List Int × List (List Int)) × Unit → List Int × List Int × Unit → List Int × List Int × Unit → List (List Int) → Int → Int → Option (odens [((.exit 2), [(4, (.b 28 [(.r 3 (.int .i64)), (.r 3 (.int .i64))])), (5, (.b 28 [(.r 3 (.int .i64)), (.r 3 (.int .i64))]))])])
  | 0, _, _, _, _, _, _, _ => none
  | m + 1, x20, x21, x22, x23, x24, x25, x26 =>
    cond (Decidable.decide (x26 < x25))
    (if (0 : Int) ≤ x26 then
     if x26 < (↑x24.length : Int) then
     cond (Decidable.decide ((↑(List.length (x24.getD x26.toNat [])) : Int) > (0 : Int)))
     (if (0 : Int) ≤ Go.IntKind.i64.wrap ((↑(List.length (x24.getD x26.toNat [])) : Int) - (1 : Int)) then
      if Go.IntKind.i64.wrap ((↑(List.length (x24.getD x26.toNat [])) : Int) - (1 : Int)) < (↑(List.length (x24.getD x26.toNat [])) : Int) then
      (F112 n ((x20.fst.fst, x20.fst.snd.fst, x20.fst.snd.snd)) ((x21.fst.fst, x21.fst.snd)) (List.getD (x24.getD x26.toNat []) (Go.IntKind.i64.wrap ((↑(List.length (x24.getD x26.toNat [])) : Int) - (1 : Int))).toNat (0 : Int))).bind fun y27 =>
      match J84_15 n (((x20.fst.fst, x20.fst.snd.fst, x20.fst.snd.snd), ())) (((x21.fst.fst, x21.fst.snd), ())) ((x22.fst, x22.snd.fst, ())) ((x23.fst, x23.snd.fst, ())) (y27.fst) (x24) (x25) (x26) with
      | none => none
      | some (Sum.inl v36) =>
       match J84_16 n (((v36.fst.fst.fst, v36.fst.fst.snd.fst, v36.fst.fst.snd.snd), ())) (((v36.snd.fst.fst.fst, v36.snd.fst.fst.snd), ())) ((v36.snd.snd.fst.fst, v36.snd.snd.fst.snd.fst, ())) ((v36.snd.snd.snd.fst.fst, v36.snd.snd.snd.fst.snd.fst, ())) (v36.snd.snd.snd.snd.fst) (v36.snd.snd.snd.snd.snd.fst) (v36.snd.snd.snd.snd.snd.snd.fst) with
       | none => none
       | some (Sum.inl v44) =>
        L84_2 n m (((v44.fst.fst.fst, v44.fst.fst.snd.fst, v44.fst.fst.snd.snd), ())) (((v44.snd.fst.fst.fst, v44.snd.fst.fst.snd), ())) ((v44.snd.snd.fst.fst, v44.snd.snd.fst.snd.fst, ())) ((v44.snd.snd.snd.fst.fst, v44.snd.snd.snd.fst.snd.fst, ())) (v44.snd.snd.snd.snd.fst) (v44.snd.snd.snd.snd.snd.fst) (v44.snd.snd.snd.snd.snd.snd.fst)
      else none
      else none)
     (match J84_15 n (((x20.fst.fst, x20.fst.snd.fst, x20.fst.snd.snd), ())) (((x21.fst.fst, x21.fst.snd), ())) ((x22.fst, x22.snd.fst, ())) ((x23.fst, x23.snd.fst, ())) ((0 : Int)) (x24) (x25) (x26) with
      | none => none
      | some (Sum.inl v45) =>
       match J84_16 n (((v45.fst.fst.fst, v45.fst.fst.snd.fst, v45.fst.fst.snd.snd), ())) (((v45.snd.fst.fst.fst, v45.snd.fst.fst.snd), ())) ((v45.snd.snd.fst.fst, v45.snd.snd.fst.snd.fst, ())) ((v45.snd.snd.snd.fst.fst, v45.snd.snd.snd.fst.snd.fst, ())) (v45.snd.snd.snd.snd.fst) (v45.snd.snd.snd.snd.snd.fst) (v45.snd.snd.snd.snd.snd.snd.fst) with
       | none => none
       | some (Sum.inl v46) =>
        L84_2 n m (((v46.fst.fst.fst, v46.fst.fst.snd.fst, v46.fst.fst.snd.snd), ())) (((v46.snd.fst.fst.fst, v46.snd.fst.fst.snd), ())) ((v46.snd.snd.fst.fst, v46.snd.snd.fst.snd.fst, ())) ((v46.snd.snd.snd.fst.fst, v46.snd.snd.snd.fst.snd.fst, ())) (v46.snd.snd.snd.snd.fst) (v46.snd.snd.snd.snd.snd.fst) (v46.snd.snd.snd.snd.snd.snd.fst))
     else none
     else none)
    (some (Sum.inl ((x22.fst, x22.snd.fst, ()), (x23.fst, x23.snd.fst, ()), ())))
def F84 (n : Nat) (a0 : List (List (Int × Int × Int)) × List (Int × Int × Bool) × List (Int × Int × Int)) (a1 : List Int × List (List Int)) : Option (rdens [.c true (.v false (.pair yP (.pair (.rs 67 yE) (.rs 59 yD)))), .c true (.v false yX)] [.c true (.o (.pair (.rs 3 (.int .i64)) (.rs 3 (.int .i64))))]) :=
  match L84_0 n n (((a0.fst, a0.snd.fst, a0.snd.snd), ())) (((a1.fst, a1.snd), ())) (([], [], ())) (([], [], ())) (a0.snd.snd) ((↑(List.length a0.snd.snd) : Int)) ((0 : Int)) with
  | none => none
  | some (Sum.inl v19) =>
   match L84_2 n n (((v19.fst.fst.fst, v19.fst.fst.snd.fst, v19.fst.fst.snd.snd), ())) (((v19.snd.fst.fst.fst, v19.snd.fst.fst.snd), ())) ((v19.snd.snd.fst.fst, v19.snd.snd.fst.snd.fst, ())) ((v19.snd.snd.snd.fst.fst, v19.snd.snd.snd.fst.snd.fst, ())) (v19.snd.fst.fst.snd) ((↑(List.length v19.snd.fst.fst.snd) : Int)) ((0 : Int)) with
   | none => none
   | some (Sum.inl v47) =>
    some ((v47.snd.fst.fst, v47.snd.fst.snd.fst), ())
noncomputable def con84 (n : Nat) : Con := conOf [.c true (.v false (.pair yP (.pair (.rs 67 yE) (.rs 59 yD)))), .c true (.v false yX)] [.c true (.o (.pair (.rs 3 (.int .i64)) (.rs 3 (.int .i64))))] fun x => F84 n x.1 x.2.1
noncomputable def tb84 (n : Nat) : Tb := ⟨tiOf Try.prog, conL [(121, con121 n), (112, con112 n)], n, [], 67, lpL [(0, ⟨[(2, (.b 95 [(.v false (.pair yP (.pair (.rs 67 yE) (.rs 59 yD))))])), (3, (.b 48 [(.v false yX)])), (4, (.b 28 [(.r 3 (.int .i64)), (.r 3 (.int .i64))])), (5, (.b 28 [(.r 3 (.int .i64)), (.r 3 (.int .i64))])), (14, (.c false (.v false (.rs 59 yD)))), (15, kI), (16, kI)], [((.exit 0), [(2, (.b 95 [(.v false (.pair yP (.pair (.rs 67 yE) (.rs 59 yD))))])), (3, (.b 48 [(.v false yX)])), (4, (.b 28 [(.r 3 (.int .i64)), (.r 3 (.int .i64))])), (5, (.b 28 [(.r 3 (.int .i64)), (.r 3 (.int .i64))]))])], fun m v => L84_0 n m v.1 v.2.1 v.2.2.1 v.2.2.2.1 v.2.2.2.2.1 v.2.2.2.2.2.1 v.2.2.2.2.2.2.1⟩), (2, ⟨[(2, (.b 95 [(.v false (.pair yP (.pair (.rs 67 yE) (.rs 59 yD))))])), (3, (.b 48 [(.v false yX)])), (4, (.b 28 [(.r 3 (.int .i64)), (.r 3 (.int .i64))])), (5, (.b 28 [(.r 3 (.int .i64)), (.r 3 (.int .i64))])), (38, (.c false (.v false (.rs 25 (.rs 3 (.int .i64)))))), (39, kI), (40, kI)], [((.exit 2), [(4, (.b 28 [(.r 3 (.int .i64)), (.r 3 (.int .i64))])), (5, (.b 28 [(.r 3 (.int .i64)), (.r 3 (.int .i64))]))])], fun m v => L84_2 n m v.1 v.2.1 v.2.2.1 v.2.2.2.1 v.2.2.2.2.1 v.2.2.2.2.2.1 v.2.2.2.2.2.2.1⟩)], ctL [(8, ⟨[(2, (.b 95 [(.v false (.pair yP (.pair (.rs 67 yE) (.rs 59 yD))))])), (3, (.b 48 [(.v false yX)])), (4, (.b 28 [(.r 3 (.int .i64)), (.r 3 (.int .i64))])), (5, (.b 28 [(.r 3 (.int .i64)), (.r 3 (.int .i64))])), (14, (.c false (.v false (.rs 59 yD)))), (15, kI), (16, kI)], [(.normal, [(2, (.b 95 [(.v false (.pair yP (.pair (.rs 67 yE) (.rs 59 yD))))])), (3, (.b 48 [(.v false yX)])), (4, (.b 28 [(.r 3 (.int .i64)), (.r 3 (.int .i64))])), (5, (.b 28 [(.r 3 (.int .i64)), (.r 3 (.int .i64))])), (14, (.c false (.v false (.rs 59 yD)))), (15, kI), (16, kI)])], fun v => J84_8 n v.1 v.2.1 v.2.2.1 v.2.2.2.1 v.2.2.2.2.1 v.2.2.2.2.2.1 v.2.2.2.2.2.2.1⟩), (15, ⟨[(2, (.b 95 [(.v false (.pair yP (.pair (.rs 67 yE) (.rs 59 yD))))])), (3, (.b 48 [(.v false yX)])), (4, (.b 28 [(.r 3 (.int .i64)), (.r 3 (.int .i64))])), (5, (.b 28 [(.r 3 (.int .i64)), (.r 3 (.int .i64))])), (12, kI), (38, (.c false (.v false (.rs 25 (.rs 3 (.int .i64)))))), (39, kI), (40, kI)], [(.normal, [(2, (.b 95 [(.v false (.pair yP (.pair (.rs 67 yE) (.rs 59 yD))))])), (3, (.b 48 [(.v false yX)])), (4, (.b 28 [(.r 3 (.int .i64)), (.r 3 (.int .i64))])), (5, (.b 28 [(.r 3 (.int .i64)), (.r 3 (.int .i64))])), (38, (.c false (.v false (.rs 25 (.rs 3 (.int .i64)))))), (39, kI), (40, kI)])], fun v => J84_15 n v.1 v.2.1 v.2.2.1 v.2.2.2.1 v.2.2.2.2.1 v.2.2.2.2.2.1 v.2.2.2.2.2.2.1 v.2.2.2.2.2.2.2.1⟩), (16, ⟨[(2, (.b 95 [(.v false (.pair yP (.pair (.rs 67 yE) (.rs 59 yD))))])), (3, (.b 48 [(.v false yX)])), (4, (.b 28 [(.r 3 (.int .i64)), (.r 3 (.int .i64))])), (5, (.b 28 [(.r 3 (.int .i64)), (.r 3 (.int .i64))])), (38, (.c false (.v false (.rs 25 (.rs 3 (.int .i64)))))), (39, kI), (40, kI)], [(.normal, [(2, (.b 95 [(.v false (.pair yP (.pair (.rs 67 yE) (.rs 59 yD))))])), (3, (.b 48 [(.v false yX)])), (4, (.b 28 [(.r 3 (.int .i64)), (.r 3 (.int .i64))])), (5, (.b 28 [(.r 3 (.int .i64)), (.r 3 (.int .i64))])), (38, (.c false (.v false (.rs 25 (.rs 3 (.int .i64)))))), (39, kI), (40, kI)])], fun v => J84_16 n v.1 v.2.1 v.2.2.1 v.2.2.2.1 v.2.2.2.2.1 v.2.2.2.2.2.1 v.2.2.2.2.2.2.1⟩)], [], true⟩
noncomputable def code84 : Code := Try.f84.body.getD .skip
theorem tb84_ok (n : Nat) : (tb84 n).ok Try.prog := tbOk mixed (⟨con121_ok n, ⟨con112_ok n, trivial⟩⟩)
theorem lp84_0 (n : Nat) : LpAt (tb84 n) (loopBody code84 0) 0 := lpAt rfl (fun _ => by kernel_rfl) (fun _ _ => by kernel_rfl)
theorem lp84_2 (n : Nat) : LpAt (tb84 n) (loopBody code84 2) 2 := lpAt rfl (fun _ => by kernel_rfl) (fun _ _ => by kernel_rfl)
theorem blocks84 : blocks code84 = [(0, .loop (loopBody code84 0)), (1, blockBody code84 1), (2, .loop (loopBody code84 2)), (3, blockBody code84 3)] := by kernel_rfl
theorem ct84_8 (n : Nat) : CtOk (tb84 n) (sec code84 6).2 ⟨[(2, (.b 95 [(.v false (.pair yP (.pair (.rs 67 yE) (.rs 59 yD))))])), (3, (.b 48 [(.v false yX)])), (4, (.b 28 [(.r 3 (.int .i64)), (.r 3 (.int .i64))])), (5, (.b 28 [(.r 3 (.int .i64)), (.r 3 (.int .i64))])), (14, (.c false (.v false (.rs 59 yD)))), (15, kI), (16, kI)], [(.normal, [(2, (.b 95 [(.v false (.pair yP (.pair (.rs 67 yE) (.rs 59 yD))))])), (3, (.b 48 [(.v false yX)])), (4, (.b 28 [(.r 3 (.int .i64)), (.r 3 (.int .i64))])), (5, (.b 28 [(.r 3 (.int .i64)), (.r 3 (.int .i64))])), (14, (.c false (.v false (.rs 59 yD)))), (15, kI), (16, kI)])], fun v => J84_8 n v.1 v.2.1 v.2.2.1 v.2.2.2.1 v.2.2.2.2.1 v.2.2.2.2.2.1 v.2.2.2.2.2.2.1⟩ := fun _ => by kernel_rfl
theorem ct84_16 (n : Nat) : CtOk (tb84 n) (sec code84 14).2 ⟨[(2, (.b 95 [(.v false (.pair yP (.pair (.rs 67 yE) (.rs 59 yD))))])), (3, (.b 48 [(.v false yX)])), (4, (.b 28 [(.r 3 (.int .i64)), (.r 3 (.int .i64))])), (5, (.b 28 [(.r 3 (.int .i64)), (.r 3 (.int .i64))])), (38, (.c false (.v false (.rs 25 (.rs 3 (.int .i64)))))), (39, kI), (40, kI)], [(.normal, [(2, (.b 95 [(.v false (.pair yP (.pair (.rs 67 yE) (.rs 59 yD))))])), (3, (.b 48 [(.v false yX)])), (4, (.b 28 [(.r 3 (.int .i64)), (.r 3 (.int .i64))])), (5, (.b 28 [(.r 3 (.int .i64)), (.r 3 (.int .i64))])), (38, (.c false (.v false (.rs 25 (.rs 3 (.int .i64)))))), (39, kI), (40, kI)])], fun v => J84_16 n v.1 v.2.1 v.2.2.1 v.2.2.2.1 v.2.2.2.2.1 v.2.2.2.2.2.1 v.2.2.2.2.2.2.1⟩ := fun _ => by kernel_rfl
theorem ct84_15 (n : Nat) : CtOk (tb84 n) (sec code84 17).2 ⟨[(2, (.b 95 [(.v false (.pair yP (.pair (.rs 67 yE) (.rs 59 yD))))])), (3, (.b 48 [(.v false yX)])), (4, (.b 28 [(.r 3 (.int .i64)), (.r 3 (.int .i64))])), (5, (.b 28 [(.r 3 (.int .i64)), (.r 3 (.int .i64))])), (12, kI), (38, (.c false (.v false (.rs 25 (.rs 3 (.int .i64)))))), (39, kI), (40, kI)], [(.normal, [(2, (.b 95 [(.v false (.pair yP (.pair (.rs 67 yE) (.rs 59 yD))))])), (3, (.b 48 [(.v false yX)])), (4, (.b 28 [(.r 3 (.int .i64)), (.r 3 (.int .i64))])), (5, (.b 28 [(.r 3 (.int .i64)), (.r 3 (.int .i64))])), (38, (.c false (.v false (.rs 25 (.rs 3 (.int .i64)))))), (39, kI), (40, kI)])], fun v => J84_15 n v.1 v.2.1 v.2.2.1 v.2.2.2.1 v.2.2.2.2.1 v.2.2.2.2.2.1 v.2.2.2.2.2.2.1 v.2.2.2.2.2.2.2.1⟩ := fun _ => by kernel_rfl
theorem secs84 : seconds code84 = [(some 1, (sec code84 0).2), (some 2, (sec code84 1).2), (some 9, (sec code84 2).2), (some 3, (sec code84 3).2), (none, (sec code84 4).2), (some 4, (sec code84 5).2), (some 8, (sec code84 6).2), (some 5, (sec code84 7).2), (none, (sec code84 8).2), (some 7, (sec code84 9).2), (some 17, (sec code84 10).2), (some 10, (sec code84 11).2), (none, (sec code84 12).2), (some 11, (sec code84 13).2), (some 16, (sec code84 14).2), (some 12, (sec code84 15).2), (some 13, (sec code84 16).2), (some 15, (sec code84 17).2), (none, (sec code84 18).2), (none, (sec code84 19).2)] := by kernel_rfl
theorem la84 (n : Nat) : LpAll (tb84 n) code84 := lpAll blocks84 (bl_loop (lp84_0 n) (bl_none rfl (bl_loop (lp84_2 n) (bl_none rfl (bl_nil))))) secs84 (cs_none rfl (cs_none rfl (cs_none rfl (cs_none rfl (cs_none rfl (cs_none rfl (cs_one rfl (ct84_8 n) (cs_none rfl (cs_none rfl (cs_none rfl (cs_none rfl (cs_none rfl (cs_none rfl (cs_none rfl (cs_one rfl (ct84_16 n) (cs_none rfl (cs_none rfl (cs_one rfl (ct84_15 n) (cs_none rfl (cs_none rfl (cs_nil))))))))))))))))))))) (by kernel_rfl)
theorem ev84 (n : Nat) (x : pdens [.c true (.v false (.pair yP (.pair (.rs 67 yE) (.rs 59 yD)))), .c true (.v false yX)]) : evSig (tb84 n) Try.f84 [.c true (.v false (.pair yP (.pair (.rs 67 yE) (.rs 59 yD)))), .c true (.v false yX)] [.c true (.o (.pair (.rs 3 (.int .i64)) (.rs 3 (.int .i64))))] x = F84 n x.1 x.2.1 := by kernel_rfl
theorem con84_ok (n : Nat) : Con.ok Try.prog 84 (con84 n) := conOf_ok (tb84_ok n) (body_la (by kernel_rfl : Try.f84.body = some code84) (la84 n)) Try.func84 (enters Try.func84 (by kernel_rfl) (by kernel_rfl)) rfl rfl (ev84 n)
/-! ### loop.example/fathomline/impl.ExecSeen -/
def F40 (n : Nat) (a0 : List (List (Int × Int × Int))) (a1 : List Int × List (List Int)) : Option (rdens [.c true (.v true yP), .c true (.v true yX)] [.c true (.o (.pair (.rs 3 (.int .i64)) (.rs 3 (.int .i64)))), .c false (.v true .bool)]) :=
  (F31 n (a0) ((a1.fst, a1.snd))).bind fun y1 =>
  cond (!y1.fst)
  (some (([], []), Bool.false, ()))
  ((F70 n (a0)).bind fun y2 =>
   (F84 n ((y2.fst.fst, y2.fst.snd.fst, y2.fst.snd.snd)) ((a1.fst, a1.snd))).bind fun y3 =>
   some ((y3.fst.fst, y3.fst.snd), Bool.true, ()))
noncomputable def con40 (n : Nat) : Con := conOf [.c true (.v false yP), .c true (.v false yX)] [.c true (.o (.pair (.rs 3 (.int .i64)) (.rs 3 (.int .i64)))), .c false (.v true .bool)] fun x => F40 n x.1 x.2.1
noncomputable def tb40 (n : Nat) : Tb := ⟨tiOf Try.prog, conL [(31, con31 n), (70, con70 n), (84, con84 n)], n, [], 15, lpL [], ctL [], [], true⟩
noncomputable def code40 : Code := Try.f40.body.getD .skip
theorem tb40_ok (n : Nat) : (tb40 n).ok Try.prog := tbOk mixed (⟨con31_ok n, ⟨con70_ok n, ⟨con84_ok n, trivial⟩⟩⟩)
theorem blocks40 : blocks code40 = [] := by kernel_rfl
theorem la40 (n : Nat) : LpAll (tb40 n) code40 := lpAll blocks40 (bl_nil) rfl (cs_no fun _ => rfl) (by kernel_rfl)
theorem ev40 (n : Nat) (x : pdens [.c true (.v true yP), .c true (.v true yX)]) : evSig (tb40 n) Try.f40 [.c true (.v true yP), .c true (.v true yX)] [.c true (.o (.pair (.rs 3 (.int .i64)) (.rs 3 (.int .i64)))), .c false (.v true .bool)] x = F40 n x.1 x.2.1 := by kernel_rfl
theorem con40_ok (n : Nat) : Con.ok Try.prog 40 (con40 n) := conOf_weak2 (A := .rs 57 (.rs 59 yD)) (B := .pair (.rs 3 (.int .i64)) (.rs 25 (.rs 3 (.int .i64)))) (T := .pair (.rs 3 (.int .i64)) (.rs 3 (.int .i64))) (F := F40 n) (tb40_ok n) (body_la (by kernel_rfl : Try.f40.body = some code40) (la40 n)) Try.func40 (enters Try.func40 (by kernel_rfl) (by kernel_rfl)) rfl rfl (fun x => ev40 n x)
end Go.Proofs.Ytdacfaincamliaa.Ev
