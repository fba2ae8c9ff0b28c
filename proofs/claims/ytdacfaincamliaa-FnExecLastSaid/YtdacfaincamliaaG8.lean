/- Plain functions that the loaded code comes to, and that it does. Conditions: none. -/
import Derived.Test.YtdacfaincamliaaGN
import Derived.Test.YtdacfaincamliaaGD
import Derived.Test.YtdacfaincamliaaGL
namespace Go.Proofs.Ytdacfaincamliaa.Ev
open Go Go.Proofs
/-! ### loop.example/fathomline/laws.FnExecLast -/
def J8_11 (n : Nat) (x17 : List (List (Int × Int × Int)) × Unit) (x18 : (List Int × List (List Int)) × Unit) (x19 : List Int × List Int × Unit) (x20 : List (Int × Int × Bool)) (x21 : Int) : Option (odens [(.normal, [(3, (.b 33 [(.v true (.rs 57 (.rs 59 (.pair (.int .i64) (.pair (.int .i64) (.int .i64))))))])), (4, (.b 48 [(.v true (.pair (.rs 3 (.int .i64)) (.rs 25 (.rs 3 (.int .i64)))))])), (7, (.b 28 [(.r 3 (.int .i64)), (.r 3 (.int .i64))])), (9, (.c false (.r 67 (.pair (.int .i64) (.pair (.int .i64) .bool))))), (10, (.c false (.v true (.int .i64))))])]) :=
    some (Sum.inl ((x17.fst, ()), ((x18.fst.fst, x18.fst.snd), ()), (x19.fst, x19.snd.fst, ()), x20, Go.IntKind.i64.wrap (x21 + (1 : Int)), ()))
def L8_0 (n : Nat) : Nat → List (List (Int × Int × Int)) × Unit → (List Int × List (List Int)) × Unit → List Int × List Int × Unit → List (Int × Int × Bool) → Int → Option (odens [(.ret, [(2, (.c false (.v true .bool)))]), ((.exit 0), [])])
  | 0, _, _, _, _, _ => none
  | m + 1, x12, x13, x14, x15, x16 =>
    cond (Decidable.decide (x16 < (3 : Int)))
    (if (0 : Int) ≤ x16 then
     if x16 < (↑(List.length x13.fst.snd) : Int) then
     cond ((↑(List.length (List.getD x13.fst.snd x16.toNat [])) : Int) == (0 : Int))
     (if (0 : Int) ≤ x16 then
      if x16 < (↑(List.length x14.snd.fst) : Int) then
      if x16.toNat < List.length x14.snd.fst then
      cond (List.getD x14.snd.fst x16.toNat (0 : Int) != (0 : Int))
      (some (Sum.inl (Bool.false, ())))
      (match J8_11 n ((x12.fst, ())) (((x13.fst.fst, x13.fst.snd), ())) ((x14.fst, x14.snd.fst, ())) (x15) (x16) with
       | none => none
       | some (Sum.inl v22) =>
        L8_0 n m ((v22.fst.fst, ())) (((v22.snd.fst.fst.fst, v22.snd.fst.fst.snd), ())) ((v22.snd.snd.fst.fst, v22.snd.snd.fst.snd.fst, ())) (v22.snd.snd.snd.fst) (v22.snd.snd.snd.snd.fst))
      else none
      else none
      else none)
     (if (0 : Int) ≤ x16 then
      if x16 < (↑(List.length x13.fst.snd) : Int) then
      if (0 : Int) ≤ Go.IntKind.i64.wrap ((↑(List.length (List.getD x13.fst.snd x16.toNat [])) : Int) - (1 : Int)) then
      if Go.IntKind.i64.wrap ((↑(List.length (List.getD x13.fst.snd x16.toNat [])) : Int) - (1 : Int)) < (↑(List.length (List.getD x13.fst.snd x16.toNat [])) : Int) then
      if (0 : Int) ≤ List.getD (List.getD x13.fst.snd x16.toNat []) (Go.IntKind.i64.wrap ((↑(List.length (List.getD x13.fst.snd x16.toNat [])) : Int) - (1 : Int))).toNat (0 : Int) then
      if List.getD (List.getD x13.fst.snd x16.toNat []) (Go.IntKind.i64.wrap ((↑(List.length (List.getD x13.fst.snd x16.toNat [])) : Int) - (1 : Int))).toNat (0 : Int) < (↑x15.length : Int) then
      if Int.toNat (List.getD (List.getD x13.fst.snd x16.toNat []) (Go.IntKind.i64.wrap ((↑(List.length (List.getD x13.fst.snd x16.toNat [])) : Int) - (1 : Int))).toNat (0 : Int)) < x15.length then
      if (0 : Int) ≤ (x15.getD (Int.toNat (List.getD (List.getD x13.fst.snd x16.toNat []) (Go.IntKind.i64.wrap ((↑(List.length (List.getD x13.fst.snd x16.toNat [])) : Int) - (1 : Int))).toNat (0 : Int))) ((0 : Int), (0 : Int), Bool.false)).fst then
      if (x15.getD (Int.toNat (List.getD (List.getD x13.fst.snd x16.toNat []) (Go.IntKind.i64.wrap ((↑(List.length (List.getD x13.fst.snd x16.toNat [])) : Int) - (1 : Int))).toNat (0 : Int))) ((0 : Int), (0 : Int), Bool.false)).fst < (↑(List.length x12.fst) : Int) then
      if (0 : Int) ≤ (x15.getD (Int.toNat (List.getD (List.getD x13.fst.snd x16.toNat []) (Go.IntKind.i64.wrap ((↑(List.length (List.getD x13.fst.snd x16.toNat [])) : Int) - (1 : Int))).toNat (0 : Int))) ((0 : Int), (0 : Int), Bool.false)).snd.fst then
      if (x15.getD (Int.toNat (List.getD (List.getD x13.fst.snd x16.toNat []) (Go.IntKind.i64.wrap ((↑(List.length (List.getD x13.fst.snd x16.toNat [])) : Int) - (1 : Int))).toNat (0 : Int))) ((0 : Int), (0 : Int), Bool.false)).snd.fst < (↑(List.length (List.getD x12.fst (Int.toNat (x15.getD (Int.toNat (List.getD (List.getD x13.fst.snd x16.toNat []) (Go.IntKind.i64.wrap ((↑(List.length (List.getD x13.fst.snd x16.toNat [])) : Int) - (1 : Int))).toNat (0 : Int))) ((0 : Int), (0 : Int), Bool.false)).fst) [])) : Int) then
      cond ((List.getD (List.getD x12.fst (Int.toNat (x15.getD (Int.toNat (List.getD (List.getD x13.fst.snd x16.toNat []) (Go.IntKind.i64.wrap ((↑(List.length (List.getD x13.fst.snd x16.toNat [])) : Int) - (1 : Int))).toNat (0 : Int))) ((0 : Int), (0 : Int), Bool.false)).fst) []) (Int.toNat (x15.getD (Int.toNat (List.getD (List.getD x13.fst.snd x16.toNat []) (Go.IntKind.i64.wrap ((↑(List.length (List.getD x13.fst.snd x16.toNat [])) : Int) - (1 : Int))).toNat (0 : Int))) ((0 : Int), (0 : Int), Bool.false)).snd.fst) ((0 : Int), (0 : Int), (0 : Int))).fst != (3 : Int))
      (if (0 : Int) ≤ x16 then
       if x16 < (↑(List.length x14.snd.fst) : Int) then
       if x16.toNat < List.length x14.snd.fst then
       cond ((List.getD (List.getD x12.fst (Int.toNat (x15.getD (Int.toNat (List.getD (List.getD x13.fst.snd x16.toNat []) (Go.IntKind.i64.wrap ((↑(List.length (List.getD x13.fst.snd x16.toNat [])) : Int) - (1 : Int))).toNat (0 : Int))) ((0 : Int), (0 : Int), Bool.false)).fst) []) (Int.toNat (x15.getD (Int.toNat (List.getD (List.getD x13.fst.snd x16.toNat []) (Go.IntKind.i64.wrap ((↑(List.length (List.getD x13.fst.snd x16.toNat [])) : Int) - (1 : Int))).toNat (0 : Int))) ((0 : Int), (0 : Int), Bool.false)).snd.fst) ((0 : Int), (0 : Int), (0 : Int))).snd.snd != List.getD x14.snd.fst x16.toNat (0 : Int))
       (some (Sum.inl (Bool.false, ())))
       (match J8_11 n ((x12.fst, ())) (((x13.fst.fst, x13.fst.snd), ())) ((x14.fst, x14.snd.fst, ())) (x15) (x16) with
        | none => none
        | some (Sum.inl v23) =>
         L8_0 n m ((v23.fst.fst, ())) (((v23.snd.fst.fst.fst, v23.snd.fst.fst.snd), ())) ((v23.snd.snd.fst.fst, v23.snd.snd.fst.snd.fst, ())) (v23.snd.snd.snd.fst) (v23.snd.snd.snd.snd.fst))
       else none
       else none
       else none)
      (match J8_11 n ((x12.fst, ())) (((x13.fst.fst, x13.fst.snd), ())) ((x14.fst, x14.snd.fst, ())) (x15) (x16) with
       | none => none
       | some (Sum.inl v24) =>
        L8_0 n m ((v24.fst.fst, ())) (((v24.snd.fst.fst.fst, v24.snd.fst.fst.snd), ())) ((v24.snd.snd.fst.fst, v24.snd.snd.fst.snd.fst, ())) (v24.snd.snd.snd.fst) (v24.snd.snd.snd.snd.fst))
      else none
      else none
      else none
      else none
      else none
      else none
      else none
      else none
      else none
      else none
      else none)
     else none
     else none)
    (some (Sum.inr (Sum.inl (()))))
def J8_8 (n : Nat) (x8 : List (List (Int × Int × Int)) × Unit) (x9 : (List Int × List (List Int)) × Unit) (x10 : List Int × List Int × Unit) : Option (odens [(.ret, [(2, (.c false (.v true .bool)))])]) :=
    (F42 n (x8.fst)).bind fun y11 =>
    match L8_0 n n ((x8.fst, ())) (((x9.fst.fst, x9.fst.snd), ())) ((x10.fst, x10.snd.fst, ())) (y11.fst) ((0 : Int)) with
    | none => none
    | some (Sum.inl v25) =>
     some (Sum.inl (v25.fst, ()))
    | some (Sum.inr (Sum.inl v26)) =>
     some (Sum.inl (Bool.true, ()))
def F8 (n : Nat) (a0 : List Int) : Option (rdens [.c false (.v true (.rs 5 (.int .u8)))] [.c false (.v true .bool)]) :=
  cond (Decidable.decide ((↑a0.length : Int) > (1048576 : Int)))
  (some (Bool.true, ()))
  ((F38 n (a0)).bind fun y1 =>
   (F39 n (y1.fst) ((y1.snd.fst.fst, y1.snd.fst.snd))).bind fun y2 =>
   (F40 n (y1.fst) ((y1.snd.fst.fst, y1.snd.fst.snd))).bind fun y3 =>
   cond (!y3.snd.fst == y2.snd.fst)
   (cond (y3.snd.fst == y2.snd.fst)
    ((F41 n ((y3.fst.fst, y3.fst.snd)) ((y2.fst.fst, y2.fst.snd))).bind fun y4 =>
     some (y4.fst, ()))
    (some (Bool.false, ())))
   ((F41 n ((y3.fst.fst, y3.fst.snd)) ((y2.fst.fst, y2.fst.snd))).bind fun y5 =>
    cond (!y5.fst)
    (cond (y3.snd.fst == y2.snd.fst)
     ((F41 n ((y3.fst.fst, y3.fst.snd)) ((y2.fst.fst, y2.fst.snd))).bind fun y6 =>
      some (y6.fst, ()))
     (some (Bool.false, ())))
    (cond (!y3.snd.fst)
     (cond (y3.snd.fst == y2.snd.fst)
      ((F41 n ((y3.fst.fst, y3.fst.snd)) ((y2.fst.fst, y2.fst.snd))).bind fun y7 =>
       some (y7.fst, ()))
      (some (Bool.false, ())))
     (match J8_8 n ((y1.fst, ())) (((y1.snd.fst.fst, y1.snd.fst.snd), ())) ((y3.fst.fst, y3.fst.snd, ())) with
      | none => none
      | some (Sum.inl v27) =>
       some (v27.fst, ())))))
noncomputable def con8 (n : Nat) : Con := conOf [.c false (.v true (.rs 5 (.int .u8)))] [.c false (.v true .bool)] fun x => F8 n x.1
noncomputable def tb8 (n : Nat) : Tb := ⟨tiOf Try.prog, conL [(38, con38 n), (39, con39 n), (40, con40 n), (41, con41 n), (42, con42 n)], n, [], 110, lpL [(0, ⟨[(3, (.b 33 [(.v true (.rs 57 (.rs 59 (.pair (.int .i64) (.pair (.int .i64) (.int .i64))))))])), (4, (.b 48 [(.v true (.pair (.rs 3 (.int .i64)) (.rs 25 (.rs 3 (.int .i64)))))])), (7, (.b 28 [(.r 3 (.int .i64)), (.r 3 (.int .i64))])), (9, (.c false (.r 67 (.pair (.int .i64) (.pair (.int .i64) .bool))))), (10, (.c false (.v true (.int .i64))))], [(.ret, [(2, (.c false (.v true .bool)))]), ((.exit 0), [])], fun m v => L8_0 n m v.1 v.2.1 v.2.2.1 v.2.2.2.1 v.2.2.2.2.1⟩)], ctL [(11, ⟨[(3, (.b 33 [(.v true (.rs 57 (.rs 59 (.pair (.int .i64) (.pair (.int .i64) (.int .i64))))))])), (4, (.b 48 [(.v true (.pair (.rs 3 (.int .i64)) (.rs 25 (.rs 3 (.int .i64)))))])), (7, (.b 28 [(.r 3 (.int .i64)), (.r 3 (.int .i64))])), (9, (.c false (.r 67 (.pair (.int .i64) (.pair (.int .i64) .bool))))), (10, (.c false (.v true (.int .i64))))], [(.normal, [(3, (.b 33 [(.v true (.rs 57 (.rs 59 (.pair (.int .i64) (.pair (.int .i64) (.int .i64))))))])), (4, (.b 48 [(.v true (.pair (.rs 3 (.int .i64)) (.rs 25 (.rs 3 (.int .i64)))))])), (7, (.b 28 [(.r 3 (.int .i64)), (.r 3 (.int .i64))])), (9, (.c false (.r 67 (.pair (.int .i64) (.pair (.int .i64) .bool))))), (10, (.c false (.v true (.int .i64))))])], fun v => J8_11 n v.1 v.2.1 v.2.2.1 v.2.2.2.1 v.2.2.2.2.1⟩), (8, ⟨[(3, (.b 33 [(.v true (.rs 57 (.rs 59 (.pair (.int .i64) (.pair (.int .i64) (.int .i64))))))])), (4, (.b 48 [(.v true (.pair (.rs 3 (.int .i64)) (.rs 25 (.rs 3 (.int .i64)))))])), (7, (.b 28 [(.r 3 (.int .i64)), (.r 3 (.int .i64))]))], [(.ret, [(2, (.c false (.v true .bool)))])], fun v => J8_8 n v.1 v.2.1 v.2.2.1⟩)], [], true⟩
noncomputable def code8 : Code := Try.f8.body.getD .skip
theorem tb8_ok (n : Nat) : (tb8 n).ok Try.prog := tbOk mixed (⟨con38_ok n, ⟨con39_ok n, ⟨con40_ok n, ⟨con41_ok n, ⟨con42_ok n, trivial⟩⟩⟩⟩⟩)
theorem lp8_0 (n : Nat) : LpAt (tb8 n) (loopBody code8 0) 0 := lpAt rfl (fun _ => by kernel_rfl) (fun _ _ => by kernel_rfl)
theorem blocks8 : blocks code8 = [(0, .loop (loopBody code8 0)), (1, blockBody code8 1)] := by kernel_rfl
theorem ct8_8 (n : Nat) : CtOk (tb8 n) (sec code8 7).2 ⟨[(3, (.b 33 [(.v true (.rs 57 (.rs 59 (.pair (.int .i64) (.pair (.int .i64) (.int .i64))))))])), (4, (.b 48 [(.v true (.pair (.rs 3 (.int .i64)) (.rs 25 (.rs 3 (.int .i64)))))])), (7, (.b 28 [(.r 3 (.int .i64)), (.r 3 (.int .i64))]))], [(.ret, [(2, (.c false (.v true .bool)))])], fun v => J8_8 n v.1 v.2.1 v.2.2.1⟩ := fun _ => by kernel_rfl
theorem ct8_11 (n : Nat) : CtOk (tb8 n) (sec code8 15).2 ⟨[(3, (.b 33 [(.v true (.rs 57 (.rs 59 (.pair (.int .i64) (.pair (.int .i64) (.int .i64))))))])), (4, (.b 48 [(.v true (.pair (.rs 3 (.int .i64)) (.rs 25 (.rs 3 (.int .i64)))))])), (7, (.b 28 [(.r 3 (.int .i64)), (.r 3 (.int .i64))])), (9, (.c false (.r 67 (.pair (.int .i64) (.pair (.int .i64) .bool))))), (10, (.c false (.v true (.int .i64))))], [(.normal, [(3, (.b 33 [(.v true (.rs 57 (.rs 59 (.pair (.int .i64) (.pair (.int .i64) (.int .i64))))))])), (4, (.b 48 [(.v true (.pair (.rs 3 (.int .i64)) (.rs 25 (.rs 3 (.int .i64)))))])), (7, (.b 28 [(.r 3 (.int .i64)), (.r 3 (.int .i64))])), (9, (.c false (.r 67 (.pair (.int .i64) (.pair (.int .i64) .bool))))), (10, (.c false (.v true (.int .i64))))])], fun v => J8_11 n v.1 v.2.1 v.2.2.1 v.2.2.2.1 v.2.2.2.2.1⟩ := fun _ => by kernel_rfl
theorem secs8 : seconds code8 = [(some 1, (sec code8 0).2), (some 3, (sec code8 1).2), (none, (sec code8 2).2), (none, (sec code8 3).2), (some 4, (sec code8 4).2), (some 5, (sec code8 5).2), (some 6, (sec code8 6).2), (some 8, (sec code8 7).2), (none, (sec code8 8).2), (none, (sec code8 9).2), (some 9, (sec code8 10).2), (some 20, (sec code8 11).2), (some 10, (sec code8 12).2), (some 12, (sec code8 13).2), (none, (sec code8 14).2), (some 11, (sec code8 15).2), (some 13, (sec code8 16).2), (some 16, (sec code8 17).2), (none, (sec code8 18).2), (none, (sec code8 19).2), (none, (sec code8 20).2), (none, (sec code8 21).2), (some 17, (sec code8 22).2), (some 18, (sec code8 23).2), (none, (sec code8 24).2), (none, (sec code8 25).2), (none, (sec code8 26).2)] := by kernel_rfl
theorem la8 (n : Nat) : LpAll (tb8 n) code8 := lpAll blocks8 (bl_loop (lp8_0 n) (bl_none rfl (bl_nil))) secs8 (cs_none rfl (cs_none rfl (cs_none rfl (cs_none rfl (cs_none rfl (cs_none rfl (cs_none rfl (cs_one rfl (ct8_8 n) (cs_none rfl (cs_none rfl (cs_none rfl (cs_none rfl (cs_none rfl (cs_none rfl (cs_none rfl (cs_one rfl (ct8_11 n) (cs_none rfl (cs_none rfl (cs_none rfl (cs_none rfl (cs_none rfl (cs_none rfl (cs_none rfl (cs_none rfl (cs_none rfl (cs_none rfl (cs_none rfl (cs_nil)))))))))))))))))))))))))))) (by kernel_rfl)
theorem ev8 (n : Nat) (x : pdens [.c false (.v true (.rs 5 (.int .u8)))]) : evSig (tb8 n) Try.f8 [.c false (.v true (.rs 5 (.int .u8)))] [.c false (.v true .bool)] x = F8 n x.1 := by kernel_rfl
theorem con8_ok (n : Nat) : Con.ok Try.prog 8 (con8 n) := conOf_ok (tb8_ok n) (body_la (by kernel_rfl : Try.f8.body = some code8) (la8 n)) Try.func8 (enters Try.func8 (by kernel_rfl) (by kernel_rfl)) rfl rfl (ev8 n)
end Go.Proofs.Ytdacfaincamliaa.Ev
