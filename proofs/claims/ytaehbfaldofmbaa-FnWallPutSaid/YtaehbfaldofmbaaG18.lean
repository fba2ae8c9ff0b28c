/- Plain functions that the loaded code comes to, and that it does. Conditions: none. -/
import Derived.Test.YtaehbfaldofmbaaGP
import Derived.Test.YtaehbfaldofmbaaGR
namespace Go.Proofs.Ytaehbfaldofmbaa.Ev
open Go Go.Proofs
/-! ### loop.example/fathomline/laws.FnWallPut -/
def J18_16 (n : Nat) (x25 : List (List (Int × Int × Int)) × Unit) (x26 : List Int) (x27 : List (List (Int × Int × Int)) × Unit) (x28 : Int) (x29 : Int) (x30 : Int) (x31 : Int) (x32 : Int) : Option (odens [(.normal, [(3, (.b 44 [(.v true (.rs 50 (.rs 52 (.pair (.int .i64) (.pair (.int .i64) (.int .i64))))))])), (4, (.c false (.r 3 (.int .i64)))), (7, (.b 44 [(.v true (.rs 50 (.rs 52 (.pair (.int .i64) (.pair (.int .i64) (.int .i64))))))])), (9, (.c false (.v true (.int .i64)))), (10, (.c false (.v true (.int .i64)))), (11, (.c false (.v true (.int .i64)))), (12, (.c false (.v true (.int .i64)))), (13, (.c false (.v true (.int .i64))))])]) :=
    some (Sum.inl ((x25.fst, ()), x26, (x27.fst, ()), x28, x29, x30, x31, Go.IntKind.i64.wrap (x32 + (1 : Int)), ()))
def L18_2 (n : Nat) : Nat → List (List (Int × Int × Int)) × Unit → List Int → List (List (Int × Int × Int)) × Unit → Int → Int → Int → Int → Int → Option (odens [(.ret, [(2, (.c false (.v true .bool)))]), ((.exit 2), [(3, (.b 44 [(.v true (.rs 50 (.rs 52 (.pair (.int .i64) (.pair (.int .i64) (.int .i64))))))])), (4, (.c false (.r 3 (.int .i64)))), (7, (.b 44 [(.v true (.rs 50 (.rs 52 (.pair (.int .i64) (.pair (.int .i64) (.int .i64))))))])), (9, (.c false (.v true (.int .i64)))), (10, (.c false (.v true (.int .i64)))), (11, (.c false (.v true (.int .i64)))), (12, (.c false (.v true (.int .i64))))])])
  | 0, _, _, _, _, _, _, _, _ => none
  | m + 1, x17, x18, x19, x20, x21, x22, x23, x24 =>
    if (0 : Int) ≤ x22 then
    if x22 < (↑(List.length x19.fst) : Int) then
    cond (Decidable.decide (x24 < (↑(List.length (List.getD x19.fst x22.toNat [])) : Int)))
    (if (0 : Int) ≤ x22 then
     if x22 < (↑(List.length x17.fst) : Int) then
     cond (Decidable.decide (x23 < (↑(List.length (List.getD x17.fst x22.toNat [])) : Int)))
     (if (0 : Int) ≤ x22 then
      if x22 < (↑(List.length x19.fst) : Int) then
      if (0 : Int) ≤ x24 then
      if x24 < (↑(List.length (List.getD x19.fst x22.toNat [])) : Int) then
      if (0 : Int) ≤ x22 then
      if x22 < (↑(List.length x17.fst) : Int) then
      if (0 : Int) ≤ x23 then
      if x23 < (↑(List.length (List.getD x17.fst x22.toNat [])) : Int) then
      cond ((List.getD (List.getD x19.fst x22.toNat []) x24.toNat ((0 : Int), (0 : Int), (0 : Int))).fst == (List.getD (List.getD x17.fst x22.toNat []) x23.toNat ((0 : Int), (0 : Int), (0 : Int))).fst && ((List.getD (List.getD x19.fst x22.toNat []) x24.toNat ((0 : Int), (0 : Int), (0 : Int))).snd.fst == (List.getD (List.getD x17.fst x22.toNat []) x23.toNat ((0 : Int), (0 : Int), (0 : Int))).snd.fst && (List.getD (List.getD x19.fst x22.toNat []) x24.toNat ((0 : Int), (0 : Int), (0 : Int))).snd.snd == (List.getD (List.getD x17.fst x22.toNat []) x23.toNat ((0 : Int), (0 : Int), (0 : Int))).snd.snd))
      (match J18_16 n ((x17.fst, ())) (x18) ((x19.fst, ())) (x20) (x21) (x22) (Go.IntKind.i64.wrap (x23 + (1 : Int))) (x24) with
       | none => none
       | some (Sum.inl v33) =>
        L18_2 n m ((v33.fst.fst, ())) (v33.snd.fst) ((v33.snd.snd.fst.fst, ())) (v33.snd.snd.snd.fst) (v33.snd.snd.snd.snd.fst) (v33.snd.snd.snd.snd.snd.fst) (v33.snd.snd.snd.snd.snd.snd.fst) (v33.snd.snd.snd.snd.snd.snd.snd.fst))
      (if (0 : Int) ≤ x22 then
       if x22 < (↑(List.length x19.fst) : Int) then
       if (0 : Int) ≤ x24 then
       if x24 < (↑(List.length (List.getD x19.fst x22.toNat [])) : Int) then
       cond ((List.getD (List.getD x19.fst x22.toNat []) x24.toNat ((0 : Int), (0 : Int), (0 : Int))).fst != (4 : Int))
       (some (Sum.inl (Bool.false, ())))
       (match J18_16 n ((x17.fst, ())) (x18) ((x19.fst, ())) (x20) (x21) (x22) (x23) (x24) with
        | none => none
        | some (Sum.inl v34) =>
         L18_2 n m ((v34.fst.fst, ())) (v34.snd.fst) ((v34.snd.snd.fst.fst, ())) (v34.snd.snd.snd.fst) (v34.snd.snd.snd.snd.fst) (v34.snd.snd.snd.snd.snd.fst) (v34.snd.snd.snd.snd.snd.snd.fst) (v34.snd.snd.snd.snd.snd.snd.snd.fst))
       else none
       else none
       else none
       else none)
      else none
      else none
      else none
      else none
      else none
      else none
      else none
      else none)
     (if (0 : Int) ≤ x22 then
      if x22 < (↑(List.length x19.fst) : Int) then
      if (0 : Int) ≤ x24 then
      if x24 < (↑(List.length (List.getD x19.fst x22.toNat [])) : Int) then
      cond ((List.getD (List.getD x19.fst x22.toNat []) x24.toNat ((0 : Int), (0 : Int), (0 : Int))).fst != (4 : Int))
      (some (Sum.inl (Bool.false, ())))
      (match J18_16 n ((x17.fst, ())) (x18) ((x19.fst, ())) (x20) (x21) (x22) (x23) (x24) with
       | none => none
       | some (Sum.inl v35) =>
        L18_2 n m ((v35.fst.fst, ())) (v35.snd.fst) ((v35.snd.snd.fst.fst, ())) (v35.snd.snd.snd.fst) (v35.snd.snd.snd.snd.fst) (v35.snd.snd.snd.snd.snd.fst) (v35.snd.snd.snd.snd.snd.snd.fst) (v35.snd.snd.snd.snd.snd.snd.snd.fst))
      else none
      else none
      else none
      else none)
     else none
     else none)
    (some (Sum.inr (Sum.inl ((x17.fst, ()), x18, (x19.fst, ()), x20, x21, x22, x23, ()))))
    else none
    else none
def L18_0 (n : Nat) : Nat → List (List (Int × Int × Int)) × Unit → List Int → List (List (Int × Int × Int)) × Unit → Int → Int → Int → Option (odens [(.ret, [(2, (.c false (.v true .bool)))]), ((.exit 0), [(3, (.b 44 [(.v true (.rs 50 (.rs 52 (.pair (.int .i64) (.pair (.int .i64) (.int .i64))))))])), (4, (.c false (.r 3 (.int .i64)))), (7, (.b 44 [(.v true (.rs 50 (.rs 52 (.pair (.int .i64) (.pair (.int .i64) (.int .i64))))))])), (9, (.c false (.v true (.int .i64)))), (10, (.c false (.v true (.int .i64))))])])
  | 0, _, _, _, _, _, _ => none
  | m + 1, x11, x12, x13, x14, x15, x16 =>
    cond (Decidable.decide (x16 < (↑(List.length x11.fst) : Int)))
    (match L18_2 n n ((x11.fst, ())) (x12) ((x13.fst, ())) (x14) (x15) (x16) ((0 : Int)) ((0 : Int)) with
     | none => none
     | some (Sum.inl v36) =>
      some (Sum.inl (v36.fst, ()))
     | some (Sum.inr (Sum.inl v37)) =>
      if (0 : Int) ≤ v37.snd.snd.snd.snd.snd.fst then
      if v37.snd.snd.snd.snd.snd.fst < (↑(List.length v37.fst.fst) : Int) then
      cond (v37.snd.snd.snd.snd.snd.snd.fst != (↑(List.length (List.getD v37.fst.fst (Int.toNat v37.snd.snd.snd.snd.snd.fst) [])) : Int))
      (some (Sum.inl (Bool.false, ())))
      (if (0 : Int) ≤ v37.snd.snd.snd.snd.snd.fst then
       if v37.snd.snd.snd.snd.snd.fst < (↑(List.length v37.fst.fst) : Int) then
       if (0 : Int) ≤ v37.snd.snd.snd.snd.snd.fst then
       if v37.snd.snd.snd.snd.snd.fst < (↑(List.length v37.snd.snd.fst.fst) : Int) then
       L18_0 n m ((v37.fst.fst, ())) (v37.snd.fst) ((v37.snd.snd.fst.fst, ())) (Go.IntKind.i64.wrap (v37.snd.snd.snd.fst + (↑(List.length (List.getD v37.fst.fst (Int.toNat v37.snd.snd.snd.snd.snd.fst) [])) : Int))) (Go.IntKind.i64.wrap (v37.snd.snd.snd.snd.fst + (↑(List.length (List.getD v37.snd.snd.fst.fst (Int.toNat v37.snd.snd.snd.snd.snd.fst) [])) : Int))) (Go.IntKind.i64.wrap (v37.snd.snd.snd.snd.snd.fst + (1 : Int)))
       else none
       else none
       else none
       else none)
      else none
      else none)
    (some (Sum.inr (Sum.inl ((x11.fst, ()), x12, (x13.fst, ()), x14, x15, ()))))
def J18_8 (n : Nat) (x8 : List (List (Int × Int × Int)) × Unit) (x9 : List Int) (x10 : List (List (Int × Int × Int)) × Unit) : Option (odens [(.ret, [(2, (.c false (.v true .bool)))])]) :=
    match L18_0 n n ((x8.fst, ())) (x9) ((x10.fst, ())) ((0 : Int)) ((0 : Int)) ((0 : Int)) with
    | none => none
    | some (Sum.inl v38) =>
     some (Sum.inl (v38.fst, ()))
    | some (Sum.inr (Sum.inl v39)) =>
     cond (v39.snd.snd.snd.snd.fst == Go.IntKind.i64.wrap (v39.snd.snd.snd.fst + (↑(List.length v39.snd.fst) : Int)))
     ((F43 n (v39.snd.snd.fst.fst)).bind fun y40 =>
      (F43 n (v39.fst.fst)).bind fun y41 =>
      some (Sum.inl (y40.fst == y41.fst, ())))
     (some (Sum.inl (Bool.false, ())))
def F18 (n : Nat) (a0 : List Int) : Option (rdens [.c false (.v true (.rs 5 (.int .u8)))] [.c false (.v true .bool)]) :=
  cond (Decidable.decide ((↑a0.length : Int) > (1048576 : Int)))
  (some (Bool.true, ()))
  ((F58 n (a0)).bind fun y1 =>
   (F59 n (y1.fst) (y1.snd.fst)).bind fun y2 =>
   (F60 n (y1.fst) (y1.snd.fst)).bind fun y3 =>
   cond (!y3.snd.fst == y2.snd.fst)
   (cond (y3.snd.fst == y2.snd.fst)
    ((F61 n (y3.fst) (y2.fst)).bind fun y4 =>
     some (y4.fst, ()))
    (some (Bool.false, ())))
   ((F61 n (y3.fst) (y2.fst)).bind fun y5 =>
    cond (!y5.fst)
    (cond (y3.snd.fst == y2.snd.fst)
     ((F61 n (y3.fst) (y2.fst)).bind fun y6 =>
      some (y6.fst, ()))
     (some (Bool.false, ())))
    (cond (!y3.snd.fst)
     (cond (y3.snd.fst == y2.snd.fst)
      ((F61 n (y3.fst) (y2.fst)).bind fun y7 =>
       some (y7.fst, ()))
      (some (Bool.false, ())))
     (match J18_8 n ((y1.fst, ())) (y1.snd.fst) ((y3.fst, ())) with
      | none => none
      | some (Sum.inl v42) =>
       some (v42.fst, ())))))
noncomputable def con18 (n : Nat) : Con := conOf [.c false (.v true (.rs 5 (.int .u8)))] [.c false (.v true .bool)] fun x => F18 n x.1
noncomputable def tb18 (n : Nat) : Tb := ⟨tiOf Try.prog, conL [(58, con58 n), (59, con59 n), (60, con60 n), (61, con61 n), (43, con43 n)], n, [], 148, lpL [(2, ⟨[(3, (.b 44 [(.v true (.rs 50 (.rs 52 (.pair (.int .i64) (.pair (.int .i64) (.int .i64))))))])), (4, (.c false (.r 3 (.int .i64)))), (7, (.b 44 [(.v true (.rs 50 (.rs 52 (.pair (.int .i64) (.pair (.int .i64) (.int .i64))))))])), (9, (.c false (.v true (.int .i64)))), (10, (.c false (.v true (.int .i64)))), (11, (.c false (.v true (.int .i64)))), (12, (.c false (.v true (.int .i64)))), (13, (.c false (.v true (.int .i64))))], [(.ret, [(2, (.c false (.v true .bool)))]), ((.exit 2), [(3, (.b 44 [(.v true (.rs 50 (.rs 52 (.pair (.int .i64) (.pair (.int .i64) (.int .i64))))))])), (4, (.c false (.r 3 (.int .i64)))), (7, (.b 44 [(.v true (.rs 50 (.rs 52 (.pair (.int .i64) (.pair (.int .i64) (.int .i64))))))])), (9, (.c false (.v true (.int .i64)))), (10, (.c false (.v true (.int .i64)))), (11, (.c false (.v true (.int .i64)))), (12, (.c false (.v true (.int .i64))))])], fun m v => L18_2 n m v.1 v.2.1 v.2.2.1 v.2.2.2.1 v.2.2.2.2.1 v.2.2.2.2.2.1 v.2.2.2.2.2.2.1 v.2.2.2.2.2.2.2.1⟩), (0, ⟨[(3, (.b 44 [(.v true (.rs 50 (.rs 52 (.pair (.int .i64) (.pair (.int .i64) (.int .i64))))))])), (4, (.c false (.r 3 (.int .i64)))), (7, (.b 44 [(.v true (.rs 50 (.rs 52 (.pair (.int .i64) (.pair (.int .i64) (.int .i64))))))])), (9, (.c false (.v true (.int .i64)))), (10, (.c false (.v true (.int .i64)))), (11, (.c false (.v true (.int .i64))))], [(.ret, [(2, (.c false (.v true .bool)))]), ((.exit 0), [(3, (.b 44 [(.v true (.rs 50 (.rs 52 (.pair (.int .i64) (.pair (.int .i64) (.int .i64))))))])), (4, (.c false (.r 3 (.int .i64)))), (7, (.b 44 [(.v true (.rs 50 (.rs 52 (.pair (.int .i64) (.pair (.int .i64) (.int .i64))))))])), (9, (.c false (.v true (.int .i64)))), (10, (.c false (.v true (.int .i64))))])], fun m v => L18_0 n m v.1 v.2.1 v.2.2.1 v.2.2.2.1 v.2.2.2.2.1 v.2.2.2.2.2.1⟩)], ctL [(16, ⟨[(3, (.b 44 [(.v true (.rs 50 (.rs 52 (.pair (.int .i64) (.pair (.int .i64) (.int .i64))))))])), (4, (.c false (.r 3 (.int .i64)))), (7, (.b 44 [(.v true (.rs 50 (.rs 52 (.pair (.int .i64) (.pair (.int .i64) (.int .i64))))))])), (9, (.c false (.v true (.int .i64)))), (10, (.c false (.v true (.int .i64)))), (11, (.c false (.v true (.int .i64)))), (12, (.c false (.v true (.int .i64)))), (13, (.c false (.v true (.int .i64))))], [(.normal, [(3, (.b 44 [(.v true (.rs 50 (.rs 52 (.pair (.int .i64) (.pair (.int .i64) (.int .i64))))))])), (4, (.c false (.r 3 (.int .i64)))), (7, (.b 44 [(.v true (.rs 50 (.rs 52 (.pair (.int .i64) (.pair (.int .i64) (.int .i64))))))])), (9, (.c false (.v true (.int .i64)))), (10, (.c false (.v true (.int .i64)))), (11, (.c false (.v true (.int .i64)))), (12, (.c false (.v true (.int .i64)))), (13, (.c false (.v true (.int .i64))))])], fun v => J18_16 n v.1 v.2.1 v.2.2.1 v.2.2.2.1 v.2.2.2.2.1 v.2.2.2.2.2.1 v.2.2.2.2.2.2.1 v.2.2.2.2.2.2.2.1⟩), (8, ⟨[(3, (.b 44 [(.v true (.rs 50 (.rs 52 (.pair (.int .i64) (.pair (.int .i64) (.int .i64))))))])), (4, (.c false (.r 3 (.int .i64)))), (7, (.b 44 [(.v true (.rs 50 (.rs 52 (.pair (.int .i64) (.pair (.int .i64) (.int .i64))))))]))], [(.ret, [(2, (.c false (.v true .bool)))])], fun v => J18_8 n v.1 v.2.1 v.2.2.1⟩)], []⟩
noncomputable def code18 : Code := Try.f18.body.getD .skip
theorem tb18_ok (n : Nat) : (tb18 n).ok Try.prog := tbOk mixed (⟨con58_ok n, ⟨con59_ok n, ⟨con60_ok n, ⟨con61_ok n, ⟨con43_ok n, trivial⟩⟩⟩⟩⟩)
theorem lp18_2 (n : Nat) : LpAt (tb18 n) (loopBody code18 2) 2 := lpAt rfl (fun _ => by kernel_rfl) (fun _ _ => by kernel_rfl)
theorem lp18_0 (n : Nat) : LpAt (tb18 n) (loopBody code18 0) 0 := lpAt rfl (fun _ => by kernel_rfl) (fun _ _ => by kernel_rfl)
theorem blocks18 : blocks code18 = [(0, .loop (loopBody code18 0)), (1, blockBody code18 1), (2, .loop (loopBody code18 2)), (3, blockBody code18 3)] := by kernel_rfl
theorem ct18_8 (n : Nat) : CtOk (tb18 n) (sec code18 7).2 ⟨[(3, (.b 44 [(.v true (.rs 50 (.rs 52 (.pair (.int .i64) (.pair (.int .i64) (.int .i64))))))])), (4, (.c false (.r 3 (.int .i64)))), (7, (.b 44 [(.v true (.rs 50 (.rs 52 (.pair (.int .i64) (.pair (.int .i64) (.int .i64))))))]))], [(.ret, [(2, (.c false (.v true .bool)))])], fun v => J18_8 n v.1 v.2.1 v.2.2.1⟩ := fun _ => by kernel_rfl
theorem ct18_16 (n : Nat) : CtOk (tb18 n) (sec code18 22).2 ⟨[(3, (.b 44 [(.v true (.rs 50 (.rs 52 (.pair (.int .i64) (.pair (.int .i64) (.int .i64))))))])), (4, (.c false (.r 3 (.int .i64)))), (7, (.b 44 [(.v true (.rs 50 (.rs 52 (.pair (.int .i64) (.pair (.int .i64) (.int .i64))))))])), (9, (.c false (.v true (.int .i64)))), (10, (.c false (.v true (.int .i64)))), (11, (.c false (.v true (.int .i64)))), (12, (.c false (.v true (.int .i64)))), (13, (.c false (.v true (.int .i64))))], [(.normal, [(3, (.b 44 [(.v true (.rs 50 (.rs 52 (.pair (.int .i64) (.pair (.int .i64) (.int .i64))))))])), (4, (.c false (.r 3 (.int .i64)))), (7, (.b 44 [(.v true (.rs 50 (.rs 52 (.pair (.int .i64) (.pair (.int .i64) (.int .i64))))))])), (9, (.c false (.v true (.int .i64)))), (10, (.c false (.v true (.int .i64)))), (11, (.c false (.v true (.int .i64)))), (12, (.c false (.v true (.int .i64)))), (13, (.c false (.v true (.int .i64))))])], fun v => J18_16 n v.1 v.2.1 v.2.2.1 v.2.2.2.1 v.2.2.2.2.1 v.2.2.2.2.2.1 v.2.2.2.2.2.2.1 v.2.2.2.2.2.2.2.1⟩ := fun _ => by kernel_rfl
theorem secs18 : seconds code18 = [(some 1, (sec code18 0).2), (some 3, (sec code18 1).2), (none, (sec code18 2).2), (none, (sec code18 3).2), (some 4, (sec code18 4).2), (some 5, (sec code18 5).2), (some 6, (sec code18 6).2), (some 8, (sec code18 7).2), (none, (sec code18 8).2), (none, (sec code18 9).2), (some 9, (sec code18 10).2), (some 10, (sec code18 11).2), (some 25, (sec code18 12).2), (some 11, (sec code18 13).2), (some 13, (sec code18 14).2), (none, (sec code18 15).2), (some 12, (sec code18 16).2), (some 14, (sec code18 17).2), (some 21, (sec code18 18).2), (some 15, (sec code18 19).2), (some 17, (sec code18 20).2), (none, (sec code18 21).2), (some 16, (sec code18 22).2), (none, (sec code18 23).2), (none, (sec code18 24).2), (none, (sec code18 25).2), (some 23, (sec code18 26).2), (none, (sec code18 27).2), (none, (sec code18 28).2), (some 24, (sec code18 29).2), (none, (sec code18 30).2)] := by kernel_rfl
theorem la18 (n : Nat) : LpAll (tb18 n) code18 := lpAll blocks18 (bl_loop (lp18_0 n) (bl_none rfl (bl_loop (lp18_2 n) (bl_none rfl (bl_nil))))) secs18 (cs_none rfl (cs_none rfl (cs_none rfl (cs_none rfl (cs_none rfl (cs_none rfl (cs_none rfl (cs_one rfl (ct18_8 n) (cs_none rfl (cs_none rfl (cs_none rfl (cs_none rfl (cs_none rfl (cs_none rfl (cs_none rfl (cs_none rfl (cs_none rfl (cs_none rfl (cs_none rfl (cs_none rfl (cs_none rfl (cs_none rfl (cs_one rfl (ct18_16 n) (cs_none rfl (cs_none rfl (cs_none rfl (cs_none rfl (cs_none rfl (cs_none rfl (cs_none rfl (cs_none rfl (cs_nil)))))))))))))))))))))))))))))))) (by kernel_rfl)
theorem ev18 (n : Nat) (x : pdens [.c false (.v true (.rs 5 (.int .u8)))]) : evSig (tb18 n) Try.f18 [.c false (.v true (.rs 5 (.int .u8)))] [.c false (.v true .bool)] x = F18 n x.1 := by kernel_rfl
theorem con18_ok (n : Nat) : Con.ok Try.prog 18 (con18 n) := conOf_ok (tb18_ok n) (body_la (by kernel_rfl : Try.f18.body = some code18) (la18 n)) Try.func18 (enters Try.func18 (by kernel_rfl) (by kernel_rfl)) rfl rfl (ev18 n)
end Go.Proofs.Ytaehbfaldofmbaa.Ev
