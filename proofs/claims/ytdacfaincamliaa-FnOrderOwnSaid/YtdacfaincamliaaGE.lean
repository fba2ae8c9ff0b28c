/- Plain functions that the loaded code comes to, and that it does. Conditions: none. -/
import Derived.Test.YtdacfaincamliaaGA
namespace Go.Proofs.Ytdacfaincamliaa.Ev
open Go Go.Proofs
/-! ### loop.example/fathomline/impl.ExecEvents -/
def J42_13 (n : Nat) (x14 : List (Int × Int × Bool)) (x15 : Int) (x16 : List (List (Int × Int × Int))) (x17 : Int) (x18 : Int) (x19 : List (Int × Int × Int)) (x20 : Int) (x21 : Int) : Option (odens [(.normal, [(3, (.c false (.r 67 yE))), (4, kI), (12, (.c false (.v false yP))), (13, kI), (14, kI), (19, (.c false (.v false (.rs 59 yD)))), (20, kI), (21, kI)])]) :=
    some (Sum.inl (x14, x15, x16, x17, x18, x19, x20, Go.IntKind.i64.wrap (x21 + (1 : Int)), ()))
def L42_2 (n : Nat) : Nat → List (Int × Int × Bool) → Int → List (List (Int × Int × Int)) → Int → Int → List (Int × Int × Int) → Int → Int → Option (odens [((.exit 2), [(3, (.c false (.r 67 yE))), (12, (.c false (.v false yP))), (13, kI), (14, kI)])])
  | 0, _, _, _, _, _, _, _, _ => none
  | m + 1, x6, x7, x8, x9, x10, x11, x12, x13 =>
    cond (Decidable.decide (x13 < x12))
    (if (0 : Int) ≤ x13 then
     if x13 < (↑x11.length : Int) then
     if (x6.length + [(x7, x13, Bool.false)].length) * (24 : Nat) ≤ (140737488355328 : Nat) then
     cond ((x11.getD x13.toNat ((0 : Int), (0 : Int), (0 : Int))).fst == (9 : Int))
     (if ((x6 ++ [(x7, x13, Bool.false)]).length + [(x7, x13, Bool.true)].length) * (24 : Nat) ≤ (140737488355328 : Nat) then
      match J42_13 n (x6 ++ [(x7, x13, Bool.false)] ++ [(x7, x13, Bool.true)]) (x7) (x8) (x9) (x10) (x11) (x12) (x13) with
      | none => none
      | some (Sum.inl v22) =>
       L42_2 n m (v22.fst) (v22.snd.fst) (v22.snd.snd.fst) (v22.snd.snd.snd.fst) (v22.snd.snd.snd.snd.fst) (v22.snd.snd.snd.snd.snd.fst) (v22.snd.snd.snd.snd.snd.snd.fst) (v22.snd.snd.snd.snd.snd.snd.snd.fst)
      else none)
     (match J42_13 n (x6 ++ [(x7, x13, Bool.false)]) (x7) (x8) (x9) (x10) (x11) (x12) (x13) with
      | none => none
      | some (Sum.inl v23) =>
       L42_2 n m (v23.fst) (v23.snd.fst) (v23.snd.snd.fst) (v23.snd.snd.snd.fst) (v23.snd.snd.snd.snd.fst) (v23.snd.snd.snd.snd.snd.fst) (v23.snd.snd.snd.snd.snd.snd.fst) (v23.snd.snd.snd.snd.snd.snd.snd.fst))
     else none
     else none
     else none)
    (some (Sum.inl (x6, x8, x9, x10, ())))
def L42_0 (n : Nat) : Nat → List (Int × Int × Bool) → List (List (Int × Int × Int)) → Int → Int → Option (odens [((.exit 0), [(3, (.c false (.r 67 yE)))])])
  | 0, _, _, _, _ => none
  | m + 1, x2, x3, x4, x5 =>
    cond (Decidable.decide (x5 < x4))
    (if (0 : Int) ≤ x5 then
     if x5 < (↑x3.length : Int) then
     match L42_2 n n (x2) (x5) (x3) (x4) (x5) (x3.getD x5.toNat []) ((↑(List.length (x3.getD x5.toNat [])) : Int)) ((0 : Int)) with
     | none => none
     | some (Sum.inl v24) =>
      L42_0 n m (v24.fst) (v24.snd.fst) (v24.snd.snd.fst) (Go.IntKind.i64.wrap (v24.snd.snd.snd.fst + (1 : Int)))
     else none
     else none)
    (some (Sum.inl (x2, ())))
def F42 (n : Nat) (a0 : List (List (Int × Int × Int))) : Option (rdens [.c true (.v false yP)] [.c false (.r 67 yE)]) :=
  (F69 n (a0)).bind fun y1 =>
  cond (!y1.fst)
  (some ([], ()))
  (match L42_0 n n ([]) (a0) ((↑a0.length : Int)) ((0 : Int)) with
   | none => none
   | some (Sum.inl v25) =>
    some (v25.fst, ()))
noncomputable def con42 (n : Nat) : Con := conOf [.c true (.v false yP)] [.c false (.r 67 yE)] fun x => F42 n x.1
noncomputable def tb42 (n : Nat) : Tb := ⟨tiOf Try.prog, conL [(69, con69 n)], n, [], 44, lpL [(2, ⟨[(3, (.c false (.r 67 yE))), (4, kI), (12, (.c false (.v false yP))), (13, kI), (14, kI), (19, (.c false (.v false (.rs 59 yD)))), (20, kI), (21, kI)], [((.exit 2), [(3, (.c false (.r 67 yE))), (12, (.c false (.v false yP))), (13, kI), (14, kI)])], fun m v => L42_2 n m v.1 v.2.1 v.2.2.1 v.2.2.2.1 v.2.2.2.2.1 v.2.2.2.2.2.1 v.2.2.2.2.2.2.1 v.2.2.2.2.2.2.2.1⟩), (0, ⟨[(3, (.c false (.r 67 yE))), (12, (.c false (.v false yP))), (13, kI), (14, kI)], [((.exit 0), [(3, (.c false (.r 67 yE)))])], fun m v => L42_0 n m v.1 v.2.1 v.2.2.1 v.2.2.2.1⟩)], ctL [(13, ⟨[(3, (.c false (.r 67 yE))), (4, kI), (12, (.c false (.v false yP))), (13, kI), (14, kI), (19, (.c false (.v false (.rs 59 yD)))), (20, kI), (21, kI)], [(.normal, [(3, (.c false (.r 67 yE))), (4, kI), (12, (.c false (.v false yP))), (13, kI), (14, kI), (19, (.c false (.v false (.rs 59 yD)))), (20, kI), (21, kI)])], fun v => J42_13 n v.1 v.2.1 v.2.2.1 v.2.2.2.1 v.2.2.2.2.1 v.2.2.2.2.2.1 v.2.2.2.2.2.2.1 v.2.2.2.2.2.2.2.1⟩)], [], true⟩
noncomputable def code42 : Code := Try.f42.body.getD .skip
theorem tb42_ok (n : Nat) : (tb42 n).ok Try.prog := tbOk mixed (⟨con69_ok n, trivial⟩)
theorem lp42_2 (n : Nat) : LpAt (tb42 n) (loopBody code42 2) 2 := lpAt rfl (fun _ => by kernel_rfl) (fun _ _ => by kernel_rfl)
theorem lp42_0 (n : Nat) : LpAt (tb42 n) (loopBody code42 0) 0 := lpAt rfl (fun _ => by kernel_rfl) (fun _ _ => by kernel_rfl)
theorem blocks42 : blocks code42 = [(0, .loop (loopBody code42 0)), (1, blockBody code42 1), (2, .loop (loopBody code42 2)), (3, blockBody code42 3)] := by kernel_rfl
theorem ct42_13 (n : Nat) : CtOk (tb42 n) (sec code42 14).2 ⟨[(3, (.c false (.r 67 yE))), (4, kI), (12, (.c false (.v false yP))), (13, kI), (14, kI), (19, (.c false (.v false (.rs 59 yD)))), (20, kI), (21, kI)], [(.normal, [(3, (.c false (.r 67 yE))), (4, kI), (12, (.c false (.v false yP))), (13, kI), (14, kI), (19, (.c false (.v false (.rs 59 yD)))), (20, kI), (21, kI)])], fun v => J42_13 n v.1 v.2.1 v.2.2.1 v.2.2.2.1 v.2.2.2.2.1 v.2.2.2.2.2.1 v.2.2.2.2.2.2.1 v.2.2.2.2.2.2.2.1⟩ := fun _ => by kernel_rfl
theorem secs42 : seconds code42 = [(some 1, (sec code42 0).2), (some 3, (sec code42 1).2), (none, (sec code42 2).2), (none, (sec code42 3).2), (some 4, (sec code42 4).2), (some 15, (sec code42 5).2), (some 5, (sec code42 6).2), (none, (sec code42 7).2), (some 6, (sec code42 8).2), (some 14, (sec code42 9).2), (some 7, (sec code42 10).2), (some 8, (sec code42 11).2), (none, (sec code42 12).2), (some 9, (sec code42 13).2), (some 13, (sec code42 14).2), (some 10, (sec code42 15).2), (some 11, (sec code42 16).2), (none, (sec code42 17).2), (none, (sec code42 18).2)] := by kernel_rfl
theorem la42 (n : Nat) : LpAll (tb42 n) code42 := lpAll blocks42 (bl_loop (lp42_0 n) (bl_none rfl (bl_loop (lp42_2 n) (bl_none rfl (bl_nil))))) secs42 (cs_none rfl (cs_none rfl (cs_none rfl (cs_none rfl (cs_none rfl (cs_none rfl (cs_none rfl (cs_none rfl (cs_none rfl (cs_none rfl (cs_none rfl (cs_none rfl (cs_none rfl (cs_none rfl (cs_one rfl (ct42_13 n) (cs_none rfl (cs_none rfl (cs_none rfl (cs_none rfl (cs_nil)))))))))))))))))))) (by kernel_rfl)
theorem ev42 (n : Nat) (x : pdens [.c true (.v false yP)]) : evSig (tb42 n) Try.f42 [.c true (.v false yP)] [.c false (.r 67 yE)] x = F42 n x.1 := by kernel_rfl
theorem con42_ok (n : Nat) : Con.ok Try.prog 42 (con42 n) := conOf_ok (tb42_ok n) (body_la (by kernel_rfl : Try.f42.body = some code42) (la42 n)) Try.func42 (enters Try.func42 (by kernel_rfl) (by kernel_rfl)) rfl rfl (ev42 n)
/-! ### loop.example/fathomline/spec.ExecEvents -/
def J65_9 (n : Nat) (x9 : List (List (Int × Int × Int)) × Unit) (x10 : List (Int × Int × Bool)) (x11 : Int) (x12 : Int) : Option (odens [(.normal, [(1, (.b 33 [(.v false yP)])), (3, (.c false (.r 67 yE))), (4, kI), (5, kI)])]) :=
    some (Sum.inl ((x9.fst, ()), x10, x11, Go.IntKind.i64.wrap (x12 + (1 : Int)), ()))
def L65_2 (n : Nat) : Nat → List (List (Int × Int × Int)) × Unit → List (Int × Int × Bool) → Int → Int → Option (odens [((.exit 2), [(1, (.b 33 [(.v false yP)])), (3, (.c false (.r 67 yE))), (4, kI)])])
  | 0, _, _, _, _ => none
  | m + 1, x5, x6, x7, x8 =>
    if (0 : Int) ≤ x7 then
    if x7 < (↑(List.length x5.fst) : Int) then
    cond (Decidable.decide (x8 < (↑(List.length (List.getD x5.fst x7.toNat [])) : Int)))
    (if (x6.length + [(x7, x8, Bool.false)].length) * (24 : Nat) ≤ (140737488355328 : Nat) then
     if (0 : Int) ≤ x7 then
     if x7 < (↑(List.length x5.fst) : Int) then
     if (0 : Int) ≤ x8 then
     if x8 < (↑(List.length (List.getD x5.fst x7.toNat [])) : Int) then
     cond ((List.getD (List.getD x5.fst x7.toNat []) x8.toNat ((0 : Int), (0 : Int), (0 : Int))).fst == (9 : Int))
     (if ((x6 ++ [(x7, x8, Bool.false)]).length + [(x7, x8, Bool.true)].length) * (24 : Nat) ≤ (140737488355328 : Nat) then
      match J65_9 n ((x5.fst, ())) (x6 ++ [(x7, x8, Bool.false)] ++ [(x7, x8, Bool.true)]) (x7) (x8) with
      | none => none
      | some (Sum.inl v13) =>
       L65_2 n m ((v13.fst.fst, ())) (v13.snd.fst) (v13.snd.snd.fst) (v13.snd.snd.snd.fst)
      else none)
     (match J65_9 n ((x5.fst, ())) (x6 ++ [(x7, x8, Bool.false)]) (x7) (x8) with
      | none => none
      | some (Sum.inl v14) =>
       L65_2 n m ((v14.fst.fst, ())) (v14.snd.fst) (v14.snd.snd.fst) (v14.snd.snd.snd.fst))
     else none
     else none
     else none
     else none
     else none)
    (some (Sum.inl ((x5.fst, ()), x6, x7, ())))
    else none
    else none
def L65_0 (n : Nat) : Nat → List (List (Int × Int × Int)) × Unit → List (Int × Int × Bool) → Int → Option (odens [((.exit 0), [(3, (.c false (.r 67 yE)))])])
  | 0, _, _, _ => none
  | m + 1, x2, x3, x4 =>
    cond (Decidable.decide (x4 < (↑(List.length x2.fst) : Int)))
    (match L65_2 n n ((x2.fst, ())) (x3) (x4) ((0 : Int)) with
     | none => none
     | some (Sum.inl v15) =>
      L65_0 n m ((v15.fst.fst, ())) (v15.snd.fst) (Go.IntKind.i64.wrap (v15.snd.snd.fst + (1 : Int))))
    (some (Sum.inl (x3, ())))
def F65 (n : Nat) (a0 : List (List (Int × Int × Int))) : Option (rdens [.c true (.v false yP)] [.c false (.r 67 yE)]) :=
  (F36 n (a0)).bind fun y1 =>
  cond (!y1.fst)
  (some ([], ()))
  (match L65_0 n n ((a0, ())) ([]) ((0 : Int)) with
   | none => none
   | some (Sum.inl v16) =>
    some (v16.fst, ()))
noncomputable def con65 (n : Nat) : Con := conOf [.c true (.v false yP)] [.c false (.r 67 yE)] fun x => F65 n x.1
noncomputable def tb65 (n : Nat) : Tb := ⟨tiOf Try.prog, conL [(36, con36 n)], n, [], 51, lpL [(2, ⟨[(1, (.b 33 [(.v false yP)])), (3, (.c false (.r 67 yE))), (4, kI), (5, kI)], [((.exit 2), [(1, (.b 33 [(.v false yP)])), (3, (.c false (.r 67 yE))), (4, kI)])], fun m v => L65_2 n m v.1 v.2.1 v.2.2.1 v.2.2.2.1⟩), (0, ⟨[(1, (.b 33 [(.v false yP)])), (3, (.c false (.r 67 yE))), (4, kI)], [((.exit 0), [(3, (.c false (.r 67 yE)))])], fun m v => L65_0 n m v.1 v.2.1 v.2.2.1⟩)], ctL [(9, ⟨[(1, (.b 33 [(.v false yP)])), (3, (.c false (.r 67 yE))), (4, kI), (5, kI)], [(.normal, [(1, (.b 33 [(.v false yP)])), (3, (.c false (.r 67 yE))), (4, kI), (5, kI)])], fun v => J65_9 n v.1 v.2.1 v.2.2.1 v.2.2.2.1⟩)], [], true⟩
noncomputable def code65 : Code := Try.f65.body.getD .skip
theorem tb65_ok (n : Nat) : (tb65 n).ok Try.prog := tbOk mixed (⟨con36_ok n, trivial⟩)
theorem lp65_2 (n : Nat) : LpAt (tb65 n) (loopBody code65 2) 2 := lpAt rfl (fun _ => by kernel_rfl) (fun _ _ => by kernel_rfl)
theorem lp65_0 (n : Nat) : LpAt (tb65 n) (loopBody code65 0) 0 := lpAt rfl (fun _ => by kernel_rfl) (fun _ _ => by kernel_rfl)
theorem blocks65 : blocks code65 = [(0, .loop (loopBody code65 0)), (1, blockBody code65 1), (2, .loop (loopBody code65 2)), (3, blockBody code65 3)] := by kernel_rfl
theorem ct65_9 (n : Nat) : CtOk (tb65 n) (sec code65 13).2 ⟨[(1, (.b 33 [(.v false yP)])), (3, (.c false (.r 67 yE))), (4, kI), (5, kI)], [(.normal, [(1, (.b 33 [(.v false yP)])), (3, (.c false (.r 67 yE))), (4, kI), (5, kI)])], fun v => J65_9 n v.1 v.2.1 v.2.2.1 v.2.2.2.1⟩ := fun _ => by kernel_rfl
theorem secs65 : seconds code65 = [(some 1, (sec code65 0).2), (some 2, (sec code65 1).2), (some 4, (sec code65 2).2), (none, (sec code65 3).2), (none, (sec code65 4).2), (some 13, (sec code65 5).2), (some 5, (sec code65 6).2), (some 7, (sec code65 7).2), (none, (sec code65 8).2), (some 6, (sec code65 9).2), (some 8, (sec code65 10).2), (some 10, (sec code65 11).2), (none, (sec code65 12).2), (some 9, (sec code65 13).2), (some 11, (sec code65 14).2), (none, (sec code65 15).2), (none, (sec code65 16).2)] := by kernel_rfl
theorem la65 (n : Nat) : LpAll (tb65 n) code65 := lpAll blocks65 (bl_loop (lp65_0 n) (bl_none rfl (bl_loop (lp65_2 n) (bl_none rfl (bl_nil))))) secs65 (cs_none rfl (cs_none rfl (cs_none rfl (cs_none rfl (cs_none rfl (cs_none rfl (cs_none rfl (cs_none rfl (cs_none rfl (cs_none rfl (cs_none rfl (cs_none rfl (cs_none rfl (cs_one rfl (ct65_9 n) (cs_none rfl (cs_none rfl (cs_none rfl (cs_nil)))))))))))))))))) (by kernel_rfl)
theorem ev65 (n : Nat) (x : pdens [.c true (.v false yP)]) : evSig (tb65 n) Try.f65 [.c true (.v false yP)] [.c false (.r 67 yE)] x = F65 n x.1 := by kernel_rfl
theorem con65_ok (n : Nat) : Con.ok Try.prog 65 (con65 n) := conOf_ok (tb65_ok n) (body_la (by kernel_rfl : Try.f65.body = some code65) (la65 n)) Try.func65 (enters Try.func65 (by kernel_rfl) (by kernel_rfl)) rfl rfl (ev65 n)
end Go.Proofs.Ytdacfaincamliaa.Ev
