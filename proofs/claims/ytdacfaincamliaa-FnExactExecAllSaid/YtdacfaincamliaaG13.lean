/- Plain functions that the loaded code comes to, and that it does. Conditions: none. -/
import Derived.Test.YtdacfaincamliaaGC
import Derived.Test.YtdacfaincamliaaGX
import Derived.Test.YtdacfaincamliaaGK
import Derived.Test.YtdacfaincamliaaGO
import Derived.Test.YtdacfaincamliaaGT
namespace Go.Proofs.Ytdacfaincamliaa.Ev
open Go Go.Proofs
/-! ### loop.example/fathomline/laws.eqExecS -/
def L49_0 (n : Nat) : Nat → List (List Int × List (List Int)) → List (List Int × List (List Int)) → Int → Option (odens [(.ret, [(4, kB)]), ((.exit 0), [])])
  | 0, _, _, _ => none
  | m + 1, x1, x2, x3 =>
    cond (Decidable.decide (x3 < (↑x1.length : Int)))
    (if (0 : Int) ≤ x3 then
     if x3 < (↑x1.length : Int) then
     if (0 : Int) ≤ x3 then
     if x3 < (↑x2.length : Int) then
     (F32 n (((x1.getD x3.toNat ([], [])).fst, (x1.getD x3.toNat ([], [])).snd)) (((x2.getD x3.toNat ([], [])).fst, (x2.getD x3.toNat ([], [])).snd))).bind fun y4 =>
     cond (!y4.fst)
     (some (Sum.inl (Bool.false, ())))
     (L49_0 n m (x1) (x2) (Go.IntKind.i64.wrap (x3 + (1 : Int))))
     else none
     else none
     else none
     else none)
    (some (Sum.inr (Sum.inl (()))))
def F49 (n : Nat) (a0 : List (List Int × List (List Int))) (a1 : List (List Int × List (List Int))) : Option (rdens [.c false (.v false (.rs 48 yX)), .c false (.v false (.rs 48 yX))] [.c false (.v true .bool)]) :=
  cond ((↑a0.length : Int) != (↑a1.length : Int))
  (some (Bool.false, ()))
  (match L49_0 n n (a0) (a1) ((0 : Int)) with
   | none => none
   | some (Sum.inl v5) =>
    some (v5.fst, ())
   | some (Sum.inr (Sum.inl v6)) =>
    some (Bool.true, ()))
noncomputable def con49 (n : Nat) : Con := conOf [.c false (.v false (.rs 48 yX)), .c false (.v false (.rs 48 yX))] [.c false (.v true .bool)] fun x => F49 n x.1 x.2.1
noncomputable def tb49 (n : Nat) : Tb := ⟨tiOf Try.prog, conL [(32, con32 n)], n, [], 27, lpL [(0, ⟨[(0, (.c false (.v false (.rs 48 yX)))), (1, (.c false (.v false (.rs 48 yX)))), (5, kI)], [(.ret, [(4, kB)]), ((.exit 0), [])], fun m v => L49_0 n m v.1 v.2.1 v.2.2.1⟩)], ctL [], [], true⟩
noncomputable def code49 : Code := Try.f49.body.getD .skip
theorem tb49_ok (n : Nat) : (tb49 n).ok Try.prog := tbOk mixed (⟨con32_ok n, trivial⟩)
theorem lp49_0 (n : Nat) : LpAt (tb49 n) (loopBody code49 0) 0 := lpAt rfl (fun _ => by kernel_rfl) (fun _ _ => by kernel_rfl)
theorem blocks49 : blocks code49 = [(0, .loop (loopBody code49 0)), (1, blockBody code49 1)] := by kernel_rfl
theorem la49 (n : Nat) : LpAll (tb49 n) code49 := lpAll blocks49 (bl_loop (lp49_0 n) (bl_none rfl (bl_nil))) rfl (cs_no fun _ => rfl) (by kernel_rfl)
theorem ev49 (n : Nat) (x : pdens [.c false (.v false (.rs 48 yX)), .c false (.v false (.rs 48 yX))]) : evSig (tb49 n) Try.f49 [.c false (.v false (.rs 48 yX)), .c false (.v false (.rs 48 yX))] [.c false (.v true .bool)] x = F49 n x.1 x.2.1 := by kernel_rfl
theorem con49_ok (n : Nat) : Con.ok Try.prog 49 (con49 n) := conOf_ok (tb49_ok n) (body_la (by kernel_rfl : Try.f49.body = some code49) (la49 n)) Try.func49 (enters Try.func49 (by kernel_rfl) (by kernel_rfl)) rfl rfl (ev49 n)
/-! ### loop.example/fathomline/laws.markExecS -/
def L50_0 (n : Nat) : Nat → List (List Int × List (List Int)) → Int → Int → Option (odens [((.exit 0), [(0, (.c false (.o (.rs 48 yX)))), (1, kI)])])
  | 0, _, _, _ => none
  | m + 1, x1, x2, x3 =>
    cond (Decidable.decide (x3 < (↑x1.length : Int)))
    (if (0 : Int) ≤ x3 then
     if x3 < (↑x1.length : Int) then
     if x3.toNat < x1.length then
     if (List.take x3.toNat x1).length = x3.toNat then
     (F23 n ((x1.getD x3.toNat ([], [])).fst) (x2)).bind fun y4 =>
     if (0 : Int) ≤ x3 then
     if x3 < (↑((List.take x3.toNat x1).length + (1 : Nat) + (List.drop (x3.toNat + (1 : Nat)) x1).length) : Int) then
     if (List.take x3.toNat x1).length = x3.toNat then
     if (List.take x3.toNat x1).length = x3.toNat then
     (F90 n ((x1.getD x3.toNat ([], [])).snd) (y4.fst)).bind fun y5 =>
     L50_0 n m (List.take x3.toNat x1 ++ (y4.snd.fst, y5.snd.fst) :: List.drop (x3.toNat + (1 : Nat)) x1) (y5.fst) (Go.IntKind.i64.wrap (x3 + (1 : Int)))
     else none
     else none
     else none
     else none
     else none
     else none
     else none
     else none)
    (some (Sum.inl (x1, x2, ())))
def F50 (n : Nat) (a0 : List (List Int × List (List Int))) (a1 : Int) : Option (rdens [.c false (.o (.rs 48 yX)), .c false (.v true (.int .i64))] [.c false (.v true (.int .i64))]) :=
  match L50_0 n n (a0) (a1) ((0 : Int)) with
  | none => none
  | some (Sum.inl v6) =>
   some (v6.snd.fst, v6.fst, ())
noncomputable def con50 (n : Nat) : Con := conOf [.c false (.o (.rs 48 yX)), .c false (.v true (.int .i64))] [.c false (.v true (.int .i64))] fun x => F50 n x.1 x.2.1
noncomputable def tb50 (n : Nat) : Tb := ⟨tiOf Try.prog, conL [(23, con23 n), (90, con90 n)], n, [], 27, lpL [(0, ⟨[(0, (.c false (.o (.rs 48 yX)))), (1, kI), (5, kI)], [((.exit 0), [(0, (.c false (.o (.rs 48 yX)))), (1, kI)])], fun m v => L50_0 n m v.1 v.2.1 v.2.2.1⟩)], ctL [], [0], true⟩
noncomputable def code50 : Code := Try.f50.body.getD .skip
theorem tb50_ok (n : Nat) : (tb50 n).ok Try.prog := tbOk mixed (⟨con23_ok n, ⟨con90_ok n, trivial⟩⟩)
theorem lp50_0 (n : Nat) : LpAt (tb50 n) (loopBody code50 0) 0 := lpAt rfl (fun _ => by kernel_rfl) (fun _ _ => by kernel_rfl)
theorem blocks50 : blocks code50 = [(0, .loop (loopBody code50 0)), (1, blockBody code50 1)] := by kernel_rfl
theorem la50 (n : Nat) : LpAll (tb50 n) code50 := lpAll blocks50 (bl_loop (lp50_0 n) (bl_none rfl (bl_nil))) rfl (cs_no fun _ => rfl) (by kernel_rfl)
theorem ev50 (n : Nat) (x : pdens [.c false (.o (.rs 48 yX)), .c false (.v true (.int .i64))]) : evSig (tb50 n) Try.f50 [.c false (.o (.rs 48 yX)), .c false (.v true (.int .i64))] [.c false (.v true (.int .i64))] x = F50 n x.1 x.2.1 := by kernel_rfl
theorem con50_ok (n : Nat) : Con.ok Try.prog 50 (con50 n) := conOf_ok (tb50_ok n) (body_la (by kernel_rfl : Try.f50.body = some code50) (la50 n)) Try.func50 (enters Try.func50 (by kernel_rfl) (by kernel_rfl)) rfl rfl (ev50 n)
/-! ### loop.example/fathomline/laws.heldIntSS -/
def L91_0 (n : Nat) : Nat → List (List Int) → Int → Int → Option (odens [(.ret, [(4, kI)]), ((.exit 0), [(1, kI)])])
  | 0, _, _, _ => none
  | m + 1, x1, x2, x3 =>
    cond (Decidable.decide (x3 < (↑x1.length : Int)))
    (if (0 : Int) ≤ x3 then
     if x3 < (↑x1.length : Int) then
     (F61 n (x1.getD x3.toNat []) (x2)).bind fun y4 =>
     cond (Decidable.decide (y4.fst < (0 : Int)))
     (some (Sum.inl ((-1 : Int), ())))
     (L91_0 n m (x1) (y4.fst) (Go.IntKind.i64.wrap (x3 + (1 : Int))))
     else none
     else none)
    (some (Sum.inr (Sum.inl (x2, ()))))
def F91 (n : Nat) (a0 : List (List Int)) (a1 : Int) : Option (rdens [.c false (.v false (.rs 25 (.rs 3 (.int .i64)))), .c false (.v true (.int .i64))] [.c false (.v true (.int .i64))]) :=
  match L91_0 n n (a0) (a1) ((0 : Int)) with
  | none => none
  | some (Sum.inl v5) =>
   some (v5.fst, ())
  | some (Sum.inr (Sum.inl v6)) =>
   some (v6.fst, ())
noncomputable def con91 (n : Nat) : Con := conOf [.c false (.v false (.rs 25 (.rs 3 (.int .i64)))), .c false (.v true (.int .i64))] [.c false (.v true (.int .i64))] fun x => F91 n x.1 x.2.1
noncomputable def tb91 (n : Nat) : Tb := ⟨tiOf Try.prog, conL [(61, con61 n)], n, [], 21, lpL [(0, ⟨[(0, (.c false (.v false (.rs 25 (.rs 3 (.int .i64)))))), (1, kI), (5, kI)], [(.ret, [(4, kI)]), ((.exit 0), [(1, kI)])], fun m v => L91_0 n m v.1 v.2.1 v.2.2.1⟩)], ctL [], [], true⟩
noncomputable def code91 : Code := Try.f91.body.getD .skip
theorem tb91_ok (n : Nat) : (tb91 n).ok Try.prog := tbOk mixed (⟨con61_ok n, trivial⟩)
theorem lp91_0 (n : Nat) : LpAt (tb91 n) (loopBody code91 0) 0 := lpAt rfl (fun _ => by kernel_rfl) (fun _ _ => by kernel_rfl)
theorem blocks91 : blocks code91 = [(0, .loop (loopBody code91 0)), (1, blockBody code91 1)] := by kernel_rfl
theorem la91 (n : Nat) : LpAll (tb91 n) code91 := lpAll blocks91 (bl_loop (lp91_0 n) (bl_none rfl (bl_nil))) rfl (cs_no fun _ => rfl) (by kernel_rfl)
theorem ev91 (n : Nat) (x : pdens [.c false (.v false (.rs 25 (.rs 3 (.int .i64)))), .c false (.v true (.int .i64))]) : evSig (tb91 n) Try.f91 [.c false (.v false (.rs 25 (.rs 3 (.int .i64)))), .c false (.v true (.int .i64))] [.c false (.v true (.int .i64))] x = F91 n x.1 x.2.1 := by kernel_rfl
theorem con91_ok (n : Nat) : Con.ok Try.prog 91 (con91 n) := conOf_ok (tb91_ok n) (body_la (by kernel_rfl : Try.f91.body = some code91) (la91 n)) Try.func91 (enters Try.func91 (by kernel_rfl) (by kernel_rfl)) rfl rfl (ev91 n)
/-! ### loop.example/fathomline/laws.heldExecS -/
def L51_0 (n : Nat) : Nat → List (List Int × List (List Int)) → Int → Int → Option (odens [(.ret, [(4, kI)]), ((.exit 0), [(1, kI)])])
  | 0, _, _, _ => none
  | m + 1, x1, x2, x3 =>
    cond (Decidable.decide (x3 < (↑x1.length : Int)))
    (if (0 : Int) ≤ x3 then
     if x3 < (↑x1.length : Int) then
     (F61 n ((x1.getD x3.toNat ([], [])).fst) (x2)).bind fun y4 =>
     cond (Decidable.decide (y4.fst < (0 : Int)))
     (some (Sum.inl ((-1 : Int), ())))
     (if (0 : Int) ≤ x3 then
      if x3 < (↑x1.length : Int) then
      (F91 n ((x1.getD x3.toNat ([], [])).snd) (y4.fst)).bind fun y5 =>
      cond (Decidable.decide (y5.fst < (0 : Int)))
      (some (Sum.inl ((-1 : Int), ())))
      (L51_0 n m (x1) (y5.fst) (Go.IntKind.i64.wrap (x3 + (1 : Int))))
      else none
      else none)
     else none
     else none)
    (some (Sum.inr (Sum.inl (x2, ()))))
def F51 (n : Nat) (a0 : List (List Int × List (List Int))) (a1 : Int) : Option (rdens [.c false (.v false (.rs 48 yX)), .c false (.v true (.int .i64))] [.c false (.v true (.int .i64))]) :=
  match L51_0 n n (a0) (a1) ((0 : Int)) with
  | none => none
  | some (Sum.inl v6) =>
   some (v6.fst, ())
  | some (Sum.inr (Sum.inl v7)) =>
   some (v7.fst, ())
noncomputable def con51 (n : Nat) : Con := conOf [.c false (.v false (.rs 48 yX)), .c false (.v true (.int .i64))] [.c false (.v true (.int .i64))] fun x => F51 n x.1 x.2.1
noncomputable def tb51 (n : Nat) : Tb := ⟨tiOf Try.prog, conL [(61, con61 n), (91, con91 n)], n, [], 31, lpL [(0, ⟨[(0, (.c false (.v false (.rs 48 yX)))), (1, kI), (5, kI)], [(.ret, [(4, kI)]), ((.exit 0), [(1, kI)])], fun m v => L51_0 n m v.1 v.2.1 v.2.2.1⟩)], ctL [], [], true⟩
noncomputable def code51 : Code := Try.f51.body.getD .skip
theorem tb51_ok (n : Nat) : (tb51 n).ok Try.prog := tbOk mixed (⟨con61_ok n, ⟨con91_ok n, trivial⟩⟩)
theorem lp51_0 (n : Nat) : LpAt (tb51 n) (loopBody code51 0) 0 := lpAt rfl (fun _ => by kernel_rfl) (fun _ _ => by kernel_rfl)
theorem blocks51 : blocks code51 = [(0, .loop (loopBody code51 0)), (1, blockBody code51 1)] := by kernel_rfl
theorem la51 (n : Nat) : LpAll (tb51 n) code51 := lpAll blocks51 (bl_loop (lp51_0 n) (bl_none rfl (bl_nil))) rfl (cs_no fun _ => rfl) (by kernel_rfl)
theorem ev51 (n : Nat) (x : pdens [.c false (.v false (.rs 48 yX)), .c false (.v true (.int .i64))]) : evSig (tb51 n) Try.f51 [.c false (.v false (.rs 48 yX)), .c false (.v true (.int .i64))] [.c false (.v true (.int .i64))] x = F51 n x.1 x.2.1 := by kernel_rfl
theorem con51_ok (n : Nat) : Con.ok Try.prog 51 (con51 n) := conOf_ok (tb51_ok n) (body_la (by kernel_rfl : Try.f51.body = some code51) (la51 n)) Try.func51 (enters Try.func51 (by kernel_rfl) (by kernel_rfl)) rfl rfl (ev51 n)
/-! ### loop.example/fathomline/laws.FnExactExecAll -/
def J13_16 (n : Nat) (x11 : List (List (Int × Int × Int)) × Unit) (x12 : List (List Int × List (List Int))) (x13 : List (List Int × List (List Int))) : Option (odens [(.ret, [(2, kB)])]) :=
    (F50 n (x13) ((1 : Int))).bind fun y14 =>
    (F51 n (y14.snd.fst) ((1 : Int))).bind fun y15 =>
    cond (Decidable.decide (y15.fst < (0 : Int)))
    (some (Sum.inl (Bool.false, ())))
    (cond (y15.fst != y14.fst)
     (some (Sum.inl (Bool.false, ())))
     ((F16 n (x11.fst)).bind fun y16 =>
      (F34 n (y16.fst)).bind fun y17 =>
      (F49 n (y17.fst) (x12)).bind fun y18 =>
      cond (!y18.fst)
      (some (Sum.inl (Bool.false, ())))
      ((F51 n (y14.snd.fst) ((1 : Int))).bind fun y19 =>
       cond (Decidable.decide (y19.fst < (0 : Int)))
       (some (Sum.inl (Bool.false, ())))
       (cond (y19.fst != y14.fst)
        (some (Sum.inl (Bool.false, ())))
        (some (Sum.inl (Bool.true, ())))))))
def F13 (n : Nat) (a0 : List (List (Int × Int × Int))) : Option (rdens [.c true (.v true (.rs 115 (.rs 154 yD)))] [.c false (.v true .bool)]) :=
  (F14 n (a0) ((1048576 : Int))).bind fun y1 =>
  cond (Decidable.decide (y1.fst < (0 : Int)))
  (some (Bool.true, ()))
  ((F16 n (a0)).bind fun y2 =>
   (F35 n (y2.fst)).bind fun y3 =>
   (F16 n (a0)).bind fun y4 =>
   (F34 n (y4.fst)).bind fun y5 =>
   (F49 n (y5.fst) (y3.fst)).bind fun y6 =>
   cond (!y6.fst)
   (some (Bool.false, ()))
   ((F16 n (a0)).bind fun y7 =>
    (F20 n (y4.fst) (y7.fst)).bind fun y8 =>
    cond (!y8.fst)
    (some (Bool.false, ()))
    ((F22 n (y4.fst) ((1 : Int))).bind fun y9 =>
     cond (Decidable.decide (y9.fst < (0 : Int)))
     (some (Bool.false, ()))
     ((F49 n (y5.fst) (y3.fst)).bind fun y10 =>
      cond (!y10.fst)
      (some (Bool.false, ()))
      (match J13_16 n ((a0, ())) (y3.fst) (y5.fst) with
       | none => none
       | some (Sum.inl v20) =>
        some (v20.fst, ()))))))
noncomputable def con13 (n : Nat) : Con := conOf [.c true (.v true (.rs 115 (.rs 154 yD)))] [.c false (.v true .bool)] fun x => F13 n x.1
noncomputable def tb13 (n : Nat) : Tb := ⟨tiOf Try.prog, conL [(14, con14 n), (16, con16 n), (35, con35 n), (34, con34 n), (49, con49 n), (20, con20 n), (22, con22 n), (50, con50 n), (51, con51 n)], n, [], 69, lpL [], ctL [(16, ⟨[(1, (.b 24 [(.v true (.rs 115 (.rs 154 yD)))])), (4, (.c false (.o (.rs 48 yX)))), (6, (.c false (.o (.rs 48 yX))))], [(.ret, [(2, kB)])], fun v => J13_16 n v.1 v.2.1 v.2.2.1⟩)], [], true⟩
noncomputable def code13 : Code := Try.f13.body.getD .skip
theorem tb13_ok (n : Nat) : (tb13 n).ok Try.prog := tbOk mixed (⟨con14_ok n, ⟨con16_ok n, ⟨con35_ok n, ⟨con34_ok n, ⟨con49_ok n, ⟨con20_ok n, ⟨con22_ok n, ⟨con50_ok n, ⟨con51_ok n, trivial⟩⟩⟩⟩⟩⟩⟩⟩⟩)
theorem blocks13 : blocks code13 = [] := by kernel_rfl
theorem ct13_16 (n : Nat) : CtOk (tb13 n) (sec code13 17).2 ⟨[(1, (.b 24 [(.v true (.rs 115 (.rs 154 yD)))])), (4, (.c false (.o (.rs 48 yX)))), (6, (.c false (.o (.rs 48 yX))))], [(.ret, [(2, kB)])], fun v => J13_16 n v.1 v.2.1 v.2.2.1⟩ := fun _ => by kernel_rfl
theorem secs13 : seconds code13 = [(some 1, (sec code13 0).2), (some 2, (sec code13 1).2), (some 3, (sec code13 2).2), (some 5, (sec code13 3).2), (none, (sec code13 4).2), (none, (sec code13 5).2), (some 6, (sec code13 6).2), (some 7, (sec code13 7).2), (some 8, (sec code13 8).2), (some 10, (sec code13 9).2), (none, (sec code13 10).2), (none, (sec code13 11).2), (some 12, (sec code13 12).2), (none, (sec code13 13).2), (none, (sec code13 14).2), (some 13, (sec code13 15).2), (some 14, (sec code13 16).2), (some 16, (sec code13 17).2), (none, (sec code13 18).2), (none, (sec code13 19).2), (some 17, (sec code13 20).2), (some 18, (sec code13 21).2), (some 19, (sec code13 22).2), (some 20, (sec code13 23).2), (some 22, (sec code13 24).2), (none, (sec code13 25).2), (none, (sec code13 26).2), (some 24, (sec code13 27).2), (none, (sec code13 28).2), (none, (sec code13 29).2), (some 25, (sec code13 30).2), (some 27, (sec code13 31).2), (none, (sec code13 32).2), (none, (sec code13 33).2), (some 28, (sec code13 34).2), (some 29, (sec code13 35).2), (some 31, (sec code13 36).2), (none, (sec code13 37).2), (none, (sec code13 38).2), (some 33, (sec code13 39).2), (none, (sec code13 40).2), (none, (sec code13 41).2), (none, (sec code13 42).2)] := by kernel_rfl
theorem la13 (n : Nat) : LpAll (tb13 n) code13 := lpAll blocks13 (bl_nil) secs13 (cs_none rfl (cs_none rfl (cs_none rfl (cs_none rfl (cs_none rfl (cs_none rfl (cs_none rfl (cs_none rfl (cs_none rfl (cs_none rfl (cs_none rfl (cs_none rfl (cs_none rfl (cs_none rfl (cs_none rfl (cs_none rfl (cs_none rfl (cs_one rfl (ct13_16 n) (cs_none rfl (cs_none rfl (cs_none rfl (cs_none rfl (cs_none rfl (cs_none rfl (cs_none rfl (cs_none rfl (cs_none rfl (cs_none rfl (cs_none rfl (cs_none rfl (cs_none rfl (cs_none rfl (cs_none rfl (cs_none rfl (cs_none rfl (cs_none rfl (cs_none rfl (cs_none rfl (cs_none rfl (cs_none rfl (cs_none rfl (cs_none rfl (cs_none rfl (cs_nil)))))))))))))))))))))))))))))))))))))))))))) (by kernel_rfl)
theorem ev13 (n : Nat) (x : pdens [.c true (.v true (.rs 115 (.rs 154 yD)))]) : evSig (tb13 n) Try.f13 [.c true (.v true (.rs 115 (.rs 154 yD)))] [.c false (.v true .bool)] x = F13 n x.1 := by kernel_rfl
theorem con13_ok (n : Nat) : Con.ok Try.prog 13 (con13 n) := conOf_ok (tb13_ok n) (body_la (by kernel_rfl : Try.f13.body = some code13) (la13 n)) Try.func13 (enters Try.func13 (by kernel_rfl) (by kernel_rfl)) rfl rfl (ev13 n)
end Go.Proofs.Ytdacfaincamliaa.Ev
