/- Plain functions that the loaded code comes to, and that it does. Conditions: none. -/
import Derived.Test.YtaehbfaldofmbaaGA
namespace Go.Proofs.Ytaehbfaldofmbaa.Ev
open Go Go.Proofs
/-! ### loop.example/fathomline/spec.ProgReads -/
def J42_9 (n : Nat) (x10 : List (List (Int × Int × Int)) × Unit) (x11 : Int) (x12 : Int) (x13 : Int) : Option (odens [(.normal, [(1, (.b 44 [(.v false (.rs 50 (.rs 52 (.pair (.int .i64) (.pair (.int .i64) (.int .i64))))))])), (3, (.c false (.v true (.int .i64)))), (4, (.c false (.v true (.int .i64)))), (5, (.c false (.v true (.int .i64))))])]) :=
    some (Sum.inl ((x10.fst, ()), x11, x12, Go.IntKind.i64.wrap (x13 + (1 : Int)), ()))
def L42_2 (n : Nat) : Nat → List (List (Int × Int × Int)) × Unit → Int → Int → Int → Option (odens [((.exit 2), [(1, (.b 44 [(.v false (.rs 50 (.rs 52 (.pair (.int .i64) (.pair (.int .i64) (.int .i64))))))])), (3, (.c false (.v true (.int .i64)))), (4, (.c false (.v true (.int .i64))))])])
  | 0, _, _, _, _ => none
  | m + 1, x5, x6, x7, x8 =>
    if (0 : Int) ≤ x7 then
    if x7 < (↑(List.length x5.fst) : Int) then
    cond (Decidable.decide (x8 < (↑(List.length (List.getD x5.fst x7.toNat [])) : Int)))
    (if (0 : Int) ≤ x7 then
     if x7 < (↑(List.length x5.fst) : Int) then
     if (0 : Int) ≤ x8 then
     if x8 < (↑(List.length (List.getD x5.fst x7.toNat [])) : Int) then
     (F82 n (((List.getD (List.getD x5.fst x7.toNat []) x8.toNat ((0 : Int), (0 : Int), (0 : Int))).fst, (List.getD (List.getD x5.fst x7.toNat []) x8.toNat ((0 : Int), (0 : Int), (0 : Int))).snd.fst, (List.getD (List.getD x5.fst x7.toNat []) x8.toNat ((0 : Int), (0 : Int), (0 : Int))).snd.snd))).bind fun y9 =>
     cond (y9.fst)
     (match J42_9 n ((x5.fst, ())) (Go.IntKind.i64.wrap (x6 + (1 : Int))) (x7) (x8) with
      | none => none
      | some (Sum.inl v14) =>
       L42_2 n m ((v14.fst.fst, ())) (v14.snd.fst) (v14.snd.snd.fst) (v14.snd.snd.snd.fst))
     (match J42_9 n ((x5.fst, ())) (x6) (x7) (x8) with
      | none => none
      | some (Sum.inl v15) =>
       L42_2 n m ((v15.fst.fst, ())) (v15.snd.fst) (v15.snd.snd.fst) (v15.snd.snd.snd.fst))
     else none
     else none
     else none
     else none)
    (some (Sum.inl ((x5.fst, ()), x6, x7, ())))
    else none
    else none
def L42_0 (n : Nat) : Nat → List (List (Int × Int × Int)) × Unit → Int → Int → Option (odens [((.exit 0), [(3, (.c false (.v true (.int .i64))))])])
  | 0, _, _, _ => none
  | m + 1, x2, x3, x4 =>
    cond (Decidable.decide (x4 < (↑(List.length x2.fst) : Int)))
    (match L42_2 n n ((x2.fst, ())) (x3) (x4) ((0 : Int)) with
     | none => none
     | some (Sum.inl v16) =>
      L42_0 n m ((v16.fst.fst, ())) (v16.snd.fst) (Go.IntKind.i64.wrap (v16.snd.snd.fst + (1 : Int))))
    (some (Sum.inl (x3, ())))
def F42 (n : Nat) (a0 : List (List (Int × Int × Int))) : Option (rdens [.c true (.v false (.rs 50 (.rs 52 (.pair (.int .i64) (.pair (.int .i64) (.int .i64))))))] [.c false (.v true (.int .i64))]) :=
  (F35 n (a0)).bind fun y1 =>
  cond (!y1.fst)
  (some ((-1 : Int), ()))
  (match L42_0 n n ((a0, ())) ((0 : Int)) ((0 : Int)) with
   | none => none
   | some (Sum.inl v17) =>
    some (v17.fst, ()))
noncomputable def con42 (n : Nat) : Con := conOf [.c true (.v false (.rs 50 (.rs 52 (.pair (.int .i64) (.pair (.int .i64) (.int .i64))))))] [.c false (.v true (.int .i64))] fun x => F42 n x.1
noncomputable def tb42 (n : Nat) : Tb := ⟨tiOf Try.prog, conL [(35, con35 n), (82, con82 n)], n, [], 38, lpL [(2, ⟨[(1, (.b 44 [(.v false (.rs 50 (.rs 52 (.pair (.int .i64) (.pair (.int .i64) (.int .i64))))))])), (3, (.c false (.v true (.int .i64)))), (4, (.c false (.v true (.int .i64)))), (5, (.c false (.v true (.int .i64))))], [((.exit 2), [(1, (.b 44 [(.v false (.rs 50 (.rs 52 (.pair (.int .i64) (.pair (.int .i64) (.int .i64))))))])), (3, (.c false (.v true (.int .i64)))), (4, (.c false (.v true (.int .i64))))])], fun m v => L42_2 n m v.1 v.2.1 v.2.2.1 v.2.2.2.1⟩), (0, ⟨[(1, (.b 44 [(.v false (.rs 50 (.rs 52 (.pair (.int .i64) (.pair (.int .i64) (.int .i64))))))])), (3, (.c false (.v true (.int .i64)))), (4, (.c false (.v true (.int .i64))))], [((.exit 0), [(3, (.c false (.v true (.int .i64))))])], fun m v => L42_0 n m v.1 v.2.1 v.2.2.1⟩)], ctL [(9, ⟨[(1, (.b 44 [(.v false (.rs 50 (.rs 52 (.pair (.int .i64) (.pair (.int .i64) (.int .i64))))))])), (3, (.c false (.v true (.int .i64)))), (4, (.c false (.v true (.int .i64)))), (5, (.c false (.v true (.int .i64))))], [(.normal, [(1, (.b 44 [(.v false (.rs 50 (.rs 52 (.pair (.int .i64) (.pair (.int .i64) (.int .i64))))))])), (3, (.c false (.v true (.int .i64)))), (4, (.c false (.v true (.int .i64)))), (5, (.c false (.v true (.int .i64))))])], fun v => J42_9 n v.1 v.2.1 v.2.2.1 v.2.2.2.1⟩)], [], true⟩
noncomputable def code42 : Code := Try.f42.body.getD .skip
theorem tb42_ok (n : Nat) : (tb42 n).ok Try.prog := tbOk mixed (⟨con35_ok n, ⟨con82_ok n, trivial⟩⟩)
theorem lp42_2 (n : Nat) : LpAt (tb42 n) (loopBody code42 2) 2 := lpAt rfl (fun _ => by kernel_rfl) (fun _ _ => by kernel_rfl)
theorem lp42_0 (n : Nat) : LpAt (tb42 n) (loopBody code42 0) 0 := lpAt rfl (fun _ => by kernel_rfl) (fun _ _ => by kernel_rfl)
theorem blocks42 : blocks code42 = [(0, .loop (loopBody code42 0)), (1, blockBody code42 1), (2, .loop (loopBody code42 2)), (3, blockBody code42 3)] := by kernel_rfl
theorem ct42_9 (n : Nat) : CtOk (tb42 n) (sec code42 13).2 ⟨[(1, (.b 44 [(.v false (.rs 50 (.rs 52 (.pair (.int .i64) (.pair (.int .i64) (.int .i64))))))])), (3, (.c false (.v true (.int .i64)))), (4, (.c false (.v true (.int .i64)))), (5, (.c false (.v true (.int .i64))))], [(.normal, [(1, (.b 44 [(.v false (.rs 50 (.rs 52 (.pair (.int .i64) (.pair (.int .i64) (.int .i64))))))])), (3, (.c false (.v true (.int .i64)))), (4, (.c false (.v true (.int .i64)))), (5, (.c false (.v true (.int .i64))))])], fun v => J42_9 n v.1 v.2.1 v.2.2.1 v.2.2.2.1⟩ := fun _ => by kernel_rfl
theorem secs42 : seconds code42 = [(some 1, (sec code42 0).2), (some 3, (sec code42 1).2), (none, (sec code42 2).2), (none, (sec code42 3).2), (some 4, (sec code42 4).2), (some 12, (sec code42 5).2), (some 5, (sec code42 6).2), (some 7, (sec code42 7).2), (none, (sec code42 8).2), (some 6, (sec code42 9).2), (some 8, (sec code42 10).2), (some 10, (sec code42 11).2), (none, (sec code42 12).2), (some 9, (sec code42 13).2), (none, (sec code42 14).2), (none, (sec code42 15).2)] := by kernel_rfl
theorem la42 (n : Nat) : LpAll (tb42 n) code42 := lpAll blocks42 (bl_loop (lp42_0 n) (bl_none rfl (bl_loop (lp42_2 n) (bl_none rfl (bl_nil))))) secs42 (cs_none rfl (cs_none rfl (cs_none rfl (cs_none rfl (cs_none rfl (cs_none rfl (cs_none rfl (cs_none rfl (cs_none rfl (cs_none rfl (cs_none rfl (cs_none rfl (cs_none rfl (cs_one rfl (ct42_9 n) (cs_none rfl (cs_none rfl (cs_nil))))))))))))))))) (by kernel_rfl)
theorem ev42 (n : Nat) (x : pdens [.c true (.v false (.rs 50 (.rs 52 (.pair (.int .i64) (.pair (.int .i64) (.int .i64))))))]) : evSig (tb42 n) Try.f42 [.c true (.v false (.rs 50 (.rs 52 (.pair (.int .i64) (.pair (.int .i64) (.int .i64))))))] [.c false (.v true (.int .i64))] x = F42 n x.1 := by kernel_rfl
theorem con42_ok (n : Nat) : Con.ok Try.prog 42 (con42 n) := conOf_ok (tb42_ok n) (body_la (by kernel_rfl : Try.f42.body = some code42) (la42 n)) Try.func42 (enters Try.func42 (by kernel_rfl) (by kernel_rfl)) rfl rfl (ev42 n)
/-! ### loop.example/fathomline/impl.readsOf -/
def J92_7 (n : Nat) (x6 : Int) (x7 : List (Int × Int × Int)) (x8 : Int) (x9 : Int) : Option (odens [(.normal, [(3, (.c false (.v true (.int .i64)))), (6, (.c false (.v false (.rs 52 (.pair (.int .i64) (.pair (.int .i64) (.int .i64))))))), (7, (.c false (.v true (.int .i64)))), (8, (.c false (.v true (.int .i64))))])]) :=
    some (Sum.inl (x6, x7, x8, Go.IntKind.i64.wrap (x9 + (1 : Int)), ()))
def L92_0 (n : Nat) : Nat → Int → List (Int × Int × Int) → Int → Int → Option (odens [((.exit 0), [(3, (.c false (.v true (.int .i64))))])])
  | 0, _, _, _, _ => none
  | m + 1, x1, x2, x3, x4 =>
    cond (Decidable.decide (x4 < x3))
    (if (0 : Int) ≤ x4 then
     if x4 < (↑x2.length : Int) then
     (F120 n (((x2.getD x4.toNat ((0 : Int), (0 : Int), (0 : Int))).fst, (x2.getD x4.toNat ((0 : Int), (0 : Int), (0 : Int))).snd.fst, (x2.getD x4.toNat ((0 : Int), (0 : Int), (0 : Int))).snd.snd))).bind fun y5 =>
     cond (y5.fst)
     (match J92_7 n (Go.IntKind.i64.wrap (x1 + (1 : Int))) (x2) (x3) (x4) with
      | none => none
      | some (Sum.inl v10) =>
       L92_0 n m (v10.fst) (v10.snd.fst) (v10.snd.snd.fst) (v10.snd.snd.snd.fst))
     (match J92_7 n (x1) (x2) (x3) (x4) with
      | none => none
      | some (Sum.inl v11) =>
       L92_0 n m (v11.fst) (v11.snd.fst) (v11.snd.snd.fst) (v11.snd.snd.snd.fst))
     else none
     else none)
    (some (Sum.inl (x1, ())))
def F92 (n : Nat) (a0 : List (Int × Int × Int)) : Option (rdens [.c false (.v false (.rs 52 (.pair (.int .i64) (.pair (.int .i64) (.int .i64)))))] [.c false (.v true (.int .i64))]) :=
  match L92_0 n n ((0 : Int)) (a0) ((↑a0.length : Int)) ((0 : Int)) with
  | none => none
  | some (Sum.inl v12) =>
   some (v12.fst, ())
noncomputable def con92 (n : Nat) : Con := conOf [.c false (.v false (.rs 52 (.pair (.int .i64) (.pair (.int .i64) (.int .i64)))))] [.c false (.v true (.int .i64))] fun x => F92 n x.1
noncomputable def tb92 (n : Nat) : Tb := ⟨tiOf Try.prog, conL [(120, con120 n)], n, [], 18, lpL [(0, ⟨[(3, (.c false (.v true (.int .i64)))), (6, (.c false (.v false (.rs 52 (.pair (.int .i64) (.pair (.int .i64) (.int .i64))))))), (7, (.c false (.v true (.int .i64)))), (8, (.c false (.v true (.int .i64))))], [((.exit 0), [(3, (.c false (.v true (.int .i64))))])], fun m v => L92_0 n m v.1 v.2.1 v.2.2.1 v.2.2.2.1⟩)], ctL [(7, ⟨[(3, (.c false (.v true (.int .i64)))), (6, (.c false (.v false (.rs 52 (.pair (.int .i64) (.pair (.int .i64) (.int .i64))))))), (7, (.c false (.v true (.int .i64)))), (8, (.c false (.v true (.int .i64))))], [(.normal, [(3, (.c false (.v true (.int .i64)))), (6, (.c false (.v false (.rs 52 (.pair (.int .i64) (.pair (.int .i64) (.int .i64))))))), (7, (.c false (.v true (.int .i64)))), (8, (.c false (.v true (.int .i64))))])], fun v => J92_7 n v.1 v.2.1 v.2.2.1 v.2.2.2.1⟩)], [], true⟩
noncomputable def code92 : Code := Try.f92.body.getD .skip
theorem tb92_ok (n : Nat) : (tb92 n).ok Try.prog := tbOk mixed (⟨con120_ok n, trivial⟩)
theorem lp92_0 (n : Nat) : LpAt (tb92 n) (loopBody code92 0) 0 := lpAt rfl (fun _ => by kernel_rfl) (fun _ _ => by kernel_rfl)
theorem blocks92 : blocks code92 = [(0, .loop (loopBody code92 0)), (1, blockBody code92 1)] := by kernel_rfl
theorem ct92_7 (n : Nat) : CtOk (tb92 n) (sec code92 6).2 ⟨[(3, (.c false (.v true (.int .i64)))), (6, (.c false (.v false (.rs 52 (.pair (.int .i64) (.pair (.int .i64) (.int .i64))))))), (7, (.c false (.v true (.int .i64)))), (8, (.c false (.v true (.int .i64))))], [(.normal, [(3, (.c false (.v true (.int .i64)))), (6, (.c false (.v false (.rs 52 (.pair (.int .i64) (.pair (.int .i64) (.int .i64))))))), (7, (.c false (.v true (.int .i64)))), (8, (.c false (.v true (.int .i64))))])], fun v => J92_7 n v.1 v.2.1 v.2.2.1 v.2.2.2.1⟩ := fun _ => by kernel_rfl
theorem secs92 : seconds code92 = [(some 1, (sec code92 0).2), (some 2, (sec code92 1).2), (some 8, (sec code92 2).2), (some 3, (sec code92 3).2), (none, (sec code92 4).2), (some 4, (sec code92 5).2), (some 7, (sec code92 6).2), (some 5, (sec code92 7).2), (none, (sec code92 8).2), (none, (sec code92 9).2)] := by kernel_rfl
theorem la92 (n : Nat) : LpAll (tb92 n) code92 := lpAll blocks92 (bl_loop (lp92_0 n) (bl_none rfl (bl_nil))) secs92 (cs_none rfl (cs_none rfl (cs_none rfl (cs_none rfl (cs_none rfl (cs_none rfl (cs_one rfl (ct92_7 n) (cs_none rfl (cs_none rfl (cs_none rfl (cs_nil))))))))))) (by kernel_rfl)
theorem ev92 (n : Nat) (x : pdens [.c false (.v false (.rs 52 (.pair (.int .i64) (.pair (.int .i64) (.int .i64)))))]) : evSig (tb92 n) Try.f92 [.c false (.v false (.rs 52 (.pair (.int .i64) (.pair (.int .i64) (.int .i64)))))] [.c false (.v true (.int .i64))] x = F92 n x.1 := by kernel_rfl
theorem con92_ok (n : Nat) : Con.ok Try.prog 92 (con92 n) := conOf_ok (tb92_ok n) (body_la (by kernel_rfl : Try.f92.body = some code92) (la92 n)) Try.func92 (enters Try.func92 (by kernel_rfl) (by kernel_rfl)) rfl rfl (ev92 n)
/-! ### loop.example/fathomline/impl.ProgReads -/
def L43_0 (n : Nat) : Nat → Int → List (List (Int × Int × Int)) → Int → Int → Option (odens [((.exit 0), [(3, (.c false (.v true (.int .i64))))])])
  | 0, _, _, _, _ => none
  | m + 1, x2, x3, x4, x5 =>
    cond (Decidable.decide (x5 < x4))
    (if (0 : Int) ≤ x5 then
     if x5 < (↑x3.length : Int) then
     (F92 n (x3.getD x5.toNat [])).bind fun y6 =>
     L43_0 n m (Go.IntKind.i64.wrap (x2 + y6.fst)) (x3) (x4) (Go.IntKind.i64.wrap (x5 + (1 : Int)))
     else none
     else none)
    (some (Sum.inl (x2, ())))
def F43 (n : Nat) (a0 : List (List (Int × Int × Int))) : Option (rdens [.c true (.v false (.rs 50 (.rs 52 (.pair (.int .i64) (.pair (.int .i64) (.int .i64))))))] [.c false (.v true (.int .i64))]) :=
  (F37 n (a0)).bind fun y1 =>
  cond (!y1.fst)
  (some ((-1 : Int), ()))
  (match L43_0 n n ((0 : Int)) (a0) ((↑a0.length : Int)) ((0 : Int)) with
   | none => none
   | some (Sum.inl v7) =>
    some (v7.fst, ()))
noncomputable def con43 (n : Nat) : Con := conOf [.c true (.v false (.rs 50 (.rs 52 (.pair (.int .i64) (.pair (.int .i64) (.int .i64))))))] [.c false (.v true (.int .i64))] fun x => F43 n x.1
noncomputable def tb43 (n : Nat) : Tb := ⟨tiOf Try.prog, conL [(37, con37 n), (92, con92 n)], n, [], 22, lpL [(0, ⟨[(3, (.c false (.v true (.int .i64)))), (10, (.c false (.v false (.rs 50 (.rs 52 (.pair (.int .i64) (.pair (.int .i64) (.int .i64)))))))), (11, (.c false (.v true (.int .i64)))), (12, (.c false (.v true (.int .i64))))], [((.exit 0), [(3, (.c false (.v true (.int .i64))))])], fun m v => L43_0 n m v.1 v.2.1 v.2.2.1 v.2.2.2.1⟩)], ctL [], [], true⟩
noncomputable def code43 : Code := Try.f43.body.getD .skip
theorem tb43_ok (n : Nat) : (tb43 n).ok Try.prog := tbOk mixed (⟨con37_ok n, ⟨con92_ok n, trivial⟩⟩)
theorem lp43_0 (n : Nat) : LpAt (tb43 n) (loopBody code43 0) 0 := lpAt rfl (fun _ => by kernel_rfl) (fun _ _ => by kernel_rfl)
theorem blocks43 : blocks code43 = [(0, .loop (loopBody code43 0)), (1, blockBody code43 1)] := by kernel_rfl
theorem la43 (n : Nat) : LpAll (tb43 n) code43 := lpAll blocks43 (bl_loop (lp43_0 n) (bl_none rfl (bl_nil))) rfl (cs_no fun _ => rfl) (by kernel_rfl)
theorem ev43 (n : Nat) (x : pdens [.c true (.v false (.rs 50 (.rs 52 (.pair (.int .i64) (.pair (.int .i64) (.int .i64))))))]) : evSig (tb43 n) Try.f43 [.c true (.v false (.rs 50 (.rs 52 (.pair (.int .i64) (.pair (.int .i64) (.int .i64))))))] [.c false (.v true (.int .i64))] x = F43 n x.1 := by kernel_rfl
theorem con43_ok (n : Nat) : Con.ok Try.prog 43 (con43 n) := conOf_ok (tb43_ok n) (body_la (by kernel_rfl : Try.f43.body = some code43) (la43 n)) Try.func43 (enters Try.func43 (by kernel_rfl) (by kernel_rfl)) rfl rfl (ev43 n)
end Go.Proofs.Ytaehbfaldofmbaa.Ev
