/- Plain functions that the loaded code comes to, and that it does. Conditions: none. -/
import Derived.Test.YtdacfaincamliaaGF
namespace Go.Proofs.Ytdacfaincamliaa.Ev
open Go Go.Proofs
/-! ### loop.example/fathomline/spec.l12Rows -/
def J119_5 (R : List Int → List Int → List (List Int) → Option (rdens [.c false (.v false (.rs 3 (.int .i64))), .c false (.v false (.rs 3 (.int .i64))), .t false (.rs 25 (.rs 3 (.int .i64)))] [.c false (.o (.rs 25 (.rs 3 (.int .i64))))])) (n : Nat) (x7 : List Int) (x8 : List Int) (x9 : List (List Int)) (x10 : Int) : Option (odens [(.normal, [(0, (.c false (.v false (.rs 3 (.int .i64))))), (1, (.c false (.v false (.rs 3 (.int .i64))))), (2, (.c false (.o (.rs 25 (.rs 3 (.int .i64)))))), (7, kI)])]) :=
    some (Sum.inl (x7, x8, x9, Go.IntKind.i64.wrap (x10 + (1 : Int)), ()))
def L119_0 (R : List Int → List Int → List (List Int) → Option (rdens [.c false (.v false (.rs 3 (.int .i64))), .c false (.v false (.rs 3 (.int .i64))), .t false (.rs 25 (.rs 3 (.int .i64)))] [.c false (.o (.rs 25 (.rs 3 (.int .i64))))])) (n : Nat) : Nat → List Int → List Int → List (List Int) → Int → Option (odens [((.exit 0), [(2, (.c false (.o (.rs 25 (.rs 3 (.int .i64))))))])])
  | 0, _, _, _, _ => none
  | m + 1, x1, x2, x3, x4 =>
    cond (Decidable.decide (x4 < (↑x1.length : Int)))
    (if (0 : Int) ≤ x4 then
     if x4 < (↑x1.length : Int) then
     (F106 n (x2) (x1.getD x4.toNat (0 : Int))).bind fun y5 =>
     cond (!y5.fst)
     (if (0 : Int) ≤ x4 then
      if x4 < (↑x1.length : Int) then
      if ((0 : Nat) + x2.length) * (8 : Nat) ≤ (140737488355328 : Nat) then
      if (x2.length + [x1.getD x4.toNat (0 : Int)].length) * (8 : Nat) ≤ (140737488355328 : Nat) then
      (R (x1) (x2 ++ [x1.getD x4.toNat (0 : Int)]) (x3)).bind fun y6 =>
      match J119_5 R n (x1) (x2) (y6.fst) (x4) with
      | none => none
      | some (Sum.inl v11) =>
       L119_0 R n m (v11.fst) (v11.snd.fst) (v11.snd.snd.fst) (v11.snd.snd.snd.fst)
      else none
      else none
      else none
      else none)
     (match J119_5 R n (x1) (x2) (x3) (x4) with
      | none => none
      | some (Sum.inl v12) =>
       L119_0 R n m (v12.fst) (v12.snd.fst) (v12.snd.snd.fst) (v12.snd.snd.snd.fst))
     else none
     else none)
    (some (Sum.inl (x3, ())))
def G119 (R : List Int → List Int → List (List Int) → Option (rdens [.c false (.v false (.rs 3 (.int .i64))), .c false (.v false (.rs 3 (.int .i64))), .t false (.rs 25 (.rs 3 (.int .i64)))] [.c false (.o (.rs 25 (.rs 3 (.int .i64))))])) (n : Nat) (a0 : List Int) (a1 : List Int) (a2 : List (List Int)) : Option (rdens [.c false (.v false (.rs 3 (.int .i64))), .c false (.v false (.rs 3 (.int .i64))), .t false (.rs 25 (.rs 3 (.int .i64)))] [.c false (.o (.rs 25 (.rs 3 (.int .i64))))]) :=
  cond ((↑a1.length : Int) == (↑a0.length : Int))
  (if ((0 : Nat) + a1.length) * (8 : Nat) ≤ (140737488355328 : Nat) then
   if (a2.length + [a1].length) * (24 : Nat) ≤ (140737488355328 : Nat) then
   some (a2 ++ [a1], ())
   else none
   else none)
  (match L119_0 R n n (a0) (a1) (a2) ((0 : Int)) with
   | none => none
   | some (Sum.inl v13) =>
    some (v13.fst, ()))
def F119 : Nat → List Int → List Int → List (List Int) → Option (rdens [.c false (.v false (.rs 3 (.int .i64))), .c false (.v false (.rs 3 (.int .i64))), .t false (.rs 25 (.rs 3 (.int .i64)))] [.c false (.o (.rs 25 (.rs 3 (.int .i64))))])
  | 0, _, _, _ => none
  | n + 1, a0, a1, a2 => G119 (F119 n) n a0 a1 a2
noncomputable def con119 (n : Nat) : Con := conOf [.c false (.v false (.rs 3 (.int .i64))), .c false (.v false (.rs 3 (.int .i64))), .t false (.rs 25 (.rs 3 (.int .i64)))] [.c false (.o (.rs 25 (.rs 3 (.int .i64))))] fun x => F119 n x.1 x.2.1 x.2.2.1
noncomputable def tb119 (n : Nat) : Tb := ⟨tiOf Try.prog, conL [(106, con106 n), (119, con119 n)], n, [], 45, lpL [(0, ⟨[(0, (.c false (.v false (.rs 3 (.int .i64))))), (1, (.c false (.v false (.rs 3 (.int .i64))))), (2, (.c false (.o (.rs 25 (.rs 3 (.int .i64)))))), (7, kI)], [((.exit 0), [(2, (.c false (.o (.rs 25 (.rs 3 (.int .i64))))))])], fun m v => L119_0 (F119 n) n m v.1 v.2.1 v.2.2.1 v.2.2.2.1⟩)], ctL [(5, ⟨[(0, (.c false (.v false (.rs 3 (.int .i64))))), (1, (.c false (.v false (.rs 3 (.int .i64))))), (2, (.c false (.o (.rs 25 (.rs 3 (.int .i64)))))), (7, kI)], [(.normal, [(0, (.c false (.v false (.rs 3 (.int .i64))))), (1, (.c false (.v false (.rs 3 (.int .i64))))), (2, (.c false (.o (.rs 25 (.rs 3 (.int .i64)))))), (7, kI)])], fun v => J119_5 (F119 n) n v.1 v.2.1 v.2.2.1 v.2.2.2.1⟩)], [], true⟩
noncomputable def code119 : Code := Try.f119.body.getD .skip
theorem tb119_ok (n : Nat) (h : Con.ok Try.prog 119 (con119 n)) : (tb119 n).ok Try.prog := tbOk mixed (⟨con106_ok n, ⟨h, trivial⟩⟩)
theorem lp119_0 (n : Nat) : LpAt (tb119 n) (loopBody code119 0) 0 := lpAt rfl (fun _ => by kernel_rfl) (fun _ _ => by kernel_rfl)
theorem blocks119 : blocks code119 = [(0, .loop (loopBody code119 0)), (1, blockBody code119 1)] := by kernel_rfl
theorem ct119_5 (n : Nat) : CtOk (tb119 n) (sec code119 8).2 ⟨[(0, (.c false (.v false (.rs 3 (.int .i64))))), (1, (.c false (.v false (.rs 3 (.int .i64))))), (2, (.c false (.o (.rs 25 (.rs 3 (.int .i64)))))), (7, kI)], [(.normal, [(0, (.c false (.v false (.rs 3 (.int .i64))))), (1, (.c false (.v false (.rs 3 (.int .i64))))), (2, (.c false (.o (.rs 25 (.rs 3 (.int .i64)))))), (7, kI)])], fun v => J119_5 (F119 n) n v.1 v.2.1 v.2.2.1 v.2.2.2.1⟩ := fun _ => by kernel_rfl
theorem secs119 : seconds code119 = [(some 1, (sec code119 0).2), (some 3, (sec code119 1).2), (none, (sec code119 2).2), (none, (sec code119 3).2), (some 8, (sec code119 4).2), (some 4, (sec code119 5).2), (some 6, (sec code119 6).2), (none, (sec code119 7).2), (some 5, (sec code119 8).2), (none, (sec code119 9).2), (none, (sec code119 10).2)] := by kernel_rfl
theorem la119 (n : Nat) : LpAll (tb119 n) code119 := lpAll blocks119 (bl_loop (lp119_0 n) (bl_none rfl (bl_nil))) secs119 (cs_none rfl (cs_none rfl (cs_none rfl (cs_none rfl (cs_none rfl (cs_none rfl (cs_none rfl (cs_none rfl (cs_one rfl (ct119_5 n) (cs_none rfl (cs_none rfl (cs_nil)))))))))))) (by kernel_rfl)
theorem ev119 (n : Nat) (x : pdens [.c false (.v false (.rs 3 (.int .i64))), .c false (.v false (.rs 3 (.int .i64))), .t false (.rs 25 (.rs 3 (.int .i64)))]) : evSig (tb119 n) Try.f119 [.c false (.v false (.rs 3 (.int .i64))), .c false (.v false (.rs 3 (.int .i64))), .t false (.rs 25 (.rs 3 (.int .i64)))] [.c false (.o (.rs 25 (.rs 3 (.int .i64))))] x = F119 (n + 1) x.1 x.2.1 x.2.2.1 := by kernel_rfl
theorem con119_ok : ∀ n : Nat, Con.ok Try.prog 119 (con119 n)
  | 0 => con_none (enters Try.func119 (by kernel_rfl) (by kernel_rfl)) fun _ => rfl
  | n + 1 => conOf_ok (tb119_ok n (con119_ok n)) (body_la (by kernel_rfl : Try.f119.body = some code119) (la119 n)) Try.func119 (enters Try.func119 (by kernel_rfl) (by kernel_rfl)) rfl rfl (ev119 n)
/-! ### loop.example/fathomline/spec.l12Froms -/
def L76_0 (R : List (List (Int × Int × Int)) → List (Int × Int × Bool) → List Int → List (List Int) → Option (rdens [.c true (.v false yP), .c false (.v false (.rs 67 yE)), .c false (.v false (.rs 3 (.int .i64))), .t false (.rs 25 (.rs 3 (.int .i64)))] [.c false (.o (.rs 25 (.rs 3 (.int .i64))))])) (n : Nat) : Nat → List (Int × Int × Bool) → List Int → List (List Int) → List (List (Int × Int × Int)) × Unit → List Int → Int → Option (odens [((.exit 0), [(3, (.c false (.o (.rs 25 (.rs 3 (.int .i64))))))])])
  | 0, _, _, _, _, _, _ => none
  | m + 1, x6, x7, x8, x9, x10, x11 =>
    cond (Decidable.decide (x11 < (↑x10.length : Int)))
    (if (0 : Int) ≤ x11 then
     if x11 < (↑x10.length : Int) then
     if ((0 : Nat) + x7.length) * (8 : Nat) ≤ (140737488355328 : Nat) then
     if (x7.length + [x10.getD x11.toNat (0 : Int)].length) * (8 : Nat) ≤ (140737488355328 : Nat) then
     (R (x9.fst) (x6) (x7 ++ [x10.getD x11.toNat (0 : Int)]) (x8)).bind fun y12 =>
     L76_0 R n m (x6) (x7) (y12.fst) ((x9.fst, ())) (x10) (Go.IntKind.i64.wrap (x11 + (1 : Int)))
     else none
     else none
     else none
     else none)
    (some (Sum.inl (x8, ())))
def G76 (R : List (List (Int × Int × Int)) → List (Int × Int × Bool) → List Int → List (List Int) → Option (rdens [.c true (.v false yP), .c false (.v false (.rs 67 yE)), .c false (.v false (.rs 3 (.int .i64))), .t false (.rs 25 (.rs 3 (.int .i64)))] [.c false (.o (.rs 25 (.rs 3 (.int .i64))))])) (n : Nat) (a0 : List (List (Int × Int × Int))) (a1 : List (Int × Int × Bool)) (a2 : List Int) (a3 : List (List Int)) : Option (rdens [.c true (.v false yP), .c false (.v false (.rs 67 yE)), .c false (.v false (.rs 3 (.int .i64))), .t false (.rs 25 (.rs 3 (.int .i64)))] [.c false (.o (.rs 25 (.rs 3 (.int .i64))))]) :=
  cond (Decidable.decide ((↑a2.length : Int) ≥ (↑a1.length : Int)))
  (if ((0 : Nat) + a2.length) * (8 : Nat) ≤ (140737488355328 : Nat) then
   if (a3.length + [a2].length) * (24 : Nat) ≤ (140737488355328 : Nat) then
   some (a3 ++ [a2], ())
   else none
   else none)
  (if (↑a2.length : Int) < (↑a1.length : Int) then
   (F107 n (a0) (((a1.getD (↑a2.length : Int).toNat ((0 : Int), (0 : Int), Bool.false)).fst, (a1.getD (↑a2.length : Int).toNat ((0 : Int), (0 : Int), Bool.false)).snd.fst, (a1.getD (↑a2.length : Int).toNat ((0 : Int), (0 : Int), Bool.false)).snd.snd))).bind fun y1 =>
   (F79 n ((y1.fst.fst, y1.fst.snd.fst, y1.fst.snd.snd))).bind fun y2 =>
   cond (!y2.fst)
   (if ((0 : Nat) + a2.length) * (8 : Nat) ≤ (140737488355328 : Nat) then
    if (a2.length + [(-2 : Int)].length) * (8 : Nat) ≤ (140737488355328 : Nat) then
    (R (a0) (a1) (a2 ++ [(-2 : Int)]) (a3)).bind fun y3 =>
    some (y3.fst, ())
    else none
    else none)
   (if ((0 : Nat) + a2.length) * (8 : Nat) ≤ (140737488355328 : Nat) then
    if (a2.length + [(-1 : Int)].length) * (8 : Nat) ≤ (140737488355328 : Nat) then
    (R (a0) (a1) (a2 ++ [(-1 : Int)]) (a3)).bind fun y4 =>
    (F105 n (a0) (a1) (y1.fst.snd.fst)).bind fun y5 =>
    match L76_0 R n n (a1) (a2) (y4.fst) ((a0, ())) (y5.fst) ((0 : Int)) with
    | none => none
    | some (Sum.inl v13) =>
     some (v13.fst, ())
    else none
    else none)
   else none)
def F76 : Nat → List (List (Int × Int × Int)) → List (Int × Int × Bool) → List Int → List (List Int) → Option (rdens [.c true (.v false yP), .c false (.v false (.rs 67 yE)), .c false (.v false (.rs 3 (.int .i64))), .t false (.rs 25 (.rs 3 (.int .i64)))] [.c false (.o (.rs 25 (.rs 3 (.int .i64))))])
  | 0, _, _, _, _ => none
  | n + 1, a0, a1, a2, a3 => G76 (F76 n) n a0 a1 a2 a3
noncomputable def con76 (n : Nat) : Con := conOf [.c true (.v false yP), .c false (.v false (.rs 67 yE)), .c false (.v false (.rs 3 (.int .i64))), .t false (.rs 25 (.rs 3 (.int .i64)))] [.c false (.o (.rs 25 (.rs 3 (.int .i64))))] fun x => F76 n x.1 x.2.1 x.2.2.1 x.2.2.2.1
noncomputable def tb76 (n : Nat) : Tb := ⟨tiOf Try.prog, conL [(107, con107 n), (79, con79 n), (76, con76 n), (105, con105 n)], n, [], 77, lpL [(0, ⟨[(1, (.c false (.v false (.rs 67 yE)))), (2, (.c false (.v false (.rs 3 (.int .i64))))), (3, (.c false (.o (.rs 25 (.rs 3 (.int .i64)))))), (4, (.b 33 [(.v false yP)])), (11, (.c false (.v true (.rs 3 (.int .i64))))), (12, kI)], [((.exit 0), [(3, (.c false (.o (.rs 25 (.rs 3 (.int .i64))))))])], fun m v => L76_0 (F76 n) n m v.1 v.2.1 v.2.2.1 v.2.2.2.1 v.2.2.2.2.1 v.2.2.2.2.2.1⟩)], ctL [], [], true⟩
noncomputable def code76 : Code := Try.f76.body.getD .skip
theorem tb76_ok (n : Nat) (h : Con.ok Try.prog 76 (con76 n)) : (tb76 n).ok Try.prog := tbOk mixed (⟨con107_ok n, ⟨con79_ok n, ⟨h, ⟨con105_ok n, trivial⟩⟩⟩⟩)
theorem lp76_0 (n : Nat) : LpAt (tb76 n) (loopBody code76 0) 0 := lpAt rfl (fun _ => by kernel_rfl) (fun _ _ => by kernel_rfl)
theorem blocks76 : blocks code76 = [(0, .loop (loopBody code76 0)), (1, blockBody code76 1)] := by kernel_rfl
theorem la76 (n : Nat) : LpAll (tb76 n) code76 := lpAll blocks76 (bl_loop (lp76_0 n) (bl_none rfl (bl_nil))) rfl (cs_no fun _ => rfl) (by kernel_rfl)
theorem ev76 (n : Nat) (x : pdens [.c true (.v false yP), .c false (.v false (.rs 67 yE)), .c false (.v false (.rs 3 (.int .i64))), .t false (.rs 25 (.rs 3 (.int .i64)))]) : evSig (tb76 n) Try.f76 [.c true (.v false yP), .c false (.v false (.rs 67 yE)), .c false (.v false (.rs 3 (.int .i64))), .t false (.rs 25 (.rs 3 (.int .i64)))] [.c false (.o (.rs 25 (.rs 3 (.int .i64))))] x = F76 (n + 1) x.1 x.2.1 x.2.2.1 x.2.2.2.1 := by kernel_rfl
theorem con76_ok : ∀ n : Nat, Con.ok Try.prog 76 (con76 n)
  | 0 => con_none (enters Try.func76 (by kernel_rfl) (by kernel_rfl)) fun _ => rfl
  | n + 1 => conOf_ok (tb76_ok n (con76_ok n)) (body_la (by kernel_rfl : Try.f76.body = some code76) (la76 n)) Try.func76 (enters Try.func76 (by kernel_rfl) (by kernel_rfl)) rfl rfl (ev76 n)
/-! ### loop.example/fathomline/spec.l12Orders -/
def L77_4 (n : Nat) : Nat → List (Int × Int × Bool) → List (List (Int × Int × Int)) × Unit → List (List (List Int)) → Int → List (List Int) → List (List (List Int)) → Int → Int → Option (odens [((.exit 4), [(1, (.c false (.v false (.rs 67 yE)))), (2, (.b 33 [(.v false yP)])), (5, (.c false (.v true (.rs 43 (.rs 25 (.rs 3 (.int .i64))))))), (6, kI), (7, (.c false (.v true (.rs 25 (.rs 3 (.int .i64)))))), (8, (.c false (.r 43 (.rs 25 (.rs 3 (.int .i64)))))), (9, kI)])])
  | 0, _, _, _, _, _, _, _, _ => none
  | m + 1, x14, x15, x16, x17, x18, x19, x20, x21 =>
    cond (Decidable.decide (x21 < (↑x18.length : Int)))
    (if (0 : Int) ≤ x20 then
     if x20 < (↑x16.length : Int) then
     if (0 : Int) ≤ x21 then
     if x21 < (↑x18.length : Int) then
     if ((0 : Nat) + List.length (x16.getD x20.toNat [])) * (24 : Nat) ≤ (140737488355328 : Nat) then
     if (List.length (x16.getD x20.toNat []) + [x18.getD x21.toNat []].length) * (24 : Nat) ≤ (140737488355328 : Nat) then
     if (x19.length + [x16.getD x20.toNat [] ++ [x18.getD x21.toNat []]].length) * (24 : Nat) ≤ (140737488355328 : Nat) then
     L77_4 n m (x14) ((x15.fst, ())) (x16) (x17) (x18) (x19 ++ [x16.getD x20.toNat [] ++ [x18.getD x21.toNat []]]) (x20) (Go.IntKind.i64.wrap (x21 + (1 : Int)))
     else none
     else none
     else none
     else none
     else none
     else none
     else none)
    (some (Sum.inl (x14, (x15.fst, ()), x16, x17, x18, x19, x20, ())))
def L77_2 (n : Nat) : Nat → List (Int × Int × Bool) → List (List (Int × Int × Int)) × Unit → List (List (List Int)) → Int → List (List Int) → List (List (List Int)) → Int → Option (odens [((.exit 2), [(1, (.c false (.v false (.rs 67 yE)))), (2, (.b 33 [(.v false yP)])), (6, kI), (8, (.c false (.r 43 (.rs 25 (.rs 3 (.int .i64))))))])])
  | 0, _, _, _, _, _, _, _ => none
  | m + 1, x7, x8, x9, x10, x11, x12, x13 =>
    cond (Decidable.decide (x13 < (↑x9.length : Int)))
    (match L77_4 n n (x7) ((x8.fst, ())) (x9) (x10) (x11) (x12) (x13) ((0 : Int)) with
     | none => none
     | some (Sum.inl v22) =>
      L77_2 n m (v22.fst) ((v22.snd.fst.fst, ())) (v22.snd.snd.fst) (v22.snd.snd.snd.fst) (v22.snd.snd.snd.snd.fst) (v22.snd.snd.snd.snd.snd.fst) (Go.IntKind.i64.wrap (v22.snd.snd.snd.snd.snd.snd.fst + (1 : Int))))
    (some (Sum.inl (x7, (x8.fst, ()), x10, x12, ())))
def L77_0 (n : Nat) : Nat → List (Int × Int × Bool) → List (List (Int × Int × Int)) × Unit → List (List (List Int)) → Int → Option (odens [((.exit 0), [(5, (.c false (.v true (.rs 43 (.rs 25 (.rs 3 (.int .i64)))))))])])
  | 0, _, _, _, _ => none
  | m + 1, x1, x2, x3, x4 =>
    cond (Decidable.decide (x4 < (3 : Int)))
    ((F105 n (x2.fst) (x1) (x4)).bind fun y5 =>
     (F119 n (y5.fst) ([]) ([])).bind fun y6 =>
     match L77_2 n n (x1) ((x2.fst, ())) (x3) (x4) (y6.fst) ([]) ((0 : Int)) with
     | none => none
     | some (Sum.inl v23) =>
      L77_0 n m (v23.fst) ((v23.snd.fst.fst, ())) (v23.snd.snd.snd.fst) (Go.IntKind.i64.wrap (v23.snd.snd.fst + (1 : Int))))
    (some (Sum.inl (x3, ())))
def F77 (n : Nat) (a0 : List (List (Int × Int × Int))) (a1 : List (Int × Int × Bool)) : Option (rdens [.c true (.v false yP), .c false (.v false (.rs 67 yE))] [.c false (.v true (.rs 43 (.rs 25 (.rs 3 (.int .i64)))))]) :=
  match L77_0 n n (a1) ((a0, ())) ([[]]) ((0 : Int)) with
  | none => none
  | some (Sum.inl v24) =>
   some (v24.fst, ())
noncomputable def con77 (n : Nat) : Con := conOf [.c true (.v false yP), .c false (.v false (.rs 67 yE))] [.c false (.v true (.rs 43 (.rs 25 (.rs 3 (.int .i64)))))] fun x => F77 n x.1 x.2.1
noncomputable def tb77 (n : Nat) : Tb := ⟨tiOf Try.prog, conL [(105, con105 n), (119, con119 n)], n, [], 52, lpL [(4, ⟨[(1, (.c false (.v false (.rs 67 yE)))), (2, (.b 33 [(.v false yP)])), (5, (.c false (.v true (.rs 43 (.rs 25 (.rs 3 (.int .i64))))))), (6, kI), (7, (.c false (.v true (.rs 25 (.rs 3 (.int .i64)))))), (8, (.c false (.r 43 (.rs 25 (.rs 3 (.int .i64)))))), (9, kI), (10, kI)], [((.exit 4), [(1, (.c false (.v false (.rs 67 yE)))), (2, (.b 33 [(.v false yP)])), (5, (.c false (.v true (.rs 43 (.rs 25 (.rs 3 (.int .i64))))))), (6, kI), (7, (.c false (.v true (.rs 25 (.rs 3 (.int .i64)))))), (8, (.c false (.r 43 (.rs 25 (.rs 3 (.int .i64)))))), (9, kI)])], fun m v => L77_4 n m v.1 v.2.1 v.2.2.1 v.2.2.2.1 v.2.2.2.2.1 v.2.2.2.2.2.1 v.2.2.2.2.2.2.1 v.2.2.2.2.2.2.2.1⟩), (2, ⟨[(1, (.c false (.v false (.rs 67 yE)))), (2, (.b 33 [(.v false yP)])), (5, (.c false (.v true (.rs 43 (.rs 25 (.rs 3 (.int .i64))))))), (6, kI), (7, (.c false (.v true (.rs 25 (.rs 3 (.int .i64)))))), (8, (.c false (.r 43 (.rs 25 (.rs 3 (.int .i64)))))), (9, kI)], [((.exit 2), [(1, (.c false (.v false (.rs 67 yE)))), (2, (.b 33 [(.v false yP)])), (6, kI), (8, (.c false (.r 43 (.rs 25 (.rs 3 (.int .i64))))))])], fun m v => L77_2 n m v.1 v.2.1 v.2.2.1 v.2.2.2.1 v.2.2.2.2.1 v.2.2.2.2.2.1 v.2.2.2.2.2.2.1⟩), (0, ⟨[(1, (.c false (.v false (.rs 67 yE)))), (2, (.b 33 [(.v false yP)])), (5, (.c false (.v true (.rs 43 (.rs 25 (.rs 3 (.int .i64))))))), (6, kI)], [((.exit 0), [(5, (.c false (.v true (.rs 43 (.rs 25 (.rs 3 (.int .i64)))))))])], fun m v => L77_0 n m v.1 v.2.1 v.2.2.1 v.2.2.2.1⟩)], ctL [], [], false⟩
noncomputable def code77 : Code := Try.f77.body.getD .skip
theorem tb77_ok (n : Nat) : (tb77 n).ok Try.prog := tbOk mixed (⟨con105_ok n, ⟨con119_ok n, trivial⟩⟩)
theorem lp77_4 (n : Nat) : LpAt (tb77 n) (loopBody code77 4) 4 := lpAt rfl (fun _ => by kernel_rfl) (fun _ _ => by kernel_rfl)
theorem lp77_2 (n : Nat) : LpAt (tb77 n) (loopBody code77 2) 2 := lpAt rfl (fun _ => by kernel_rfl) (fun _ _ => by kernel_rfl)
theorem lp77_0 (n : Nat) : LpAt (tb77 n) (loopBody code77 0) 0 := lpAt rfl (fun _ => by kernel_rfl) (fun _ _ => by kernel_rfl)
theorem blocks77 : blocks code77 = [(0, .loop (loopBody code77 0)), (1, blockBody code77 1), (2, .loop (loopBody code77 2)), (3, blockBody code77 3), (4, .loop (loopBody code77 4)), (5, blockBody code77 5)] := by kernel_rfl
theorem la77 (n : Nat) : LpAll (tb77 n) code77 := lpAll blocks77 (bl_loop (lp77_0 n) (bl_none rfl (bl_loop (lp77_2 n) (bl_none rfl (bl_loop (lp77_4 n) (bl_none rfl (bl_nil))))))) rfl (cs_no fun _ => rfl) (by kernel_rfl)
theorem ev77 (n : Nat) (x : pdens [.c true (.v false yP), .c false (.v false (.rs 67 yE))]) : evSig (tb77 n) Try.f77 [.c true (.v false yP), .c false (.v false (.rs 67 yE))] [.c false (.v true (.rs 43 (.rs 25 (.rs 3 (.int .i64)))))] x = F77 n x.1 x.2.1 := by kernel_rfl
theorem con77_ok (n : Nat) : Con.ok Try.prog 77 (con77 n) := conOf_ok (tb77_ok n) (body_la (by kernel_rfl : Try.f77.body = some code77) (la77 n)) Try.func77 (enters Try.func77 (by kernel_rfl) (by kernel_rfl)) rfl rfl (ev77 n)
/-! ### loop.example/fathomline/spec.ExecAll -/
def L35_4 (n : Nat) : Nat → List (List (Int × Int × Int)) × Unit → List (List Int × List (List Int)) → List (Int × Int × Bool) → List (List Int) → List (List (List Int)) → Int → Int → List Int × List (List Int) × Unit → Int → Option (odens [((.exit 4), [(1, (.b 33 [(.v false yP)])), (3, (.c false (.o (.rs 48 yX)))), (4, (.c false (.v true (.rs 67 yE)))), (5, (.c false (.v true (.rs 25 (.rs 3 (.int .i64)))))), (6, (.c false (.v true (.rs 43 (.rs 25 (.rs 3 (.int .i64))))))), (7, kI), (8, kI), (9, (.b 48 [(.r 3 (.int .i64)), (.o (.rs 25 (.rs 3 (.int .i64))))]))])])
  | 0, _, _, _, _, _, _, _, _, _ => none
  | m + 1, x18, x19, x20, x21, x22, x23, x24, x25, x26 =>
    if (0 : Int) ≤ x24 then
    if x24 < (↑x22.length : Int) then
    cond (Decidable.decide (x26 < (↑(List.length (x22.getD x24.toNat [])) : Int)))
    (if (0 : Int) ≤ x24 then
     if x24 < (↑x22.length : Int) then
     if (0 : Int) ≤ x26 then
     if x26 < (↑(List.length (x22.getD x24.toNat [])) : Int) then
     if ((0 : Nat) + List.length (List.getD (x22.getD x24.toNat []) x26.toNat [])) * (8 : Nat) ≤ (140737488355328 : Nat) then
     if (List.length x25.snd.fst + [List.getD (x22.getD x24.toNat []) x26.toNat []].length) * (24 : Nat) ≤ (140737488355328 : Nat) then
     L35_4 n m ((x18.fst, ())) (x19) (x20) (x21) (x22) (x23) (x24) ((x25.fst, x25.snd.fst ++ [List.getD (x22.getD x24.toNat []) x26.toNat []], ())) (Go.IntKind.i64.wrap (x26 + (1 : Int)))
     else none
     else none
     else none
     else none
     else none
     else none)
    (some (Sum.inl ((x18.fst, ()), x19, x20, x21, x22, x23, x24, (x25.fst, x25.snd.fst, ()), ())))
    else none
    else none
def J35_12 (n : Nat) (x29 : List (List (Int × Int × Int)) × Unit) (x30 : List (List Int × List (List Int))) (x31 : List (Int × Int × Bool)) (x32 : List (List Int)) (x33 : List (List (List Int))) (x34 : Int) (x35 : Int) : Option (odens [(.normal, [(1, (.b 33 [(.v false yP)])), (3, (.c false (.o (.rs 48 yX)))), (4, (.c false (.v true (.rs 67 yE)))), (5, (.c false (.v true (.rs 25 (.rs 3 (.int .i64)))))), (6, (.c false (.v true (.rs 43 (.rs 25 (.rs 3 (.int .i64))))))), (7, kI), (8, kI)])]) :=
    some (Sum.inl ((x29.fst, ()), x30, x31, x32, x33, x34, Go.IntKind.i64.wrap (x35 + (1 : Int)), ()))
def L35_2 (n : Nat) : Nat → List (List (Int × Int × Int)) × Unit → List (List Int × List (List Int)) → List (Int × Int × Bool) → List (List Int) → List (List (List Int)) → Int → Int → Option (odens [((.exit 2), [(1, (.b 33 [(.v false yP)])), (3, (.c false (.o (.rs 48 yX)))), (4, (.c false (.v true (.rs 67 yE)))), (5, (.c false (.v true (.rs 25 (.rs 3 (.int .i64)))))), (6, (.c false (.v true (.rs 43 (.rs 25 (.rs 3 (.int .i64))))))), (7, kI)])])
  | 0, _, _, _, _, _, _, _ => none
  | m + 1, x11, x12, x13, x14, x15, x16, x17 =>
    cond (Decidable.decide (x17 < (↑x15.length : Int)))
    (if (0 : Int) ≤ x16 then
     if x16 < (↑x14.length : Int) then
     if ((0 : Nat) + List.length (x14.getD x16.toNat [])) * (8 : Nat) ≤ (140737488355328 : Nat) then
     match L35_4 n n ((x11.fst, ())) (x12) (x13) (x14) (x15) (x16) (x17) ((x14.getD x16.toNat [], [], ())) ((0 : Int)) with
     | none => none
     | some (Sum.inl v27) =>
      (F67 n (v27.fst.fst) (v27.snd.snd.fst) ((v27.snd.snd.snd.snd.snd.snd.snd.fst.fst, v27.snd.snd.snd.snd.snd.snd.snd.fst.snd.fst))).bind fun y28 =>
      cond (y28.fst)
      (if (List.length v27.snd.fst + [(v27.snd.snd.snd.snd.snd.snd.snd.fst.fst, v27.snd.snd.snd.snd.snd.snd.snd.fst.snd.fst)].length) * (48 : Nat) ≤ (140737488355328 : Nat) then
       match J35_12 n ((v27.fst.fst, ())) (v27.snd.fst ++ [(v27.snd.snd.snd.snd.snd.snd.snd.fst.fst, v27.snd.snd.snd.snd.snd.snd.snd.fst.snd.fst)]) (v27.snd.snd.fst) (v27.snd.snd.snd.fst) (v27.snd.snd.snd.snd.fst) (v27.snd.snd.snd.snd.snd.fst) (v27.snd.snd.snd.snd.snd.snd.fst) with
       | none => none
       | some (Sum.inl v36) =>
        L35_2 n m ((v36.fst.fst, ())) (v36.snd.fst) (v36.snd.snd.fst) (v36.snd.snd.snd.fst) (v36.snd.snd.snd.snd.fst) (v36.snd.snd.snd.snd.snd.fst) (v36.snd.snd.snd.snd.snd.snd.fst)
       else none)
      (match J35_12 n ((v27.fst.fst, ())) (v27.snd.fst) (v27.snd.snd.fst) (v27.snd.snd.snd.fst) (v27.snd.snd.snd.snd.fst) (v27.snd.snd.snd.snd.snd.fst) (v27.snd.snd.snd.snd.snd.snd.fst) with
       | none => none
       | some (Sum.inl v37) =>
        L35_2 n m ((v37.fst.fst, ())) (v37.snd.fst) (v37.snd.snd.fst) (v37.snd.snd.snd.fst) (v37.snd.snd.snd.snd.fst) (v37.snd.snd.snd.snd.snd.fst) (v37.snd.snd.snd.snd.snd.snd.fst))
     else none
     else none
     else none)
    (some (Sum.inl ((x11.fst, ()), x12, x13, x14, x15, x16, ())))
def L35_0 (n : Nat) : Nat → List (List (Int × Int × Int)) × Unit → List (List Int × List (List Int)) → List (Int × Int × Bool) → List (List Int) → List (List (List Int)) → Int → Option (odens [((.exit 0), [(3, (.c false (.o (.rs 48 yX))))])])
  | 0, _, _, _, _, _, _ => none
  | m + 1, x5, x6, x7, x8, x9, x10 =>
    cond (Decidable.decide (x10 < (↑x8.length : Int)))
    (match L35_2 n n ((x5.fst, ())) (x6) (x7) (x8) (x9) (x10) ((0 : Int)) with
     | none => none
     | some (Sum.inl v38) =>
      L35_0 n m ((v38.fst.fst, ())) (v38.snd.fst) (v38.snd.snd.fst) (v38.snd.snd.snd.fst) (v38.snd.snd.snd.snd.fst) (Go.IntKind.i64.wrap (v38.snd.snd.snd.snd.snd.fst + (1 : Int))))
    (some (Sum.inl (x6, ())))
def F35 (n : Nat) (a0 : List (List (Int × Int × Int))) : Option (rdens [.c true (.v false yP)] [.c false (.o (.rs 48 yX))]) :=
  (F36 n (a0)).bind fun y1 =>
  cond (!y1.fst)
  (some ([], ()))
  ((F65 n (a0)).bind fun y2 =>
   (F76 n (a0) (y2.fst) ([]) ([])).bind fun y3 =>
   (F77 n (a0) (y2.fst)).bind fun y4 =>
   match L35_0 n n ((a0, ())) ([]) (y2.fst) (y3.fst) (y4.fst) ((0 : Int)) with
   | none => none
   | some (Sum.inl v39) =>
    some (v39.fst, ()))
noncomputable def con35 (n : Nat) : Con := conOf [.c true (.v false yP)] [.c false (.o (.rs 48 yX))] fun x => F35 n x.1
noncomputable def tb35 (n : Nat) : Tb := ⟨tiOf Try.prog, conL [(36, con36 n), (65, con65 n), (76, con76 n), (77, con77 n), (67, con67 n)], n, [], 75, lpL [(4, ⟨[(1, (.b 33 [(.v false yP)])), (3, (.c false (.o (.rs 48 yX)))), (4, (.c false (.v true (.rs 67 yE)))), (5, (.c false (.v true (.rs 25 (.rs 3 (.int .i64)))))), (6, (.c false (.v true (.rs 43 (.rs 25 (.rs 3 (.int .i64))))))), (7, kI), (8, kI), (9, (.b 48 [(.r 3 (.int .i64)), (.o (.rs 25 (.rs 3 (.int .i64))))])), (10, kI)], [((.exit 4), [(1, (.b 33 [(.v false yP)])), (3, (.c false (.o (.rs 48 yX)))), (4, (.c false (.v true (.rs 67 yE)))), (5, (.c false (.v true (.rs 25 (.rs 3 (.int .i64)))))), (6, (.c false (.v true (.rs 43 (.rs 25 (.rs 3 (.int .i64))))))), (7, kI), (8, kI), (9, (.b 48 [(.r 3 (.int .i64)), (.o (.rs 25 (.rs 3 (.int .i64))))]))])], fun m v => L35_4 n m v.1 v.2.1 v.2.2.1 v.2.2.2.1 v.2.2.2.2.1 v.2.2.2.2.2.1 v.2.2.2.2.2.2.1 v.2.2.2.2.2.2.2.1 v.2.2.2.2.2.2.2.2.1⟩), (2, ⟨[(1, (.b 33 [(.v false yP)])), (3, (.c false (.o (.rs 48 yX)))), (4, (.c false (.v true (.rs 67 yE)))), (5, (.c false (.v true (.rs 25 (.rs 3 (.int .i64)))))), (6, (.c false (.v true (.rs 43 (.rs 25 (.rs 3 (.int .i64))))))), (7, kI), (8, kI)], [((.exit 2), [(1, (.b 33 [(.v false yP)])), (3, (.c false (.o (.rs 48 yX)))), (4, (.c false (.v true (.rs 67 yE)))), (5, (.c false (.v true (.rs 25 (.rs 3 (.int .i64)))))), (6, (.c false (.v true (.rs 43 (.rs 25 (.rs 3 (.int .i64))))))), (7, kI)])], fun m v => L35_2 n m v.1 v.2.1 v.2.2.1 v.2.2.2.1 v.2.2.2.2.1 v.2.2.2.2.2.1 v.2.2.2.2.2.2.1⟩), (0, ⟨[(1, (.b 33 [(.v false yP)])), (3, (.c false (.o (.rs 48 yX)))), (4, (.c false (.v true (.rs 67 yE)))), (5, (.c false (.v true (.rs 25 (.rs 3 (.int .i64)))))), (6, (.c false (.v true (.rs 43 (.rs 25 (.rs 3 (.int .i64))))))), (7, kI)], [((.exit 0), [(3, (.c false (.o (.rs 48 yX))))])], fun m v => L35_0 n m v.1 v.2.1 v.2.2.1 v.2.2.2.1 v.2.2.2.2.1 v.2.2.2.2.2.1⟩)], ctL [(12, ⟨[(1, (.b 33 [(.v false yP)])), (3, (.c false (.o (.rs 48 yX)))), (4, (.c false (.v true (.rs 67 yE)))), (5, (.c false (.v true (.rs 25 (.rs 3 (.int .i64)))))), (6, (.c false (.v true (.rs 43 (.rs 25 (.rs 3 (.int .i64))))))), (7, kI), (8, kI)], [(.normal, [(1, (.b 33 [(.v false yP)])), (3, (.c false (.o (.rs 48 yX)))), (4, (.c false (.v true (.rs 67 yE)))), (5, (.c false (.v true (.rs 25 (.rs 3 (.int .i64)))))), (6, (.c false (.v true (.rs 43 (.rs 25 (.rs 3 (.int .i64))))))), (7, kI), (8, kI)])], fun v => J35_12 n v.1 v.2.1 v.2.2.1 v.2.2.2.1 v.2.2.2.2.1 v.2.2.2.2.2.1 v.2.2.2.2.2.2.1⟩)], [], true⟩
noncomputable def code35 : Code := Try.f35.body.getD .skip
theorem tb35_ok (n : Nat) : (tb35 n).ok Try.prog := tbOk mixed (⟨con36_ok n, ⟨con65_ok n, ⟨con76_ok n, ⟨con77_ok n, ⟨con67_ok n, trivial⟩⟩⟩⟩⟩)
theorem lp35_4 (n : Nat) : LpAt (tb35 n) (loopBody code35 4) 4 := lpAt rfl (fun _ => by kernel_rfl) (fun _ _ => by kernel_rfl)
theorem lp35_2 (n : Nat) : LpAt (tb35 n) (loopBody code35 2) 2 := lpAt rfl (fun _ => by kernel_rfl) (fun _ _ => by kernel_rfl)
theorem lp35_0 (n : Nat) : LpAt (tb35 n) (loopBody code35 0) 0 := lpAt rfl (fun _ => by kernel_rfl) (fun _ _ => by kernel_rfl)
theorem blocks35 : blocks code35 = [(0, .loop (loopBody code35 0)), (1, blockBody code35 1), (2, .loop (loopBody code35 2)), (3, blockBody code35 3), (4, .loop (loopBody code35 4)), (5, blockBody code35 5)] := by kernel_rfl
theorem ct35_12 (n : Nat) : CtOk (tb35 n) (sec code35 16).2 ⟨[(1, (.b 33 [(.v false yP)])), (3, (.c false (.o (.rs 48 yX)))), (4, (.c false (.v true (.rs 67 yE)))), (5, (.c false (.v true (.rs 25 (.rs 3 (.int .i64)))))), (6, (.c false (.v true (.rs 43 (.rs 25 (.rs 3 (.int .i64))))))), (7, kI), (8, kI)], [(.normal, [(1, (.b 33 [(.v false yP)])), (3, (.c false (.o (.rs 48 yX)))), (4, (.c false (.v true (.rs 67 yE)))), (5, (.c false (.v true (.rs 25 (.rs 3 (.int .i64)))))), (6, (.c false (.v true (.rs 43 (.rs 25 (.rs 3 (.int .i64))))))), (7, kI), (8, kI)])], fun v => J35_12 n v.1 v.2.1 v.2.2.1 v.2.2.2.1 v.2.2.2.2.1 v.2.2.2.2.2.1 v.2.2.2.2.2.2.1⟩ := fun _ => by kernel_rfl
theorem secs35 : seconds code35 = [(some 1, (sec code35 0).2), (some 2, (sec code35 1).2), (some 4, (sec code35 2).2), (none, (sec code35 3).2), (none, (sec code35 4).2), (some 5, (sec code35 5).2), (some 6, (sec code35 6).2), (some 7, (sec code35 7).2), (some 20, (sec code35 8).2), (some 8, (sec code35 9).2), (some 10, (sec code35 10).2), (none, (sec code35 11).2), (some 9, (sec code35 12).2), (some 11, (sec code35 13).2), (some 13, (sec code35 14).2), (none, (sec code35 15).2), (some 12, (sec code35 16).2), (some 14, (sec code35 17).2), (some 18, (sec code35 18).2), (some 15, (sec code35 19).2), (some 17, (sec code35 20).2), (none, (sec code35 21).2), (some 16, (sec code35 22).2), (none, (sec code35 23).2), (none, (sec code35 24).2)] := by kernel_rfl
theorem la35 (n : Nat) : LpAll (tb35 n) code35 := lpAll blocks35 (bl_loop (lp35_0 n) (bl_none rfl (bl_loop (lp35_2 n) (bl_none rfl (bl_loop (lp35_4 n) (bl_none rfl (bl_nil))))))) secs35 (cs_none rfl (cs_none rfl (cs_none rfl (cs_none rfl (cs_none rfl (cs_none rfl (cs_none rfl (cs_none rfl (cs_none rfl (cs_none rfl (cs_none rfl (cs_none rfl (cs_none rfl (cs_none rfl (cs_none rfl (cs_none rfl (cs_one rfl (ct35_12 n) (cs_none rfl (cs_none rfl (cs_none rfl (cs_none rfl (cs_none rfl (cs_none rfl (cs_none rfl (cs_none rfl (cs_nil)))))))))))))))))))))))))) (by kernel_rfl)
theorem ev35 (n : Nat) (x : pdens [.c true (.v false yP)]) : evSig (tb35 n) Try.f35 [.c true (.v false yP)] [.c false (.o (.rs 48 yX))] x = F35 n x.1 := by kernel_rfl
theorem con35_ok (n : Nat) : Con.ok Try.prog 35 (con35 n) := conOf_ok (tb35_ok n) (body_la (by kernel_rfl : Try.f35.body = some code35) (la35 n)) Try.func35 (enters Try.func35 (by kernel_rfl) (by kernel_rfl)) rfl rfl (ev35 n)
end Go.Proofs.Ytdacfaincamliaa.Ev
