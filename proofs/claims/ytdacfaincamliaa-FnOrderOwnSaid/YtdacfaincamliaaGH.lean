/- Plain functions that the loaded code comes to, and that it does. Conditions: none. -/
import Derived.Test.YtdacfaincamliaaGI
import Derived.Test.YtdacfaincamliaaGV
namespace Go.Proofs.Ytdacfaincamliaa.Ev
open Go Go.Proofs
/-! ### loop.example/fathomline/spec.DrawExecOk -/
def F44 (n : Nat) (a0 : List Int) : Option (rdens [.c false (.v true (.rs 5 (.int .u8)))] [.c true (.v true yP), .c true (.o yX)]) :=
  (F74 n (a0)).bind fun y1 =>
  (F82 n (((y1.fst.fst.fst, y1.fst.fst.snd), ()))).bind fun y2 =>
  some (y2.fst, (y2.snd.fst.fst, y2.snd.fst.snd), ())
noncomputable def con44 (n : Nat) : Con := conOf [.c false (.v true (.rs 5 (.int .u8)))] [.c true (.v true yP), .c true (.o yX)] fun x => F44 n x.1
noncomputable def tb44 (n : Nat) : Tb := ⟨tiOf Try.prog, conL [(74, con74 n), (82, con82 n)], n, [], 9, lpL [], ctL [], [], true⟩
noncomputable def code44 : Code := Try.f44.body.getD .skip
theorem tb44_ok (n : Nat) : (tb44 n).ok Try.prog := tbOk mixed (⟨con74_ok n, ⟨con82_ok n, trivial⟩⟩)
theorem blocks44 : blocks code44 = [] := by kernel_rfl
theorem la44 (n : Nat) : LpAll (tb44 n) code44 := lpAll blocks44 (bl_nil) rfl (cs_no fun _ => rfl) (by kernel_rfl)
theorem ev44 (n : Nat) (x : pdens [.c false (.v true (.rs 5 (.int .u8)))]) : evSig (tb44 n) Try.f44 [.c false (.v true (.rs 5 (.int .u8)))] [.c true (.v true yP), .c true (.o yX)] x = F44 n x.1 := by kernel_rfl
theorem con44_ok (n : Nat) : Con.ok Try.prog 44 (con44 n) := conOf_ok (tb44_ok n) (body_la (by kernel_rfl : Try.f44.body = some code44) (la44 n)) Try.func44 (enters Try.func44 (by kernel_rfl) (by kernel_rfl)) rfl rfl (ev44 n)
/-! ### loop.example/fathomline/laws.lpKind -/
def F45 (n : Nat) (a0 : List (List (Int × Int × Int))) (a1 : Int × Int × Bool) : Option (rdens [.c true (.v false yP), .c true (.v true yE)] [.c false (.v true (.int .i64))]) :=
  if (0 : Int) ≤ a1.fst then
  if a1.fst < (↑a0.length : Int) then
  if (0 : Int) ≤ a1.snd.fst then
  if a1.snd.fst < (↑(List.length (a0.getD (Int.toNat a1.fst) [])) : Int) then
  some ((List.getD (a0.getD (Int.toNat a1.fst) []) (Int.toNat a1.snd.fst) ((0 : Int), (0 : Int), (0 : Int))).fst, ())
  else none
  else none
  else none
  else none
noncomputable def con45 (n : Nat) : Con := conOf [.c true (.v false yP), .c true (.v true yE)] [.c false (.v true (.int .i64))] fun x => F45 n x.1 x.2.1
noncomputable def tb45 (n : Nat) : Tb := ⟨tiOf Try.prog, conL [], n, [], 16, lpL [], ctL [], [], true⟩
noncomputable def code45 : Code := Try.f45.body.getD .skip
theorem tb45_ok (n : Nat) : (tb45 n).ok Try.prog := tbOk mixed (trivial)
theorem blocks45 : blocks code45 = [] := by kernel_rfl
theorem la45 (n : Nat) : LpAll (tb45 n) code45 := lpAll blocks45 (bl_nil) rfl (cs_no fun _ => rfl) (by kernel_rfl)
theorem ev45 (n : Nat) (x : pdens [.c true (.v false yP), .c true (.v true yE)]) : evSig (tb45 n) Try.f45 [.c true (.v false yP), .c true (.v true yE)] [.c false (.v true (.int .i64))] x = F45 n x.1 x.2.1 := by kernel_rfl
theorem con45_ok (n : Nat) : Con.ok Try.prog 45 (con45 n) := conOf_ok (tb45_ok n) (body_la (by kernel_rfl : Try.f45.body = some code45) (la45 n)) Try.func45 (enters Try.func45 (by kernel_rfl) (by kernel_rfl)) rfl rfl (ev45 n)
/-! ### loop.example/fathomline/impl.isOrder -/
def F85 (n : Nat) (a0 : Int) : Option (rdens [.c false (.v true (.int .i64))] [.c false (.v true .bool)]) :=
  (F86 n (a0) ((1 : Int)) ((3 : Int))).bind fun y1 =>
  some (y1.fst, ())
noncomputable def con85 (n : Nat) : Con := conOf [.c false (.v true (.int .i64))] [.c false (.v true .bool)] fun x => F85 n x.1
noncomputable def tb85 (n : Nat) : Tb := ⟨tiOf Try.prog, conL [(86, con86 n)], n, [], 5, lpL [], ctL [], [], true⟩
noncomputable def code85 : Code := Try.f85.body.getD .skip
theorem tb85_ok (n : Nat) : (tb85 n).ok Try.prog := tbOk mixed (⟨con86_ok n, trivial⟩)
theorem blocks85 : blocks code85 = [] := by kernel_rfl
theorem la85 (n : Nat) : LpAll (tb85 n) code85 := lpAll blocks85 (bl_nil) rfl (cs_no fun _ => rfl) (by kernel_rfl)
theorem ev85 (n : Nat) (x : pdens [.c false (.v true (.int .i64))]) : evSig (tb85 n) Try.f85 [.c false (.v true (.int .i64))] [.c false (.v true .bool)] x = F85 n x.1 := by kernel_rfl
theorem con85_ok (n : Nat) : Con.ok Try.prog 85 (con85 n) := conOf_ok (tb85_ok n) (body_la (by kernel_rfl : Try.f85.body = some code85) (la85 n)) Try.func85 (enters Try.func85 (by kernel_rfl) (by kernel_rfl)) rfl rfl (ev85 n)
/-! ### (loop.example/fathomline/impl.scene).own -/
def F122 (n : Nat) (a0 : List (List (Int × Int × Int)) × List (Int × Int × Bool) × List (Int × Int × Int)) (a1 : Int) (a2 : Int) : Option (rdens [.c true (.v false (.pair yP (.pair (.rs 67 yE) (.rs 59 yD)))), .c false (.v true (.int .i64)), .c false (.v true (.int .i64))] [.c false (.v true .bool)]) :=
  cond (Decidable.decide (a1 < a2))
  (if (0 : Int) ≤ a1 then
   if a1 < (↑(List.length a0.snd.fst) : Int) then
   if (0 : Int) ≤ a2 then
   if a2 < (↑(List.length a0.snd.fst) : Int) then
   some ((List.getD a0.snd.fst a1.toNat ((0 : Int), (0 : Int), Bool.false)).fst == (List.getD a0.snd.fst a2.toNat ((0 : Int), (0 : Int), Bool.false)).fst, ())
   else none
   else none
   else none
   else none)
  (some (Bool.false, ()))
noncomputable def con122 (n : Nat) : Con := conOf [.c true (.v false (.pair yP (.pair (.rs 67 yE) (.rs 59 yD)))), .c false (.v true (.int .i64)), .c false (.v true (.int .i64))] [.c false (.v true .bool)] fun x => F122 n x.1 x.2.1 x.2.2.1
noncomputable def tb122 (n : Nat) : Tb := ⟨tiOf Try.prog, conL [], n, [], 25, lpL [], ctL [], [], true⟩
noncomputable def code122 : Code := Try.f122.body.getD .skip
theorem tb122_ok (n : Nat) : (tb122 n).ok Try.prog := tbOk mixed (trivial)
theorem blocks122 : blocks code122 = [] := by kernel_rfl
theorem la122 (n : Nat) : LpAll (tb122 n) code122 := lpAll blocks122 (bl_nil) rfl (cs_no fun _ => rfl) (by kernel_rfl)
theorem ev122 (n : Nat) (x : pdens [.c true (.v false (.pair yP (.pair (.rs 67 yE) (.rs 59 yD)))), .c false (.v true (.int .i64)), .c false (.v true (.int .i64))]) : evSig (tb122 n) Try.f122 [.c true (.v false (.pair yP (.pair (.rs 67 yE) (.rs 59 yD)))), .c false (.v true (.int .i64)), .c false (.v true (.int .i64))] [.c false (.v true .bool)] x = F122 n x.1 x.2.1 x.2.2.1 := by kernel_rfl
theorem con122_ok (n : Nat) : Con.ok Try.prog 122 (con122 n) := conOf_ok (tb122_ok n) (body_la (by kernel_rfl : Try.f122.body = some code122) (la122 n)) Try.func122 (enters Try.func122 (by kernel_rfl) (by kernel_rfl)) rfl rfl (ev122 n)
/-! ### (loop.example/fathomline/impl.scene).over -/
def J123_8 (n : Nat) (x9 : Int) (x10 : List Int) (x11 : Int) : Option (odens [(.ret, [(8, kB)])]) :=
    (F149 n (x10) (x11)).bind fun y12 =>
    (F149 n (x10) (x9)).bind fun y13 =>
    some (Sum.inl (Decidable.decide (y12.fst < y13.fst), ()))
def J123_4 (n : Nat) (x3 : Int) (x4 : Int) (x5 : (List Int × List (List Int)) × Unit) (x6 : (Int × Int × Int) × Unit) (x7 : (Int × Int × Int) × Unit) : Option (odens [(.ret, [(8, kB)])]) :=
    if (0 : Int) ≤ x7.fst.snd.fst then
    if x7.fst.snd.fst < (↑(List.length x5.fst.snd) : Int) then
    (F121 n ((x6.fst.fst, x6.fst.snd.fst, x6.fst.snd.snd))).bind fun y8 =>
    cond (y8.fst)
    (if (0 : Int) ≤ x3 then
     if x3 < (↑(List.length x5.fst.fst) : Int) then
     match J123_8 n (x4) (List.getD x5.fst.snd (Int.toNat x7.fst.snd.fst) []) (List.getD x5.fst.fst x3.toNat (0 : Int)) with
     | none => none
     | some (Sum.inl v14) =>
      some (Sum.inl (v14.fst, ()))
     else none
     else none)
    (match J123_8 n (x4) (List.getD x5.fst.snd (Int.toNat x7.fst.snd.fst) []) (x3) with
     | none => none
     | some (Sum.inl v15) =>
      some (Sum.inl (v15.fst, ())))
    else none
    else none
def F123 (n : Nat) (a0 : List (List (Int × Int × Int)) × List (Int × Int × Bool) × List (Int × Int × Int)) (a1 : List Int × List (List Int)) (a2 : Int) (a3 : Int) : Option (rdens [.c true (.v false (.pair yP (.pair (.rs 67 yE) (.rs 59 yD)))), .c true (.v false yX), .c false (.v true (.int .i64)), .c false (.v true (.int .i64))] [.c false (.v true .bool)]) :=
  if (0 : Int) ≤ a2 then
  if a2 < (↑(List.length a0.snd.snd) : Int) then
  if (0 : Int) ≤ a3 then
  if a3 < (↑(List.length a0.snd.snd) : Int) then
  cond (a2 == a3)
  (some (Bool.false, ()))
  ((F110 n (((List.getD a0.snd.snd a2.toNat ((0 : Int), (0 : Int), (0 : Int))).fst, (List.getD a0.snd.snd a2.toNat ((0 : Int), (0 : Int), (0 : Int))).snd.fst, (List.getD a0.snd.snd a2.toNat ((0 : Int), (0 : Int), (0 : Int))).snd.snd))).bind fun y1 =>
   cond (!y1.fst)
   (some (Bool.false, ()))
   ((F124 n (((List.getD a0.snd.snd a3.toNat ((0 : Int), (0 : Int), (0 : Int))).fst, (List.getD a0.snd.snd a3.toNat ((0 : Int), (0 : Int), (0 : Int))).snd.fst, (List.getD a0.snd.snd a3.toNat ((0 : Int), (0 : Int), (0 : Int))).snd.snd))).bind fun y2 =>
    cond (!y2.fst)
    (some (Bool.false, ()))
    (cond ((List.getD a0.snd.snd a2.toNat ((0 : Int), (0 : Int), (0 : Int))).snd.fst != (List.getD a0.snd.snd a3.toNat ((0 : Int), (0 : Int), (0 : Int))).snd.fst)
     (some (Bool.false, ()))
     (match J123_4 n (a2) (a3) (((a1.fst, a1.snd), ())) ((((List.getD a0.snd.snd a2.toNat ((0 : Int), (0 : Int), (0 : Int))).fst, (List.getD a0.snd.snd a2.toNat ((0 : Int), (0 : Int), (0 : Int))).snd.fst, (List.getD a0.snd.snd a2.toNat ((0 : Int), (0 : Int), (0 : Int))).snd.snd), ())) ((((List.getD a0.snd.snd a3.toNat ((0 : Int), (0 : Int), (0 : Int))).fst, (List.getD a0.snd.snd a3.toNat ((0 : Int), (0 : Int), (0 : Int))).snd.fst, (List.getD a0.snd.snd a3.toNat ((0 : Int), (0 : Int), (0 : Int))).snd.snd), ())) with
      | none => none
      | some (Sum.inl v16) =>
       some (v16.fst, ())))))
  else none
  else none
  else none
  else none
noncomputable def con123 (n : Nat) : Con := conOf [.c true (.v false (.pair yP (.pair (.rs 67 yE) (.rs 59 yD)))), .c true (.v false yX), .c false (.v true (.int .i64)), .c false (.v true (.int .i64))] [.c false (.v true .bool)] fun x => F123 n x.1 x.2.1 x.2.2.1 x.2.2.2.1
noncomputable def tb123 (n : Nat) : Tb := ⟨tiOf Try.prog, conL [(110, con110 n), (124, con124 n), (121, con121 n), (149, con149 n)], n, [], 64, lpL [], ctL [(8, ⟨[(3, kI), (11, (.c false (.v false (.rs 3 (.int .i64))))), (12, kI)], [(.ret, [(8, kB)])], fun v => J123_8 n v.1 v.2.1 v.2.2.1⟩), (4, ⟨[(2, kI), (3, kI), (5, (.b 48 [(.v false yX)])), (9, (.b 59 [(.v true yD)])), (10, (.b 59 [(.v true yD)]))], [(.ret, [(8, kB)])], fun v => J123_4 n v.1 v.2.1 v.2.2.1 v.2.2.2.1 v.2.2.2.2.1⟩)], [], true⟩
noncomputable def code123 : Code := Try.f123.body.getD .skip
theorem tb123_ok (n : Nat) : (tb123 n).ok Try.prog := tbOk mixed (⟨con110_ok n, ⟨con124_ok n, ⟨con121_ok n, ⟨con149_ok n, trivial⟩⟩⟩⟩)
theorem blocks123 : blocks code123 = [] := by kernel_rfl
theorem ct123_4 (n : Nat) : CtOk (tb123 n) (sec code123 2).2 ⟨[(2, kI), (3, kI), (5, (.b 48 [(.v false yX)])), (9, (.b 59 [(.v true yD)])), (10, (.b 59 [(.v true yD)]))], [(.ret, [(8, kB)])], fun v => J123_4 n v.1 v.2.1 v.2.2.1 v.2.2.2.1 v.2.2.2.2.1⟩ := fun _ => by kernel_rfl
theorem ct123_8 (n : Nat) : CtOk (tb123 n) (sec code123 7).2 ⟨[(3, kI), (11, (.c false (.v false (.rs 3 (.int .i64))))), (12, kI)], [(.ret, [(8, kB)])], fun v => J123_8 n v.1 v.2.1 v.2.2.1⟩ := fun _ => by kernel_rfl
theorem secs123 : seconds code123 = [(some 1, (sec code123 0).2), (some 2, (sec code123 1).2), (some 4, (sec code123 2).2), (none, (sec code123 3).2), (none, (sec code123 4).2), (some 5, (sec code123 5).2), (some 6, (sec code123 6).2), (some 8, (sec code123 7).2), (none, (sec code123 8).2), (none, (sec code123 9).2)] := by kernel_rfl
theorem la123 (n : Nat) : LpAll (tb123 n) code123 := lpAll blocks123 (bl_nil) secs123 (cs_none rfl (cs_none rfl (cs_one rfl (ct123_4 n) (cs_none rfl (cs_none rfl (cs_none rfl (cs_none rfl (cs_one rfl (ct123_8 n) (cs_none rfl (cs_none rfl (cs_nil))))))))))) (by kernel_rfl)
theorem ev123 (n : Nat) (x : pdens [.c true (.v false (.pair yP (.pair (.rs 67 yE) (.rs 59 yD)))), .c true (.v false yX), .c false (.v true (.int .i64)), .c false (.v true (.int .i64))]) : evSig (tb123 n) Try.f123 [.c true (.v false (.pair yP (.pair (.rs 67 yE) (.rs 59 yD)))), .c true (.v false yX), .c false (.v true (.int .i64)), .c false (.v true (.int .i64))] [.c false (.v true .bool)] x = F123 n x.1 x.2.1 x.2.2.1 x.2.2.2.1 := by kernel_rfl
theorem con123_ok (n : Nat) : Con.ok Try.prog 123 (con123 n) := conOf_ok (tb123_ok n) (body_la (by kernel_rfl : Try.f123.body = some code123) (la123 n)) Try.func123 (enters Try.func123 (by kernel_rfl) (by kernel_rfl)) rfl rfl (ev123 n)
/-! ### (loop.example/fathomline/impl.scene).inside -/
def J150_6 (n : Nat) (x5 : Int) (x6 : (List (List (Int × Int × Int)) × List (Int × Int × Bool) × List (Int × Int × Int)) × Unit) (x7 : Int) (x8 : Int) : Option (odens [(.ret, [(4, kI), (5, kI), (6, kB)]), (.normal, [(1, kI), (2, (.b 95 [(.v false (.pair yP (.pair (.rs 67 yE) (.rs 59 yD))))])), (4, kI), (7, kI)])]) :=
    cond (Decidable.decide (Go.IntKind.i64.wrap (x7 - (1 : Int)) < (0 : Int)))
    (some (Sum.inl ((0 : Int), (0 : Int), Bool.false, ())))
    (if (0 : Int) ≤ Go.IntKind.i64.wrap (x7 - (1 : Int)) then
     if Go.IntKind.i64.wrap (x7 - (1 : Int)) < (↑(List.length x6.fst.snd.fst) : Int) then
     cond ((List.getD x6.fst.snd.fst (Go.IntKind.i64.wrap (x7 - (1 : Int))).toNat ((0 : Int), (0 : Int), Bool.false)).fst != x8)
     (some (Sum.inl ((0 : Int), (0 : Int), Bool.false, ())))
     (some (Sum.inr (Sum.inl (x5, ((x6.fst.fst, x6.fst.snd.fst, x6.fst.snd.snd), ()), Go.IntKind.i64.wrap (x7 - (1 : Int)), x8, ()))))
     else none
     else none)
def L150_0 (n : Nat) : Nat → Int → (List (List (Int × Int × Int)) × List (Int × Int × Bool) × List (Int × Int × Int)) × Unit → Int → Int → Option (odens [(.ret, [(4, kI), (5, kI), (6, kB)]), ((.exit 0), [(1, kI), (2, (.b 95 [(.v false (.pair yP (.pair (.rs 67 yE) (.rs 59 yD))))])), (4, kI)])])
  | 0, _, _, _, _ => none
  | m + 1, x1, x2, x3, x4 =>
    if (0 : Int) ≤ x3 then
    if x3 < (↑(List.length x2.fst.snd.snd) : Int) then
    cond ((List.getD x2.fst.snd.snd x3.toNat ((0 : Int), (0 : Int), (0 : Int))).fst != (7 : Int))
    (cond (x3 != x1)
     (if (0 : Int) ≤ x3 then
      if x3 < (↑(List.length x2.fst.snd.snd) : Int) then
      cond ((List.getD x2.fst.snd.snd x3.toNat ((0 : Int), (0 : Int), (0 : Int))).fst == (8 : Int))
      (some (Sum.inl ((0 : Int), (0 : Int), Bool.false, ())))
      (match J150_6 n (x1) (((x2.fst.fst, x2.fst.snd.fst, x2.fst.snd.snd), ())) (x3) (x4) with
       | none => none
       | some (Sum.inl v9) =>
        some (Sum.inl (v9.fst, v9.snd.fst, v9.snd.snd.fst, ()))
       | some (Sum.inr (Sum.inl v10)) =>
        L150_0 n m (v10.fst) (((v10.snd.fst.fst.fst, v10.snd.fst.fst.snd.fst, v10.snd.fst.fst.snd.snd), ())) (v10.snd.snd.fst) (v10.snd.snd.snd.fst))
      else none
      else none)
     (match J150_6 n (x1) (((x2.fst.fst, x2.fst.snd.fst, x2.fst.snd.snd), ())) (x3) (x4) with
      | none => none
      | some (Sum.inl v11) =>
       some (Sum.inl (v11.fst, v11.snd.fst, v11.snd.snd.fst, ()))
      | some (Sum.inr (Sum.inl v12)) =>
       L150_0 n m (v12.fst) (((v12.snd.fst.fst.fst, v12.snd.fst.fst.snd.fst, v12.snd.fst.fst.snd.snd), ())) (v12.snd.snd.fst) (v12.snd.snd.snd.fst)))
    (some (Sum.inr (Sum.inl (x1, ((x2.fst.fst, x2.fst.snd.fst, x2.fst.snd.snd), ()), x3, ()))))
    else none
    else none
def L150_2 (n : Nat) : Nat → Int → (List (List (Int × Int × Int)) × List (Int × Int × Bool) × List (Int × Int × Int)) × Unit → Int → Int → Option (odens [((.exit 2), [(1, kI), (4, kI), (5, kI)])])
  | 0, _, _, _, _ => none
  | m + 1, x15, x16, x17, x18 =>
    if (0 : Int) ≤ x18 then
    if x18 < (↑(List.length x16.fst.snd.snd) : Int) then
    cond ((List.getD x16.fst.snd.snd x18.toNat ((0 : Int), (0 : Int), (0 : Int))).fst != (8 : Int))
    (L150_2 n m (x15) (((x16.fst.fst, x16.fst.snd.fst, x16.fst.snd.snd), ())) (x17) (Go.IntKind.i64.wrap (x18 + (1 : Int))))
    (some (Sum.inl (x15, x17, x18, ())))
    else none
    else none
def F150 (n : Nat) (a0 : List (List (Int × Int × Int)) × List (Int × Int × Bool) × List (Int × Int × Int)) (a1 : Int) : Option (rdens [.c true (.v false (.pair yP (.pair (.rs 67 yE) (.rs 59 yD)))), .c false (.v true (.int .i64))] [.c false (.v true (.int .i64)), .c false (.v true (.int .i64)), .c false (.v true .bool)]) :=
  if (0 : Int) ≤ a1 then
  if a1 < (↑(List.length a0.snd.fst) : Int) then
  match L150_0 n n (a1) (((a0.fst, a0.snd.fst, a0.snd.snd), ())) (a1) ((List.getD a0.snd.fst a1.toNat ((0 : Int), (0 : Int), Bool.false)).fst) with
  | none => none
  | some (Sum.inl v13) =>
   some (v13.fst, v13.snd.fst, v13.snd.snd.fst, ())
  | some (Sum.inr (Sum.inl v14)) =>
   match L150_2 n n (v14.fst) (((v14.snd.fst.fst.fst, v14.snd.fst.fst.snd.fst, v14.snd.fst.fst.snd.snd), ())) (v14.snd.snd.fst) (v14.snd.snd.fst) with
   | none => none
   | some (Sum.inl v19) =>
    some (v19.snd.fst, v19.snd.snd.fst, Decidable.decide (v19.fst ≤ v19.snd.snd.fst), ())
  else none
  else none
noncomputable def con150 (n : Nat) : Con := conOf [.c true (.v false (.pair yP (.pair (.rs 67 yE) (.rs 59 yD)))), .c false (.v true (.int .i64))] [.c false (.v true (.int .i64)), .c false (.v true (.int .i64)), .c false (.v true .bool)] fun x => F150 n x.1 x.2.1
noncomputable def tb150 (n : Nat) : Tb := ⟨tiOf Try.prog, conL [], n, [], 63, lpL [(0, ⟨[(1, kI), (2, (.b 95 [(.v false (.pair yP (.pair (.rs 67 yE) (.rs 59 yD))))])), (4, kI), (7, kI)], [(.ret, [(4, kI), (5, kI), (6, kB)]), ((.exit 0), [(1, kI), (2, (.b 95 [(.v false (.pair yP (.pair (.rs 67 yE) (.rs 59 yD))))])), (4, kI)])], fun m v => L150_0 n m v.1 v.2.1 v.2.2.1 v.2.2.2.1⟩), (2, ⟨[(1, kI), (2, (.b 95 [(.v false (.pair yP (.pair (.rs 67 yE) (.rs 59 yD))))])), (4, kI), (5, kI)], [((.exit 2), [(1, kI), (4, kI), (5, kI)])], fun m v => L150_2 n m v.1 v.2.1 v.2.2.1 v.2.2.2.1⟩)], ctL [(6, ⟨[(1, kI), (2, (.b 95 [(.v false (.pair yP (.pair (.rs 67 yE) (.rs 59 yD))))])), (4, kI), (7, kI)], [(.ret, [(4, kI), (5, kI), (6, kB)]), (.normal, [(1, kI), (2, (.b 95 [(.v false (.pair yP (.pair (.rs 67 yE) (.rs 59 yD))))])), (4, kI), (7, kI)])], fun v => J150_6 n v.1 v.2.1 v.2.2.1 v.2.2.2.1⟩)], [], true⟩
noncomputable def code150 : Code := Try.f150.body.getD .skip
theorem tb150_ok (n : Nat) : (tb150 n).ok Try.prog := tbOk mixed (trivial)
theorem lp150_0 (n : Nat) : LpAt (tb150 n) (loopBody code150 0) 0 := lpAt rfl (fun _ => by kernel_rfl) (fun _ _ => by kernel_rfl)
theorem lp150_2 (n : Nat) : LpAt (tb150 n) (loopBody code150 2) 2 := lpAt rfl (fun _ => by kernel_rfl) (fun _ _ => by kernel_rfl)
theorem blocks150 : blocks code150 = [(0, .loop (loopBody code150 0)), (1, blockBody code150 1), (2, .loop (loopBody code150 2)), (3, blockBody code150 3)] := by kernel_rfl
theorem ct150_6 (n : Nat) : CtOk (tb150 n) (sec code150 6).2 ⟨[(1, kI), (2, (.b 95 [(.v false (.pair yP (.pair (.rs 67 yE) (.rs 59 yD))))])), (4, kI), (7, kI)], [(.ret, [(4, kI), (5, kI), (6, kB)]), (.normal, [(1, kI), (2, (.b 95 [(.v false (.pair yP (.pair (.rs 67 yE) (.rs 59 yD))))])), (4, kI), (7, kI)])], fun v => J150_6 n v.1 v.2.1 v.2.2.1 v.2.2.2.1⟩ := fun _ => by kernel_rfl
theorem secs150 : seconds code150 = [(some 1, (sec code150 0).2), (some 2, (sec code150 1).2), (some 3, (sec code150 2).2), (some 9, (sec code150 3).2), (some 4, (sec code150 4).2), (none, (sec code150 5).2), (some 6, (sec code150 6).2), (none, (sec code150 7).2), (none, (sec code150 8).2), (some 7, (sec code150 9).2), (none, (sec code150 10).2), (none, (sec code150 11).2), (some 10, (sec code150 12).2), (some 12, (sec code150 13).2), (some 11, (sec code150 14).2), (none, (sec code150 15).2), (none, (sec code150 16).2)] := by kernel_rfl
theorem la150 (n : Nat) : LpAll (tb150 n) code150 := lpAll blocks150 (bl_loop (lp150_0 n) (bl_none rfl (bl_loop (lp150_2 n) (bl_none rfl (bl_nil))))) secs150 (cs_none rfl (cs_none rfl (cs_none rfl (cs_none rfl (cs_none rfl (cs_none rfl (cs_one rfl (ct150_6 n) (cs_none rfl (cs_none rfl (cs_none rfl (cs_none rfl (cs_none rfl (cs_none rfl (cs_none rfl (cs_none rfl (cs_none rfl (cs_none rfl (cs_nil)))))))))))))))))) (by kernel_rfl)
theorem ev150 (n : Nat) (x : pdens [.c true (.v false (.pair yP (.pair (.rs 67 yE) (.rs 59 yD)))), .c false (.v true (.int .i64))]) : evSig (tb150 n) Try.f150 [.c true (.v false (.pair yP (.pair (.rs 67 yE) (.rs 59 yD)))), .c false (.v true (.int .i64))] [.c false (.v true (.int .i64)), .c false (.v true (.int .i64)), .c false (.v true .bool)] x = F150 n x.1 x.2.1 := by kernel_rfl
theorem con150_ok (n : Nat) : Con.ok Try.prog 150 (con150 n) := conOf_ok (tb150_ok n) (body_la (by kernel_rfl : Try.f150.body = some code150) (la150 n)) Try.func150 (enters Try.func150 (by kernel_rfl) (by kernel_rfl)) rfl rfl (ev150 n)
/-! ### (loop.example/fathomline/impl.scene).loose -/
def J125_10 (n : Nat) (x7 : Int) (x8 : Int) (x9 : (List (List (Int × Int × Int)) × List (Int × Int × Bool) × List (Int × Int × Int)) × Unit) (x10 : (Int × Int × Int) × Unit) : Option (odens [(.ret, [(6, kB)])]) :=
    (F150 n ((x9.fst.fst, x9.fst.snd.fst, x9.fst.snd.snd)) (x7)).bind fun y11 =>
    cond (y11.snd.snd.fst)
    (cond (Decidable.decide (y11.fst ≤ x7))
     (cond (Decidable.decide (x8 ≤ y11.snd.fst))
      (cond (x10.fst.fst == (7 : Int))
       (some (Sum.inl (Bool.true, ())))
       (some (Sum.inl (x8 == y11.snd.fst, ()))))
      (some (Sum.inl (Bool.false, ()))))
     (some (Sum.inl (Bool.false, ()))))
    (some (Sum.inl (Bool.false, ())))
def J125_8 (n : Nat) (x2 : Int) (x3 : Int) (x4 : (List (List (Int × Int × Int)) × List (Int × Int × Bool) × List (Int × Int × Int)) × Unit) (x5 : (Int × Int × Int) × Unit) (x6 : (Int × Int × Int) × Unit) : Option (odens [(.ret, [(6, kB)])]) :=
    cond (x5.fst.fst != (7 : Int))
    (cond (x6.fst.fst != (8 : Int))
     (some (Sum.inl (Bool.false, ())))
     (match J125_10 n (x2) (x3) (((x4.fst.fst, x4.fst.snd.fst, x4.fst.snd.snd), ())) (((x5.fst.fst, x5.fst.snd.fst, x5.fst.snd.snd), ())) with
      | none => none
      | some (Sum.inl v12) =>
       some (Sum.inl (v12.fst, ()))))
    (match J125_10 n (x2) (x3) (((x4.fst.fst, x4.fst.snd.fst, x4.fst.snd.snd), ())) (((x5.fst.fst, x5.fst.snd.fst, x5.fst.snd.snd), ())) with
     | none => none
     | some (Sum.inl v13) =>
      some (Sum.inl (v13.fst, ())))
def F125 (n : Nat) (a0 : List (List (Int × Int × Int)) × List (Int × Int × Bool) × List (Int × Int × Int)) (a1 : Int) (a2 : Int) : Option (rdens [.c true (.v false (.pair yP (.pair (.rs 67 yE) (.rs 59 yD)))), .c false (.v true (.int .i64)), .c false (.v true (.int .i64))] [.c false (.v true .bool)]) :=
  if (0 : Int) ≤ a1 then
  if a1 < (↑(List.length a0.snd.snd) : Int) then
  if (0 : Int) ≤ a2 then
  if a2 < (↑(List.length a0.snd.snd) : Int) then
  cond ((List.getD a0.snd.snd a1.toNat ((0 : Int), (0 : Int), (0 : Int))).fst == (4 : Int))
  (some (Bool.true, ()))
  (cond ((List.getD a0.snd.snd a1.toNat ((0 : Int), (0 : Int), (0 : Int))).fst == (9 : Int))
   (some (Bool.true, ()))
   (cond ((List.getD a0.snd.snd a2.toNat ((0 : Int), (0 : Int), (0 : Int))).fst == (4 : Int))
    (some (Bool.true, ()))
    (cond ((List.getD a0.snd.snd a2.toNat ((0 : Int), (0 : Int), (0 : Int))).fst == (9 : Int))
     (some (Bool.true, ()))
     (cond ((List.getD a0.snd.snd a1.toNat ((0 : Int), (0 : Int), (0 : Int))).fst == (5 : Int))
      (some (Bool.true, ()))
      (cond ((List.getD a0.snd.snd a2.toNat ((0 : Int), (0 : Int), (0 : Int))).fst == (6 : Int))
       (some (Bool.true, ()))
       (cond ((List.getD a0.snd.snd a2.toNat ((0 : Int), (0 : Int), (0 : Int))).fst == (3 : Int))
        ((F141 n ((a0.fst, a0.snd.fst, a0.snd.snd)) (a2)).bind fun y1 =>
         cond (y1.fst == a1)
         (some (Bool.true, ()))
         (match J125_8 n (a1) (a2) (((a0.fst, a0.snd.fst, a0.snd.snd), ())) ((((List.getD a0.snd.snd a1.toNat ((0 : Int), (0 : Int), (0 : Int))).fst, (List.getD a0.snd.snd a1.toNat ((0 : Int), (0 : Int), (0 : Int))).snd.fst, (List.getD a0.snd.snd a1.toNat ((0 : Int), (0 : Int), (0 : Int))).snd.snd), ())) ((((List.getD a0.snd.snd a2.toNat ((0 : Int), (0 : Int), (0 : Int))).fst, (List.getD a0.snd.snd a2.toNat ((0 : Int), (0 : Int), (0 : Int))).snd.fst, (List.getD a0.snd.snd a2.toNat ((0 : Int), (0 : Int), (0 : Int))).snd.snd), ())) with
          | none => none
          | some (Sum.inl v14) =>
           some (v14.fst, ())))
        (match J125_8 n (a1) (a2) (((a0.fst, a0.snd.fst, a0.snd.snd), ())) ((((List.getD a0.snd.snd a1.toNat ((0 : Int), (0 : Int), (0 : Int))).fst, (List.getD a0.snd.snd a1.toNat ((0 : Int), (0 : Int), (0 : Int))).snd.fst, (List.getD a0.snd.snd a1.toNat ((0 : Int), (0 : Int), (0 : Int))).snd.snd), ())) ((((List.getD a0.snd.snd a2.toNat ((0 : Int), (0 : Int), (0 : Int))).fst, (List.getD a0.snd.snd a2.toNat ((0 : Int), (0 : Int), (0 : Int))).snd.fst, (List.getD a0.snd.snd a2.toNat ((0 : Int), (0 : Int), (0 : Int))).snd.snd), ())) with
         | none => none
         | some (Sum.inl v15) =>
          some (v15.fst, ()))))))))
  else none
  else none
  else none
  else none
noncomputable def con125 (n : Nat) : Con := conOf [.c true (.v false (.pair yP (.pair (.rs 67 yE) (.rs 59 yD)))), .c false (.v true (.int .i64)), .c false (.v true (.int .i64))] [.c false (.v true .bool)] fun x => F125 n x.1 x.2.1 x.2.2.1
noncomputable def tb125 (n : Nat) : Tb := ⟨tiOf Try.prog, conL [(141, con141 n), (150, con150 n)], n, [], 97, lpL [], ctL [(10, ⟨[(1, kI), (2, kI), (3, (.b 95 [(.v false (.pair yP (.pair (.rs 67 yE) (.rs 59 yD))))])), (7, (.b 59 [(.v true yD)]))], [(.ret, [(6, kB)])], fun v => J125_10 n v.1 v.2.1 v.2.2.1 v.2.2.2.1⟩), (8, ⟨[(1, kI), (2, kI), (3, (.b 95 [(.v false (.pair yP (.pair (.rs 67 yE) (.rs 59 yD))))])), (7, (.b 59 [(.v true yD)])), (8, (.b 59 [(.v true yD)]))], [(.ret, [(6, kB)])], fun v => J125_8 n v.1 v.2.1 v.2.2.1 v.2.2.2.1 v.2.2.2.2.1⟩)], [], true⟩
noncomputable def code125 : Code := Try.f125.body.getD .skip
theorem tb125_ok (n : Nat) : (tb125 n).ok Try.prog := tbOk mixed (⟨con141_ok n, ⟨con150_ok n, trivial⟩⟩)
theorem blocks125 : blocks code125 = [(0, blockBody code125 0)] := by kernel_rfl
theorem ct125_8 (n : Nat) : CtOk (tb125 n) (sec code125 2).2 ⟨[(1, kI), (2, kI), (3, (.b 95 [(.v false (.pair yP (.pair (.rs 67 yE) (.rs 59 yD))))])), (7, (.b 59 [(.v true yD)])), (8, (.b 59 [(.v true yD)]))], [(.ret, [(6, kB)])], fun v => J125_8 n v.1 v.2.1 v.2.2.1 v.2.2.2.1 v.2.2.2.2.1⟩ := fun _ => by kernel_rfl
theorem ct125_10 (n : Nat) : CtOk (tb125 n) (sec code125 9).2 ⟨[(1, kI), (2, kI), (3, (.b 95 [(.v false (.pair yP (.pair (.rs 67 yE) (.rs 59 yD))))])), (7, (.b 59 [(.v true yD)]))], [(.ret, [(6, kB)])], fun v => J125_10 n v.1 v.2.1 v.2.2.1 v.2.2.2.1⟩ := fun _ => by kernel_rfl
theorem secs125 : seconds code125 = [(some 1, (sec code125 0).2), (some 2, (sec code125 1).2), (some 8, (sec code125 2).2), (none, (sec code125 3).2), (none, (sec code125 4).2), (none, (sec code125 5).2), (none, (sec code125 6).2), (none, (sec code125 7).2), (none, (sec code125 8).2), (some 10, (sec code125 9).2), (none, (sec code125 10).2), (none, (sec code125 11).2), (some 11, (sec code125 12).2), (none, (sec code125 13).2)] := by kernel_rfl
theorem la125 (n : Nat) : LpAll (tb125 n) code125 := lpAll blocks125 (bl_none rfl (bl_nil)) secs125 (cs_none rfl (cs_none rfl (cs_one rfl (ct125_8 n) (cs_none rfl (cs_none rfl (cs_none rfl (cs_none rfl (cs_none rfl (cs_none rfl (cs_one rfl (ct125_10 n) (cs_none rfl (cs_none rfl (cs_none rfl (cs_none rfl (cs_nil))))))))))))))) (by kernel_rfl)
theorem ev125 (n : Nat) (x : pdens [.c true (.v false (.pair yP (.pair (.rs 67 yE) (.rs 59 yD)))), .c false (.v true (.int .i64)), .c false (.v true (.int .i64))]) : evSig (tb125 n) Try.f125 [.c true (.v false (.pair yP (.pair (.rs 67 yE) (.rs 59 yD)))), .c false (.v true (.int .i64)), .c false (.v true (.int .i64))] [.c false (.v true .bool)] x = F125 n x.1 x.2.1 x.2.2.1 := by kernel_rfl
theorem con125_ok (n : Nat) : Con.ok Try.prog 125 (con125 n) := conOf_ok (tb125_ok n) (body_la (by kernel_rfl : Try.f125.body = some code125) (la125 n)) Try.func125 (enters Try.func125 (by kernel_rfl) (by kernel_rfl)) rfl rfl (ev125 n)
/-! ### (loop.example/fathomline/impl.scene).has -/
def F87 (n : Nat) (a0 : List (List (Int × Int × Int)) × List (Int × Int × Bool) × List (Int × Int × Int)) (a1 : List Int × List (List Int)) (a2 : Int) (a3 : Int) (a4 : Int) : Option (rdens [.c true (.v false (.pair yP (.pair (.rs 67 yE) (.rs 59 yD)))), .c true (.v false yX), .c false (.v true (.int .i64)), .c false (.v true (.int .i64)), .c false (.v true (.int .i64))] [.c false (.v true .bool)]) :=
  if (0 : Int) ≤ a4 then
  if a4 < (↑(List.length a1.fst) : Int) then
  (F122 n ((a0.fst, a0.snd.fst, a0.snd.snd)) (a3) (a4)).bind fun y1 =>
  (F123 n ((a0.fst, a0.snd.fst, a0.snd.snd)) ((a1.fst, a1.snd)) (a3) (a4)).bind fun y2 =>
  if (0 : Int) ≤ a3 then
  if a3 < (↑(List.length a0.snd.fst) : Int) then
  if (0 : Int) ≤ a4 then
  if a4 < (↑(List.length a0.snd.fst) : Int) then
  cond (a2 == (1 : Int))
  (cond (y1.fst)
   (some (Bool.true, ()))
   (cond (List.getD a1.fst a4.toNat (0 : Int) == a3)
    (some (Bool.true, ()))
    (some (y2.fst, ()))))
  (cond (a2 == (2 : Int))
   (cond (y1.fst)
    (if (0 : Int) ≤ a3 then
     if a3 < (↑(List.length a0.snd.snd) : Int) then
     (F124 n (((List.getD a0.snd.snd a3.toNat ((0 : Int), (0 : Int), (0 : Int))).fst, (List.getD a0.snd.snd a3.toNat ((0 : Int), (0 : Int), (0 : Int))).snd.fst, (List.getD a0.snd.snd a3.toNat ((0 : Int), (0 : Int), (0 : Int))).snd.snd))).bind fun y3 =>
     cond (y3.fst)
     (if (0 : Int) ≤ a4 then
      if a4 < (↑(List.length a0.snd.snd) : Int) then
      (F121 n (((List.getD a0.snd.snd a4.toNat ((0 : Int), (0 : Int), (0 : Int))).fst, (List.getD a0.snd.snd a4.toNat ((0 : Int), (0 : Int), (0 : Int))).snd.fst, (List.getD a0.snd.snd a4.toNat ((0 : Int), (0 : Int), (0 : Int))).snd.snd))).bind fun y4 =>
      cond (!y4.fst)
      (some (Bool.true, ()))
      (cond (List.getD a1.fst a4.toNat (0 : Int) == a3)
       (cond ((List.getD a0.snd.fst a3.toNat ((0 : Int), (0 : Int), Bool.false)).fst != (List.getD a0.snd.fst a4.toNat ((0 : Int), (0 : Int), Bool.false)).fst)
        (some (Bool.true, ()))
        (some (y2.fst, ())))
       (some (y2.fst, ())))
      else none
      else none)
     (some (Bool.true, ()))
     else none
     else none)
    (cond (List.getD a1.fst a4.toNat (0 : Int) == a3)
     (cond ((List.getD a0.snd.fst a3.toNat ((0 : Int), (0 : Int), Bool.false)).fst != (List.getD a0.snd.fst a4.toNat ((0 : Int), (0 : Int), Bool.false)).fst)
      (some (Bool.true, ()))
      (some (y2.fst, ())))
     (some (y2.fst, ()))))
   (cond (y1.fst)
    ((F125 n ((a0.fst, a0.snd.fst, a0.snd.snd)) (a3) (a4)).bind fun y5 =>
     cond (y5.fst)
     (some (Bool.true, ()))
     (cond (List.getD a1.fst a4.toNat (0 : Int) == a3)
      (some ((List.getD a0.snd.fst a3.toNat ((0 : Int), (0 : Int), Bool.false)).fst != (List.getD a0.snd.fst a4.toNat ((0 : Int), (0 : Int), Bool.false)).fst, ()))
      (cond (y2.fst)
       (some ((List.getD a0.snd.fst a3.toNat ((0 : Int), (0 : Int), Bool.false)).fst != (List.getD a0.snd.fst a4.toNat ((0 : Int), (0 : Int), Bool.false)).fst, ()))
       (some (Bool.false, ())))))
    (cond (List.getD a1.fst a4.toNat (0 : Int) == a3)
     (some ((List.getD a0.snd.fst a3.toNat ((0 : Int), (0 : Int), Bool.false)).fst != (List.getD a0.snd.fst a4.toNat ((0 : Int), (0 : Int), Bool.false)).fst, ()))
     (cond (y2.fst)
      (some ((List.getD a0.snd.fst a3.toNat ((0 : Int), (0 : Int), Bool.false)).fst != (List.getD a0.snd.fst a4.toNat ((0 : Int), (0 : Int), Bool.false)).fst, ()))
      (some (Bool.false, ()))))))
  else none
  else none
  else none
  else none
  else none
  else none
noncomputable def con87 (n : Nat) : Con := conOf [.c true (.v false (.pair yP (.pair (.rs 67 yE) (.rs 59 yD)))), .c true (.v false yX), .c false (.v true (.int .i64)), .c false (.v true (.int .i64)), .c false (.v true (.int .i64))] [.c false (.v true .bool)] fun x => F87 n x.1 x.2.1 x.2.2.1 x.2.2.2.1 x.2.2.2.2.1
noncomputable def tb87 (n : Nat) : Tb := ⟨tiOf Try.prog, conL [(122, con122 n), (123, con123 n), (124, con124 n), (121, con121 n), (125, con125 n)], n, [], 99, lpL [], ctL [], [], true⟩
noncomputable def code87 : Code := Try.f87.body.getD .skip
theorem tb87_ok (n : Nat) : (tb87 n).ok Try.prog := tbOk mixed (⟨con122_ok n, ⟨con123_ok n, ⟨con124_ok n, ⟨con121_ok n, ⟨con125_ok n, trivial⟩⟩⟩⟩⟩)
theorem blocks87 : blocks code87 = [(0, blockBody code87 0)] := by kernel_rfl
theorem la87 (n : Nat) : LpAll (tb87 n) code87 := lpAll blocks87 (bl_none rfl (bl_nil)) rfl (cs_no fun _ => rfl) (by kernel_rfl)
theorem ev87 (n : Nat) (x : pdens [.c true (.v false (.pair yP (.pair (.rs 67 yE) (.rs 59 yD)))), .c true (.v false yX), .c false (.v true (.int .i64)), .c false (.v true (.int .i64)), .c false (.v true (.int .i64))]) : evSig (tb87 n) Try.f87 [.c true (.v false (.pair yP (.pair (.rs 67 yE) (.rs 59 yD)))), .c true (.v false yX), .c false (.v true (.int .i64)), .c false (.v true (.int .i64)), .c false (.v true (.int .i64))] [.c false (.v true .bool)] x = F87 n x.1 x.2.1 x.2.2.1 x.2.2.2.1 x.2.2.2.2.1 := by kernel_rfl
theorem con87_ok (n : Nat) : Con.ok Try.prog 87 (con87 n) := conOf_ok (tb87_ok n) (body_la (by kernel_rfl : Try.f87.body = some code87) (la87 n)) Try.func87 (enters Try.func87 (by kernel_rfl) (by kernel_rfl)) rfl rfl (ev87 n)
/-! ### loop.example/fathomline/impl.OrderHas -/
def J46_3 (n : Nat) (x3 : Int) (x4 : Int) (x5 : Int) (x6 : List (List (Int × Int × Int)) × Unit) (x7 : (List Int × List (List Int)) × Unit) : Option (odens [(.ret, [(10, kB)])]) :=
    (F70 n (x6.fst)).bind fun y8 =>
    (F86 n (x4) ((0 : Int)) (Go.IntKind.i64.wrap ((↑(List.length y8.fst.snd.fst) : Int) - (1 : Int)))).bind fun y9 =>
    cond (y9.fst)
    ((F86 n (x5) ((0 : Int)) (Go.IntKind.i64.wrap ((↑(List.length y8.fst.snd.fst) : Int) - (1 : Int)))).bind fun y10 =>
     cond (y10.fst)
     ((F87 n ((y8.fst.fst, y8.fst.snd.fst, y8.fst.snd.snd)) ((x7.fst.fst, x7.fst.snd)) (x3) (x4) (x5)).bind fun y11 =>
      some (Sum.inl (y11.fst, ())))
     (some (Sum.inl (Bool.false, ()))))
    (some (Sum.inl (Bool.false, ())))
def F46 (n : Nat) (a0 : List (List (Int × Int × Int))) (a1 : List Int × List (List Int)) (a2 : Int) (a3 : Int) (a4 : Int) : Option (rdens [.c true (.v true yP), .c true (.v true yX), .c false (.v true (.int .i64)), .c false (.v true (.int .i64)), .c false (.v true (.int .i64))] [.c false (.v true .bool)]) :=
  (F31 n (a0) ((a1.fst, a1.snd))).bind fun y1 =>
  cond (!y1.fst)
  (some (Bool.false, ()))
  ((F85 n (a2)).bind fun y2 =>
   cond (!y2.fst)
   (some (Bool.false, ()))
   (match J46_3 n (a2) (a3) (a4) ((a0, ())) (((a1.fst, a1.snd), ())) with
    | none => none
    | some (Sum.inl v12) =>
     some (v12.fst, ())))
noncomputable def con46 (n : Nat) : Con := conOf [.c true (.v true yP), .c true (.v true yX), .c false (.v true (.int .i64)), .c false (.v true (.int .i64)), .c false (.v true (.int .i64))] [.c false (.v true .bool)] fun x => F46 n x.1 x.2.1 x.2.2.1 x.2.2.2.1 x.2.2.2.2.1
noncomputable def tb46 (n : Nat) : Tb := ⟨tiOf Try.prog, conL [(31, con31 n), (85, con85 n), (70, con70 n), (86, con86 n), (87, con87 n)], n, [], 45, lpL [], ctL [(3, ⟨[(2, kI), (3, kI), (4, kI), (5, (.b 33 [(.v true yP)])), (6, (.b 48 [(.v true yX)]))], [(.ret, [(10, kB)])], fun v => J46_3 n v.1 v.2.1 v.2.2.1 v.2.2.2.1 v.2.2.2.2.1⟩)], [], true⟩
noncomputable def code46 : Code := Try.f46.body.getD .skip
theorem tb46_ok (n : Nat) : (tb46 n).ok Try.prog := tbOk mixed (⟨con31_ok n, ⟨con85_ok n, ⟨con70_ok n, ⟨con86_ok n, ⟨con87_ok n, trivial⟩⟩⟩⟩⟩)
theorem blocks46 : blocks code46 = [] := by kernel_rfl
theorem ct46_3 (n : Nat) : CtOk (tb46 n) (sec code46 1).2 ⟨[(2, kI), (3, kI), (4, kI), (5, (.b 33 [(.v true yP)])), (6, (.b 48 [(.v true yX)]))], [(.ret, [(10, kB)])], fun v => J46_3 n v.1 v.2.1 v.2.2.1 v.2.2.2.1 v.2.2.2.2.1⟩ := fun _ => by kernel_rfl
theorem secs46 : seconds code46 = [(some 1, (sec code46 0).2), (some 3, (sec code46 1).2), (none, (sec code46 2).2), (none, (sec code46 3).2), (some 4, (sec code46 4).2), (none, (sec code46 5).2)] := by kernel_rfl
theorem la46 (n : Nat) : LpAll (tb46 n) code46 := lpAll blocks46 (bl_nil) secs46 (cs_none rfl (cs_one rfl (ct46_3 n) (cs_none rfl (cs_none rfl (cs_none rfl (cs_none rfl (cs_nil))))))) (by kernel_rfl)
theorem ev46 (n : Nat) (x : pdens [.c true (.v true yP), .c true (.v true yX), .c false (.v true (.int .i64)), .c false (.v true (.int .i64)), .c false (.v true (.int .i64))]) : evSig (tb46 n) Try.f46 [.c true (.v true yP), .c true (.v true yX), .c false (.v true (.int .i64)), .c false (.v true (.int .i64)), .c false (.v true (.int .i64))] [.c false (.v true .bool)] x = F46 n x.1 x.2.1 x.2.2.1 x.2.2.2.1 x.2.2.2.2.1 := by kernel_rfl
theorem con46_ok (n : Nat) : Con.ok Try.prog 46 (con46 n) := conOf_ok (tb46_ok n) (body_la (by kernel_rfl : Try.f46.body = some code46) (la46 n)) Try.func46 (enters Try.func46 (by kernel_rfl) (by kernel_rfl)) rfl rfl (ev46 n)
end Go.Proofs.Ytdacfaincamliaa.Ev
