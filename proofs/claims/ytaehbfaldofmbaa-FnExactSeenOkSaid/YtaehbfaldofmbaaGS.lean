/- Plain functions that the loaded code comes to, and that it does. Conditions: none. -/
import Derived.Test.YtaehbfaldofmbaaGA
namespace Go.Proofs.Ytaehbfaldofmbaa.Ev
open Go Go.Proofs
/-! ### cmp.isNaN[int] -/
def F145 (n : Nat) (a0 : Int) : Option (rdens [.c false (.v true (.int .i64))] [.c false (.v true .bool)]) :=
  some (a0 != a0, ())
noncomputable def con145 (n : Nat) : Con := conOf [.c false (.v true (.int .i64))] [.c false (.v true .bool)] fun x => F145 n x.1
noncomputable def tb145 (n : Nat) : Tb := ⟨tiOf Try.prog, conL [], n, [], 6, lpL [], ctL [], [], true⟩
noncomputable def code145 : Code := Try.f145.body.getD .skip
theorem tb145_ok (n : Nat) : (tb145 n).ok Try.prog := tbOk mixed (trivial)
theorem blocks145 : blocks code145 = [] := by kernel_rfl
theorem la145 (n : Nat) : LpAll (tb145 n) code145 := lpAll blocks145 (bl_nil) rfl (cs_no fun _ => rfl) (by kernel_rfl)
theorem ev145 (n : Nat) (x : pdens [.c false (.v true (.int .i64))]) : evSig (tb145 n) Try.f145 [.c false (.v true (.int .i64))] [.c false (.v true .bool)] x = F145 n x.1 := by kernel_rfl
theorem con145_ok (n : Nat) : Con.ok Try.prog 145 (con145 n) := conOf_ok (tb145_ok n) (body_la (by kernel_rfl : Try.f145.body = some code145) (la145 n)) Try.func145 (enters Try.func145 (by kernel_rfl) (by kernel_rfl)) rfl rfl (ev145 n)
/-! ### cmp.Compare[int] -/
def F137 (n : Nat) (a0 : Int) (a1 : Int) : Option (rdens [.c false (.v true (.int .i64)), .c false (.v true (.int .i64))] [.c false (.v true (.int .i64))]) :=
  (F145 n (a0)).bind fun y1 =>
  (F145 n (a1)).bind fun y2 =>
  cond (y1.fst)
  (cond (y2.fst)
   (some ((0 : Int), ()))
   (some ((-1 : Int), ())))
  (cond (y2.fst)
   (some ((1 : Int), ()))
   (cond (Decidable.decide (a0 < a1))
    (some ((-1 : Int), ()))
    (cond (Decidable.decide (a0 > a1))
     (some ((1 : Int), ()))
     (some ((0 : Int), ())))))
noncomputable def con137 (n : Nat) : Con := conOf [.c false (.v true (.int .i64)), .c false (.v true (.int .i64))] [.c false (.v true (.int .i64))] fun x => F137 n x.1 x.2.1
noncomputable def tb137 (n : Nat) : Tb := ⟨tiOf Try.prog, conL [(145, con145 n)], n, [], 20, lpL [], ctL [], [], true⟩
noncomputable def code137 : Code := Try.f137.body.getD .skip
theorem tb137_ok (n : Nat) : (tb137 n).ok Try.prog := tbOk mixed (⟨con145_ok n, trivial⟩)
theorem blocks137 : blocks code137 = [] := by kernel_rfl
theorem la137 (n : Nat) : LpAll (tb137 n) code137 := lpAll blocks137 (bl_nil) rfl (cs_no fun _ => rfl) (by kernel_rfl)
theorem ev137 (n : Nat) (x : pdens [.c false (.v true (.int .i64)), .c false (.v true (.int .i64))]) : evSig (tb137 n) Try.f137 [.c false (.v true (.int .i64)), .c false (.v true (.int .i64))] [.c false (.v true (.int .i64))] x = F137 n x.1 x.2.1 := by kernel_rfl
theorem con137_ok (n : Nat) : Con.ok Try.prog 137 (con137 n) := conOf_ok (tb137_ok n) (body_la (by kernel_rfl : Try.f137.body = some code137) (la137 n)) Try.func137 (enters Try.func137 (by kernel_rfl) (by kernel_rfl)) rfl rfl (ev137 n)
/-! ### slices.Compare[[]int,int] -/
def L114_0 (n : Nat) : Nat → List Int → List Int → List Int → Int → Int → Option (odens [(.ret, [(4, (.c false (.v true (.int .i64))))]), ((.exit 0), [(0, (.c false (.v false (.rs 3 (.int .i64))))), (1, (.c false (.v false (.rs 3 (.int .i64)))))])])
  | 0, _, _, _, _, _ => none
  | m + 1, x1, x2, x3, x4, x5 =>
    cond (Decidable.decide (x5 < x4))
    (if (0 : Int) ≤ x5 then
     if x5 < (↑x3.length : Int) then
     cond (Decidable.decide (x5 ≥ (↑x2.length : Int)))
     (some (Sum.inl ((1 : Int), ())))
     (if (0 : Int) ≤ x5 then
      if x5 < (↑x2.length : Int) then
      (F137 n (x3.getD x5.toNat (0 : Int)) (x2.getD x5.toNat (0 : Int))).bind fun y6 =>
      cond (y6.fst != (0 : Int))
      (some (Sum.inl (y6.fst, ())))
      (L114_0 n m (x1) (x2) (x3) (x4) (Go.IntKind.i64.wrap (x5 + (1 : Int))))
      else none
      else none)
     else none
     else none)
    (some (Sum.inr (Sum.inl (x1, x2, ()))))
def F114 (n : Nat) (a0 : List Int) (a1 : List Int) : Option (rdens [.c false (.v false (.rs 3 (.int .i64))), .c false (.v false (.rs 3 (.int .i64)))] [.c false (.v true (.int .i64))]) :=
  match L114_0 n n (a0) (a1) (a0) ((↑a0.length : Int)) ((0 : Int)) with
  | none => none
  | some (Sum.inl v7) =>
   some (v7.fst, ())
  | some (Sum.inr (Sum.inl v8)) =>
   cond (Decidable.decide ((↑(List.length v8.fst) : Int) < (↑(List.length v8.snd.fst) : Int)))
   (some ((-1 : Int), ()))
   (some ((0 : Int), ()))
noncomputable def con114 (n : Nat) : Con := conOf [.c false (.v false (.rs 3 (.int .i64))), .c false (.v false (.rs 3 (.int .i64)))] [.c false (.v true (.int .i64))] fun x => F114 n x.1 x.2.1
noncomputable def tb114 (n : Nat) : Tb := ⟨tiOf Try.prog, conL [(137, con137 n)], n, [], 36, lpL [(0, ⟨[(0, (.c false (.v false (.rs 3 (.int .i64))))), (1, (.c false (.v false (.rs 3 (.int .i64))))), (9, (.c false (.v false (.rs 3 (.int .i64))))), (10, (.c false (.v true (.int .i64)))), (11, (.c false (.v true (.int .i64))))], [(.ret, [(4, (.c false (.v true (.int .i64))))]), ((.exit 0), [(0, (.c false (.v false (.rs 3 (.int .i64))))), (1, (.c false (.v false (.rs 3 (.int .i64)))))])], fun m v => L114_0 n m v.1 v.2.1 v.2.2.1 v.2.2.2.1 v.2.2.2.2.1⟩)], ctL [], [], true⟩
noncomputable def code114 : Code := Try.f114.body.getD .skip
theorem tb114_ok (n : Nat) : (tb114 n).ok Try.prog := tbOk mixed (⟨con137_ok n, trivial⟩)
theorem lp114_0 (n : Nat) : LpAt (tb114 n) (loopBody code114 0) 0 := lpAt rfl (fun _ => by kernel_rfl) (fun _ _ => by kernel_rfl)
theorem blocks114 : blocks code114 = [(0, .loop (loopBody code114 0)), (1, blockBody code114 1)] := by kernel_rfl
theorem la114 (n : Nat) : LpAll (tb114 n) code114 := lpAll blocks114 (bl_loop (lp114_0 n) (bl_none rfl (bl_nil))) rfl (cs_no fun _ => rfl) (by kernel_rfl)
theorem ev114 (n : Nat) (x : pdens [.c false (.v false (.rs 3 (.int .i64))), .c false (.v false (.rs 3 (.int .i64)))]) : evSig (tb114 n) Try.f114 [.c false (.v false (.rs 3 (.int .i64))), .c false (.v false (.rs 3 (.int .i64)))] [.c false (.v true (.int .i64))] x = F114 n x.1 x.2.1 := by kernel_rfl
theorem con114_ok (n : Nat) : Con.ok Try.prog 114 (con114 n) := conOf_ok (tb114_ok n) (body_la (by kernel_rfl : Try.f114.body = some code114) (la114 n)) Try.func114 (enters Try.func114 (by kernel_rfl) (by kernel_rfl)) rfl rfl (ev114 n)
/-! ### cmp.Or[int] -/
def L113_0 (n : Nat) : Nat → Int → List Int → Int → Int → Option (odens [(.ret, [(2, (.c false (.v true (.int .i64))))]), ((.exit 0), [(3, (.c false (.v true (.int .i64))))])])
  | 0, _, _, _, _ => none
  | m + 1, x1, x2, x3, x4 =>
    cond (Decidable.decide (x4 < x3))
    (if (0 : Int) ≤ x4 then
     if x4 < (↑x2.length : Int) then
     cond (x2.getD x4.toNat (0 : Int) != x1)
     (some (Sum.inl (x2.getD x4.toNat (0 : Int), ())))
     (L113_0 n m (x1) (x2) (x3) (Go.IntKind.i64.wrap (x4 + (1 : Int))))
     else none
     else none)
    (some (Sum.inr (Sum.inl (x1, ()))))
def F113 (n : Nat) (a0 : List Int) : Option (rdens [.c false (.v false (.rs 3 (.int .i64)))] [.c false (.v true (.int .i64))]) :=
  match L113_0 n n ((0 : Int)) (a0) ((↑a0.length : Int)) ((0 : Int)) with
  | none => none
  | some (Sum.inl v5) =>
   some (v5.fst, ())
  | some (Sum.inr (Sum.inl v6)) =>
   some (v6.fst, ())
noncomputable def con113 (n : Nat) : Con := conOf [.c false (.v false (.rs 3 (.int .i64)))] [.c false (.v true (.int .i64))] fun x => F113 n x.1
noncomputable def tb113 (n : Nat) : Tb := ⟨tiOf Try.prog, conL [], n, [], 18, lpL [(0, ⟨[(3, (.c false (.v true (.int .i64)))), (6, (.c false (.v false (.rs 3 (.int .i64))))), (7, (.c false (.v true (.int .i64)))), (8, (.c false (.v true (.int .i64))))], [(.ret, [(2, (.c false (.v true (.int .i64))))]), ((.exit 0), [(3, (.c false (.v true (.int .i64))))])], fun m v => L113_0 n m v.1 v.2.1 v.2.2.1 v.2.2.2.1⟩)], ctL [], [], true⟩
noncomputable def code113 : Code := Try.f113.body.getD .skip
theorem tb113_ok (n : Nat) : (tb113 n).ok Try.prog := tbOk mixed (trivial)
theorem lp113_0 (n : Nat) : LpAt (tb113 n) (loopBody code113 0) 0 := lpAt rfl (fun _ => by kernel_rfl) (fun _ _ => by kernel_rfl)
theorem blocks113 : blocks code113 = [(0, .loop (loopBody code113 0)), (1, blockBody code113 1)] := by kernel_rfl
theorem la113 (n : Nat) : LpAll (tb113 n) code113 := lpAll blocks113 (bl_loop (lp113_0 n) (bl_none rfl (bl_nil))) rfl (cs_no fun _ => rfl) (by kernel_rfl)
theorem ev113 (n : Nat) (x : pdens [.c false (.v false (.rs 3 (.int .i64)))]) : evSig (tb113 n) Try.f113 [.c false (.v false (.rs 3 (.int .i64)))] [.c false (.v true (.int .i64))] x = F113 n x.1 := by kernel_rfl
theorem con113_ok (n : Nat) : Con.ok Try.prog 113 (con113 n) := conOf_ok (tb113_ok n) (body_la (by kernel_rfl : Try.f113.body = some code113) (la113 n)) Try.func113 (enters Try.func113 (by kernel_rfl) (by kernel_rfl)) rfl rfl (ev113 n)
/-! ### (loop.example/fathomline/impl.Seen).compare -/
def F77 (n : Nat) (a0 : List Int × List Int) (a1 : List Int × List Int) : Option (rdens [.c true (.v false (.pair (.rs 3 (.int .i64)) (.rs 3 (.int .i64)))), .c true (.v false (.pair (.rs 3 (.int .i64)) (.rs 3 (.int .i64))))] [.c false (.v true (.int .i64))]) :=
  (F114 n (a0.fst) (a1.fst)).bind fun y1 =>
  (F114 n (a0.snd) (a1.snd)).bind fun y2 =>
  (F113 n ([y1.fst, y2.fst])).bind fun y3 =>
  some (y3.fst, ())
noncomputable def con77 (n : Nat) : Con := conOf [.c true (.v false (.pair (.rs 3 (.int .i64)) (.rs 3 (.int .i64)))), .c true (.v false (.pair (.rs 3 (.int .i64)) (.rs 3 (.int .i64))))] [.c false (.v true (.int .i64))] fun x => F77 n x.1 x.2.1
noncomputable def tb77 (n : Nat) : Tb := ⟨tiOf Try.prog, conL [(114, con114 n), (113, con113 n)], n, [], 17, lpL [], ctL [], [], true⟩
noncomputable def code77 : Code := Try.f77.body.getD .skip
theorem tb77_ok (n : Nat) : (tb77 n).ok Try.prog := tbOk mixed (⟨con114_ok n, ⟨con113_ok n, trivial⟩⟩)
theorem blocks77 : blocks code77 = [] := by kernel_rfl
theorem la77 (n : Nat) : LpAll (tb77 n) code77 := lpAll blocks77 (bl_nil) rfl (cs_no fun _ => rfl) (by kernel_rfl)
theorem ev77 (n : Nat) (x : pdens [.c true (.v false (.pair (.rs 3 (.int .i64)) (.rs 3 (.int .i64)))), .c true (.v false (.pair (.rs 3 (.int .i64)) (.rs 3 (.int .i64))))]) : evSig (tb77 n) Try.f77 [.c true (.v false (.pair (.rs 3 (.int .i64)) (.rs 3 (.int .i64)))), .c true (.v false (.pair (.rs 3 (.int .i64)) (.rs 3 (.int .i64))))] [.c false (.v true (.int .i64))] x = F77 n x.1 x.2.1 := by kernel_rfl
theorem con77_ok (n : Nat) : Con.ok Try.prog 77 (con77 n) := conOf_ok (tb77_ok n) (body_la (by kernel_rfl : Try.f77.body = some code77) (la77 n)) Try.func77 (enters Try.func77 (by kernel_rfl) (by kernel_rfl)) rfl rfl (ev77 n)
/-! ### loop.example/fathomline/spec.l2Comp -/
def J112_4 (n : Nat) (x4 : List Int) (x5 : List Int) (x6 : Int) : Option (odens [(.ret, [(4, (.c false (.v true (.int .i64))))]), (.normal, [(0, (.c false (.v false (.rs 3 (.int .i64))))), (1, (.c false (.v false (.rs 3 (.int .i64))))), (5, (.c false (.v true (.int .i64))))])]) :=
    if (0 : Int) ≤ x6 then
    if x6 < (↑x4.length : Int) then
    if (0 : Int) ≤ x6 then
    if x6 < (↑x5.length : Int) then
    cond (Decidable.decide (x4.getD x6.toNat (0 : Int) < x5.getD x6.toNat (0 : Int)))
    (some (Sum.inl ((-1 : Int), ())))
    (if (0 : Int) ≤ x6 then
     if x6 < (↑x4.length : Int) then
     if (0 : Int) ≤ x6 then
     if x6 < (↑x5.length : Int) then
     cond (Decidable.decide (x4.getD x6.toNat (0 : Int) > x5.getD x6.toNat (0 : Int)))
     (some (Sum.inl ((1 : Int), ())))
     (some (Sum.inr (Sum.inl (x4, x5, Go.IntKind.i64.wrap (x6 + (1 : Int)), ()))))
     else none
     else none
     else none
     else none)
    else none
    else none
    else none
    else none
def L112_0 (n : Nat) : Nat → List Int → List Int → Int → Option (odens [(.ret, [(4, (.c false (.v true (.int .i64))))]), ((.exit 0), [(0, (.c false (.v false (.rs 3 (.int .i64))))), (1, (.c false (.v false (.rs 3 (.int .i64)))))])])
  | 0, _, _, _ => none
  | m + 1, x1, x2, x3 =>
    cond (Decidable.decide (x3 < (↑x1.length : Int)))
    (cond (Decidable.decide (x3 < (↑x2.length : Int)))
     (match J112_4 n (x1) (x2) (x3) with
      | none => none
      | some (Sum.inl v7) =>
       some (Sum.inl (v7.fst, ()))
      | some (Sum.inr (Sum.inl v8)) =>
       L112_0 n m (v8.fst) (v8.snd.fst) (v8.snd.snd.fst))
     (some (Sum.inr (Sum.inl (x1, x2, ())))))
    (some (Sum.inr (Sum.inl (x1, x2, ()))))
def F112 (n : Nat) (a0 : List Int) (a1 : List Int) : Option (rdens [.c false (.v false (.rs 3 (.int .i64))), .c false (.v false (.rs 3 (.int .i64)))] [.c false (.v true (.int .i64))]) :=
  match L112_0 n n (a0) (a1) ((0 : Int)) with
  | none => none
  | some (Sum.inl v9) =>
   some (v9.fst, ())
  | some (Sum.inr (Sum.inl v10)) =>
   cond (Decidable.decide ((↑(List.length v10.fst) : Int) < (↑(List.length v10.snd.fst) : Int)))
   (some ((-1 : Int), ()))
   (cond (Decidable.decide ((↑(List.length v10.fst) : Int) > (↑(List.length v10.snd.fst) : Int)))
    (some ((1 : Int), ()))
    (some ((0 : Int), ())))
noncomputable def con112 (n : Nat) : Con := conOf [.c false (.v false (.rs 3 (.int .i64))), .c false (.v false (.rs 3 (.int .i64)))] [.c false (.v true (.int .i64))] fun x => F112 n x.1 x.2.1
noncomputable def tb112 (n : Nat) : Tb := ⟨tiOf Try.prog, conL [], n, [], 48, lpL [(0, ⟨[(0, (.c false (.v false (.rs 3 (.int .i64))))), (1, (.c false (.v false (.rs 3 (.int .i64))))), (5, (.c false (.v true (.int .i64))))], [(.ret, [(4, (.c false (.v true (.int .i64))))]), ((.exit 0), [(0, (.c false (.v false (.rs 3 (.int .i64))))), (1, (.c false (.v false (.rs 3 (.int .i64)))))])], fun m v => L112_0 n m v.1 v.2.1 v.2.2.1⟩)], ctL [(4, ⟨[(0, (.c false (.v false (.rs 3 (.int .i64))))), (1, (.c false (.v false (.rs 3 (.int .i64))))), (5, (.c false (.v true (.int .i64))))], [(.ret, [(4, (.c false (.v true (.int .i64))))]), (.normal, [(0, (.c false (.v false (.rs 3 (.int .i64))))), (1, (.c false (.v false (.rs 3 (.int .i64))))), (5, (.c false (.v true (.int .i64))))])], fun v => J112_4 n v.1 v.2.1 v.2.2.1⟩)], [], true⟩
noncomputable def code112 : Code := Try.f112.body.getD .skip
theorem tb112_ok (n : Nat) : (tb112 n).ok Try.prog := tbOk mixed (trivial)
theorem lp112_0 (n : Nat) : LpAt (tb112 n) (loopBody code112 0) 0 := lpAt rfl (fun _ => by kernel_rfl) (fun _ _ => by kernel_rfl)
theorem blocks112 : blocks code112 = [(0, .loop (loopBody code112 0)), (1, blockBody code112 1), (2, blockBody code112 2)] := by kernel_rfl
theorem ct112_4 (n : Nat) : CtOk (tb112 n) (sec code112 3).2 ⟨[(0, (.c false (.v false (.rs 3 (.int .i64))))), (1, (.c false (.v false (.rs 3 (.int .i64))))), (5, (.c false (.v true (.int .i64))))], [(.ret, [(4, (.c false (.v true (.int .i64))))]), (.normal, [(0, (.c false (.v false (.rs 3 (.int .i64))))), (1, (.c false (.v false (.rs 3 (.int .i64))))), (5, (.c false (.v true (.int .i64))))])], fun v => J112_4 n v.1 v.2.1 v.2.2.1⟩ := fun _ => by kernel_rfl
theorem secs112 : seconds code112 = [(some 1, (sec code112 0).2), (some 8, (sec code112 1).2), (some 2, (sec code112 2).2), (some 4, (sec code112 3).2), (none, (sec code112 4).2), (some 3, (sec code112 5).2), (some 6, (sec code112 6).2), (none, (sec code112 7).2), (none, (sec code112 8).2), (none, (sec code112 9).2), (none, (sec code112 10).2), (some 12, (sec code112 11).2), (none, (sec code112 12).2), (none, (sec code112 13).2), (none, (sec code112 14).2), (none, (sec code112 15).2), (none, (sec code112 16).2)] := by kernel_rfl
theorem la112 (n : Nat) : LpAll (tb112 n) code112 := lpAll blocks112 (bl_loop (lp112_0 n) (bl_none rfl (bl_none rfl (bl_nil)))) secs112 (cs_none rfl (cs_none rfl (cs_none rfl (cs_one rfl (ct112_4 n) (cs_none rfl (cs_none rfl (cs_none rfl (cs_none rfl (cs_none rfl (cs_none rfl (cs_none rfl (cs_none rfl (cs_none rfl (cs_none rfl (cs_none rfl (cs_none rfl (cs_none rfl (cs_nil)))))))))))))))))) (by kernel_rfl)
theorem ev112 (n : Nat) (x : pdens [.c false (.v false (.rs 3 (.int .i64))), .c false (.v false (.rs 3 (.int .i64)))]) : evSig (tb112 n) Try.f112 [.c false (.v false (.rs 3 (.int .i64))), .c false (.v false (.rs 3 (.int .i64)))] [.c false (.v true (.int .i64))] x = F112 n x.1 x.2.1 := by kernel_rfl
theorem con112_ok (n : Nat) : Con.ok Try.prog 112 (con112 n) := conOf_ok (tb112_ok n) (body_la (by kernel_rfl : Try.f112.body = some code112) (la112 n)) Try.func112 (enters Try.func112 (by kernel_rfl) (by kernel_rfl)) rfl rfl (ev112 n)
/-! ### loop.example/fathomline/spec.l2Seen -/
def F76 (n : Nat) (a0 : List Int × List Int) (a1 : List Int × List Int) : Option (rdens [.c true (.v false (.pair (.rs 3 (.int .i64)) (.rs 3 (.int .i64)))), .c true (.v false (.pair (.rs 3 (.int .i64)) (.rs 3 (.int .i64))))] [.c false (.v true (.int .i64))]) :=
  (F112 n (a0.fst) (a1.fst)).bind fun y1 =>
  cond (y1.fst != (0 : Int))
  (some (y1.fst, ()))
  ((F112 n (a0.snd) (a1.snd)).bind fun y2 =>
   some (y2.fst, ()))
noncomputable def con76 (n : Nat) : Con := conOf [.c true (.v false (.pair (.rs 3 (.int .i64)) (.rs 3 (.int .i64)))), .c true (.v false (.pair (.rs 3 (.int .i64)) (.rs 3 (.int .i64))))] [.c false (.v true (.int .i64))] fun x => F76 n x.1 x.2.1
noncomputable def tb76 (n : Nat) : Tb := ⟨tiOf Try.prog, conL [(112, con112 n)], n, [], 19, lpL [], ctL [], [], true⟩
noncomputable def code76 : Code := Try.f76.body.getD .skip
theorem tb76_ok (n : Nat) : (tb76 n).ok Try.prog := tbOk mixed (⟨con112_ok n, trivial⟩)
theorem blocks76 : blocks code76 = [] := by kernel_rfl
theorem la76 (n : Nat) : LpAll (tb76 n) code76 := lpAll blocks76 (bl_nil) rfl (cs_no fun _ => rfl) (by kernel_rfl)
theorem ev76 (n : Nat) (x : pdens [.c true (.v false (.pair (.rs 3 (.int .i64)) (.rs 3 (.int .i64)))), .c true (.v false (.pair (.rs 3 (.int .i64)) (.rs 3 (.int .i64))))]) : evSig (tb76 n) Try.f76 [.c true (.v false (.pair (.rs 3 (.int .i64)) (.rs 3 (.int .i64)))), .c true (.v false (.pair (.rs 3 (.int .i64)) (.rs 3 (.int .i64))))] [.c false (.v true (.int .i64))] x = F76 n x.1 x.2.1 := by kernel_rfl
theorem con76_ok (n : Nat) : Con.ok Try.prog 76 (con76 n) := conOf_ok (tb76_ok n) (body_la (by kernel_rfl : Try.f76.body = some code76) (la76 n)) Try.func76 (enters Try.func76 (by kernel_rfl) (by kernel_rfl)) rfl rfl (ev76 n)
end Go.Proofs.Ytaehbfaldofmbaa.Ev
