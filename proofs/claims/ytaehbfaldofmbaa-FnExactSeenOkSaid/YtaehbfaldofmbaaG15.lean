/- Plain functions that the loaded code comes to, and that it does. Conditions: none. -/
import Derived.Test.YtaehbfaldofmbaaGT
import Derived.Test.YtaehbfaldofmbaaGR
namespace Go.Proofs.Ytaehbfaldofmbaa.Ev
open Go Go.Proofs
/-! ### loop.example/fathomline/spec.l2Vals -/
def L98_0 (n : Nat) : Nat → List Int → Int → Option (odens [(.ret, [(2, (.c false (.v true .bool)))]), ((.exit 0), [])])
  | 0, _, _ => none
  | m + 1, x1, x2 =>
    cond (Decidable.decide (x2 < (↑x1.length : Int)))
    (if (0 : Int) ≤ x2 then
     if x2 < (↑x1.length : Int) then
     (F129 n (x1.getD x2.toNat (0 : Int)) ((0 : Int)) ((3 : Int))).bind fun y3 =>
     cond (!y3.fst)
     (some (Sum.inl (Bool.false, ())))
     (L98_0 n m (x1) (Go.IntKind.i64.wrap (x2 + (1 : Int))))
     else none
     else none)
    (some (Sum.inr (Sum.inl (()))))
def F98 (n : Nat) (a0 : List Int) : Option (rdens [.c false (.v false (.rs 3 (.int .i64)))] [.c false (.v true .bool)]) :=
  match L98_0 n n (a0) ((0 : Int)) with
  | none => none
  | some (Sum.inl v4) =>
   some (v4.fst, ())
  | some (Sum.inr (Sum.inl v5)) =>
   some (Bool.true, ())
noncomputable def con98 (n : Nat) : Con := conOf [.c false (.v false (.rs 3 (.int .i64)))] [.c false (.v true .bool)] fun x => F98 n x.1
noncomputable def tb98 (n : Nat) : Tb := ⟨tiOf Try.prog, conL [(129, con129 n)], n, [], 16, lpL [(0, ⟨[(0, (.c false (.v false (.rs 3 (.int .i64))))), (3, (.c false (.v true (.int .i64))))], [(.ret, [(2, (.c false (.v true .bool)))]), ((.exit 0), [])], fun m v => L98_0 n m v.1 v.2.1⟩)], ctL [], [], true⟩
noncomputable def code98 : Code := Try.f98.body.getD .skip
theorem tb98_ok (n : Nat) : (tb98 n).ok Try.prog := tbOk mixed (⟨con129_ok n, trivial⟩)
theorem lp98_0 (n : Nat) : LpAt (tb98 n) (loopBody code98 0) 0 := lpAt rfl (fun _ => by kernel_rfl) (fun _ _ => by kernel_rfl)
theorem blocks98 : blocks code98 = [(0, .loop (loopBody code98 0)), (1, blockBody code98 1)] := by kernel_rfl
theorem la98 (n : Nat) : LpAll (tb98 n) code98 := lpAll blocks98 (bl_loop (lp98_0 n) (bl_none rfl (bl_nil))) rfl (cs_no fun _ => rfl) (by kernel_rfl)
theorem ev98 (n : Nat) (x : pdens [.c false (.v false (.rs 3 (.int .i64)))]) : evSig (tb98 n) Try.f98 [.c false (.v false (.rs 3 (.int .i64)))] [.c false (.v true .bool)] x = F98 n x.1 := by kernel_rfl
theorem con98_ok (n : Nat) : Con.ok Try.prog 98 (con98 n) := conOf_ok (tb98_ok n) (body_la (by kernel_rfl : Try.f98.body = some code98) (la98 n)) Try.func98 (enters Try.func98 (by kernel_rfl) (by kernel_rfl)) rfl rfl (ev98 n)
/-! ### loop.example/fathomline/spec.SeenOk -/
def F56 (n : Nat) (a0 : List (List (Int × Int × Int))) (a1 : List Int × List Int) : Option (rdens [.c true (.v false (.rs 50 (.rs 52 (.pair (.int .i64) (.pair (.int .i64) (.int .i64)))))), .c true (.v false (.pair (.rs 3 (.int .i64)) (.rs 3 (.int .i64))))] [.c false (.v true .bool)]) :=
  (F35 n (a0)).bind fun y1 =>
  cond (y1.fst)
  ((F42 n (a0)).bind fun y2 =>
   cond ((↑(List.length a1.fst) : Int) == y2.fst)
   (cond ((↑(List.length a1.snd) : Int) == (3 : Int))
    ((F98 n (a1.fst)).bind fun y3 =>
     cond (y3.fst)
     ((F98 n (a1.snd)).bind fun y4 =>
      some (y4.fst, ()))
     (some (Bool.false, ())))
    (some (Bool.false, ())))
   (some (Bool.false, ())))
  (some (Bool.false, ()))
noncomputable def con56 (n : Nat) : Con := conOf [.c true (.v false (.rs 50 (.rs 52 (.pair (.int .i64) (.pair (.int .i64) (.int .i64)))))), .c true (.v false (.pair (.rs 3 (.int .i64)) (.rs 3 (.int .i64))))] [.c false (.v true .bool)] fun x => F56 n x.1 x.2.1
noncomputable def tb56 (n : Nat) : Tb := ⟨tiOf Try.prog, conL [(35, con35 n), (42, con42 n), (98, con98 n)], n, [], 31, lpL [], ctL [], [], true⟩
noncomputable def code56 : Code := Try.f56.body.getD .skip
theorem tb56_ok (n : Nat) : (tb56 n).ok Try.prog := tbOk mixed (⟨con35_ok n, ⟨con42_ok n, ⟨con98_ok n, trivial⟩⟩⟩)
theorem blocks56 : blocks code56 = [] := by kernel_rfl
theorem la56 (n : Nat) : LpAll (tb56 n) code56 := lpAll blocks56 (bl_nil) rfl (cs_no fun _ => rfl) (by kernel_rfl)
theorem ev56 (n : Nat) (x : pdens [.c true (.v false (.rs 50 (.rs 52 (.pair (.int .i64) (.pair (.int .i64) (.int .i64)))))), .c true (.v false (.pair (.rs 3 (.int .i64)) (.rs 3 (.int .i64))))]) : evSig (tb56 n) Try.f56 [.c true (.v false (.rs 50 (.rs 52 (.pair (.int .i64) (.pair (.int .i64) (.int .i64)))))), .c true (.v false (.pair (.rs 3 (.int .i64)) (.rs 3 (.int .i64))))] [.c false (.v true .bool)] x = F56 n x.1 x.2.1 := by kernel_rfl
theorem con56_ok (n : Nat) : Con.ok Try.prog 56 (con56 n) := conOf_ok (tb56_ok n) (body_la (by kernel_rfl : Try.f56.body = some code56) (la56 n)) Try.func56 (enters Try.func56 (by kernel_rfl) (by kernel_rfl)) rfl rfl (ev56 n)
/-! ### loop.example/fathomline/impl.valsOk$1 -/
def F131 (n : Nat) (a0 : Int) : Option (rdens [.c false (.v true (.int .i64))] [.c false (.v true .bool)]) :=
  (F102 n (a0) ((0 : Int)) ((3 : Int))).bind fun y1 =>
  some (!y1.fst, ())
noncomputable def con131 (n : Nat) : Con := conOf [.c false (.v true (.int .i64))] [.c false (.v true .bool)] fun x => F131 n x.1
noncomputable def tb131 (n : Nat) : Tb := ⟨tiOf Try.prog, conL [(102, con102 n)], n, [], 6, lpL [], ctL [], [], true⟩
noncomputable def code131 : Code := Try.f131.body.getD .skip
theorem tb131_ok (n : Nat) : (tb131 n).ok Try.prog := tbOk mixed (⟨con102_ok n, trivial⟩)
theorem blocks131 : blocks code131 = [] := by kernel_rfl
theorem la131 (n : Nat) : LpAll (tb131 n) code131 := lpAll blocks131 (bl_nil) rfl (cs_no fun _ => rfl) (by kernel_rfl)
theorem ev131 (n : Nat) (x : pdens [.c false (.v true (.int .i64))]) : evSig (tb131 n) Try.f131 [.c false (.v true (.int .i64))] [.c false (.v true .bool)] x = F131 n x.1 := by kernel_rfl
theorem con131_ok (n : Nat) : Con.ok Try.prog 131 (con131 n) := conOf_ok (tb131_ok n) (body_la (by kernel_rfl : Try.f131.body = some code131) (la131 n)) Try.func131 (enters Try.func131 (by kernel_rfl) (by kernel_rfl)) rfl rfl (ev131 n)
/-! ### slices.IndexFunc[[]int,int] -/
def L141_0 (n : Nat) : Nat → List Int → Unit → Int → Int → Option (odens [(.ret, [(4, (.c false (.v true (.int .i64))))]), ((.exit 0), [])])
  | 0, _, _, _, _ => none
  | m + 1, x1, x2, x3, x4 =>
    cond (Decidable.decide (x4 < x3))
    (if (0 : Int) ≤ x4 then
     if x4 < (↑x1.length : Int) then
     (F131 n (x1.getD x4.toNat (0 : Int))).bind fun y5 =>
     cond (y5.fst)
     (some (Sum.inl (x4, ())))
     (L141_0 n m (x1) (()) (x3) (Go.IntKind.i64.wrap (x4 + (1 : Int))))
     else none
     else none)
    (some (Sum.inr (Sum.inl (()))))
def F141 (n : Nat) (a0 : List Int) (a1 : Unit) : Option (rdens [.c false (.v false (.rs 3 (.int .i64))), .c false (.g 131)] [.c false (.v true (.int .i64))]) :=
  match L141_0 n n (a0) (()) ((↑a0.length : Int)) ((0 : Int)) with
  | none => none
  | some (Sum.inl v6) =>
   some (v6.fst, ())
  | some (Sum.inr (Sum.inl v7)) =>
   some ((-1 : Int), ())
noncomputable def con141 (n : Nat) : Con := conOf [.c false (.v false (.rs 3 (.int .i64))), .c false (.g 131)] [.c false (.v true (.int .i64))] fun x => F141 n x.1 x.2.1
noncomputable def tb141 (n : Nat) : Tb := ⟨tiOf Try.prog, conL [(131, con131 n)], n, [], 19, lpL [(0, ⟨[(0, (.c false (.v false (.rs 3 (.int .i64))))), (1, (.c false (.g 131))), (7, (.c false (.v true (.int .i64)))), (8, (.c false (.v true (.int .i64))))], [(.ret, [(4, (.c false (.v true (.int .i64))))]), ((.exit 0), [])], fun m v => L141_0 n m v.1 v.2.1 v.2.2.1 v.2.2.2.1⟩)], ctL [], [], true⟩
noncomputable def code141 : Code := Try.f141.body.getD .skip
theorem tb141_ok (n : Nat) : (tb141 n).ok Try.prog := tbOk mixed (⟨con131_ok n, trivial⟩)
theorem lp141_0 (n : Nat) : LpAt (tb141 n) (loopBody code141 0) 0 := lpAt rfl (fun _ => by kernel_rfl) (fun _ _ => by kernel_rfl)
theorem blocks141 : blocks code141 = [(0, .loop (loopBody code141 0)), (1, blockBody code141 1)] := by kernel_rfl
theorem la141 (n : Nat) : LpAll (tb141 n) code141 := lpAll blocks141 (bl_loop (lp141_0 n) (bl_none rfl (bl_nil))) rfl (cs_no fun _ => rfl) (by kernel_rfl)
theorem ev141 (n : Nat) (x : pdens [.c false (.v false (.rs 3 (.int .i64))), .c false (.g 131)]) : evSig (tb141 n) Try.f141 [.c false (.v false (.rs 3 (.int .i64))), .c false (.g 131)] [.c false (.v true (.int .i64))] x = F141 n x.1 x.2.1 := by kernel_rfl
theorem con141_ok (n : Nat) : Con.ok Try.prog 141 (con141 n) := conOf_ok (tb141_ok n) (body_la (by kernel_rfl : Try.f141.body = some code141) (la141 n)) Try.func141 (enters Try.func141 (by kernel_rfl) (by kernel_rfl)) rfl rfl (ev141 n)
/-! ### slices.ContainsFunc[[]int,int] -/
def F130 (n : Nat) (a0 : List Int) (a1 : Unit) : Option (rdens [.c false (.v false (.rs 3 (.int .i64))), .c false (.g 131)] [.c false (.v true .bool)]) :=
  (F141 n (a0) (())).bind fun y1 =>
  some (Decidable.decide (y1.fst ≥ (0 : Int)), ())
noncomputable def con130 (n : Nat) : Con := conOf [.c false (.v false (.rs 3 (.int .i64))), .c false (.g 131)] [.c false (.v true .bool)] fun x => F130 n x.1 x.2.1
noncomputable def tb130 (n : Nat) : Tb := ⟨tiOf Try.prog, conL [(141, con141 n)], n, [], 9, lpL [], ctL [], [], true⟩
noncomputable def code130 : Code := Try.f130.body.getD .skip
theorem tb130_ok (n : Nat) : (tb130 n).ok Try.prog := tbOk mixed (⟨con141_ok n, trivial⟩)
theorem blocks130 : blocks code130 = [] := by kernel_rfl
theorem la130 (n : Nat) : LpAll (tb130 n) code130 := lpAll blocks130 (bl_nil) rfl (cs_no fun _ => rfl) (by kernel_rfl)
theorem ev130 (n : Nat) (x : pdens [.c false (.v false (.rs 3 (.int .i64))), .c false (.g 131)]) : evSig (tb130 n) Try.f130 [.c false (.v false (.rs 3 (.int .i64))), .c false (.g 131)] [.c false (.v true .bool)] x = F130 n x.1 x.2.1 := by kernel_rfl
theorem con130_ok (n : Nat) : Con.ok Try.prog 130 (con130 n) := conOf_ok (tb130_ok n) (body_la (by kernel_rfl : Try.f130.body = some code130) (la130 n)) Try.func130 (enters Try.func130 (by kernel_rfl) (by kernel_rfl)) rfl rfl (ev130 n)
/-! ### loop.example/fathomline/impl.valsOk -/
def F99 (n : Nat) (a0 : List Int) : Option (rdens [.c false (.v false (.rs 3 (.int .i64)))] [.c false (.v true .bool)]) :=
  (F130 n (a0) (())).bind fun y1 =>
  some (!y1.fst, ())
noncomputable def con99 (n : Nat) : Con := conOf [.c false (.v false (.rs 3 (.int .i64)))] [.c false (.v true .bool)] fun x => F99 n x.1
noncomputable def tb99 (n : Nat) : Tb := ⟨tiOf Try.prog, conL [(130, con130 n)], n, [], 6, lpL [], ctL [], [], true⟩
noncomputable def code99 : Code := Try.f99.body.getD .skip
theorem tb99_ok (n : Nat) : (tb99 n).ok Try.prog := tbOk mixed (⟨con130_ok n, trivial⟩)
theorem blocks99 : blocks code99 = [] := by kernel_rfl
theorem la99 (n : Nat) : LpAll (tb99 n) code99 := lpAll blocks99 (bl_nil) rfl (cs_no fun _ => rfl) (by kernel_rfl)
theorem ev99 (n : Nat) (x : pdens [.c false (.v false (.rs 3 (.int .i64)))]) : evSig (tb99 n) Try.f99 [.c false (.v false (.rs 3 (.int .i64)))] [.c false (.v true .bool)] x = F99 n x.1 := by kernel_rfl
theorem con99_ok (n : Nat) : Con.ok Try.prog 99 (con99 n) := conOf_ok (tb99_ok n) (body_la (by kernel_rfl : Try.f99.body = some code99) (la99 n)) Try.func99 (enters Try.func99 (by kernel_rfl) (by kernel_rfl)) rfl rfl (ev99 n)
/-! ### loop.example/fathomline/impl.SeenOk -/
def F57 (n : Nat) (a0 : List (List (Int × Int × Int))) (a1 : List Int × List Int) : Option (rdens [.c true (.v false (.rs 50 (.rs 52 (.pair (.int .i64) (.pair (.int .i64) (.int .i64)))))), .c true (.v false (.pair (.rs 3 (.int .i64)) (.rs 3 (.int .i64))))] [.c false (.v true .bool)]) :=
  (F37 n (a0)).bind fun y1 =>
  cond (y1.fst)
  ((F43 n (a0)).bind fun y2 =>
   cond ((↑(List.length a1.fst) : Int) == y2.fst)
   (cond ((↑(List.length a1.snd) : Int) == (3 : Int))
    ((F99 n (a1.fst)).bind fun y3 =>
     cond (y3.fst)
     ((F99 n (a1.snd)).bind fun y4 =>
      some (y4.fst, ()))
     (some (Bool.false, ())))
    (some (Bool.false, ())))
   (some (Bool.false, ())))
  (some (Bool.false, ()))
noncomputable def con57 (n : Nat) : Con := conOf [.c true (.v false (.rs 50 (.rs 52 (.pair (.int .i64) (.pair (.int .i64) (.int .i64)))))), .c true (.v false (.pair (.rs 3 (.int .i64)) (.rs 3 (.int .i64))))] [.c false (.v true .bool)] fun x => F57 n x.1 x.2.1
noncomputable def tb57 (n : Nat) : Tb := ⟨tiOf Try.prog, conL [(37, con37 n), (43, con43 n), (99, con99 n)], n, [], 31, lpL [], ctL [], [], true⟩
noncomputable def code57 : Code := Try.f57.body.getD .skip
theorem tb57_ok (n : Nat) : (tb57 n).ok Try.prog := tbOk mixed (⟨con37_ok n, ⟨con43_ok n, ⟨con99_ok n, trivial⟩⟩⟩)
theorem blocks57 : blocks code57 = [] := by kernel_rfl
theorem la57 (n : Nat) : LpAll (tb57 n) code57 := lpAll blocks57 (bl_nil) rfl (cs_no fun _ => rfl) (by kernel_rfl)
theorem ev57 (n : Nat) (x : pdens [.c true (.v false (.rs 50 (.rs 52 (.pair (.int .i64) (.pair (.int .i64) (.int .i64)))))), .c true (.v false (.pair (.rs 3 (.int .i64)) (.rs 3 (.int .i64))))]) : evSig (tb57 n) Try.f57 [.c true (.v false (.rs 50 (.rs 52 (.pair (.int .i64) (.pair (.int .i64) (.int .i64)))))), .c true (.v false (.pair (.rs 3 (.int .i64)) (.rs 3 (.int .i64))))] [.c false (.v true .bool)] x = F57 n x.1 x.2.1 := by kernel_rfl
theorem con57_ok (n : Nat) : Con.ok Try.prog 57 (con57 n) := conOf_ok (tb57_ok n) (body_la (by kernel_rfl : Try.f57.body = some code57) (la57 n)) Try.func57 (enters Try.func57 (by kernel_rfl) (by kernel_rfl)) rfl rfl (ev57 n)
/-! ### loop.example/fathomline/laws.FnExactSeenOk -/
def F15 (n : Nat) (a0 : List (List (Int × Int × Int))) (a1 : List Int × List Int) : Option (rdens [.c true (.v true (.rs 115 (.rs 130 (.pair (.int .i64) (.pair (.int .i64) (.int .i64)))))), .c true (.v true (.pair (.rs 3 (.int .i64)) (.rs 3 (.int .i64))))] [.c false (.v true .bool)]) :=
  (F34 n (a0) ((1048576 : Int))).bind fun y1 =>
  cond (Decidable.decide (y1.fst < (0 : Int)))
  (some (Bool.true, ()))
  ((F24 n ((a1.fst, a1.snd)) (y1.fst)).bind fun y2 =>
   cond (Decidable.decide (y2.fst < (0 : Int)))
   (some (Bool.true, ()))
   ((F36 n (a0)).bind fun y3 =>
    (F26 n ((a1.fst, a1.snd))).bind fun y4 =>
    (F56 n (y3.fst) ((y4.fst.fst, y4.fst.snd))).bind fun y5 =>
    (F36 n (a0)).bind fun y6 =>
    (F26 n ((a1.fst, a1.snd))).bind fun y7 =>
    (F57 n (y6.fst) ((y7.fst.fst, y7.fst.snd))).bind fun y8 =>
    cond (!y8.fst == y5.fst)
    (some (Bool.false, ()))
    ((F36 n (a0)).bind fun y9 =>
     (F38 n (y6.fst) (y9.fst)).bind fun y10 =>
     cond (!y10.fst)
     (some (Bool.false, ()))
     ((F26 n ((a1.fst, a1.snd))).bind fun y11 =>
      (F28 n ((y7.fst.fst, y7.fst.snd)) ((y11.fst.fst, y11.fst.snd))).bind fun y12 =>
      cond (!y12.fst)
      (some (Bool.false, ()))
      (some (Bool.true, ()))))))
noncomputable def con15 (n : Nat) : Con := conOf [.c true (.v true (.rs 115 (.rs 130 (.pair (.int .i64) (.pair (.int .i64) (.int .i64)))))), .c true (.v true (.pair (.rs 3 (.int .i64)) (.rs 3 (.int .i64))))] [.c false (.v true .bool)] fun x => F15 n x.1 x.2.1
noncomputable def tb15 (n : Nat) : Tb := ⟨tiOf Try.prog, conL [(34, con34 n), (24, con24 n), (36, con36 n), (26, con26 n), (56, con56 n), (57, con57 n), (38, con38 n), (28, con28 n)], n, [], 45, lpL [], ctL [], [], true⟩
noncomputable def code15 : Code := Try.f15.body.getD .skip
theorem tb15_ok (n : Nat) : (tb15 n).ok Try.prog := tbOk mixed (⟨con34_ok n, ⟨con24_ok n, ⟨con36_ok n, ⟨con26_ok n, ⟨con56_ok n, ⟨con57_ok n, ⟨con38_ok n, ⟨con28_ok n, trivial⟩⟩⟩⟩⟩⟩⟩⟩)
theorem blocks15 : blocks code15 = [] := by kernel_rfl
theorem la15 (n : Nat) : LpAll (tb15 n) code15 := lpAll blocks15 (bl_nil) rfl (cs_no fun _ => rfl) (by kernel_rfl)
theorem ev15 (n : Nat) (x : pdens [.c true (.v true (.rs 115 (.rs 130 (.pair (.int .i64) (.pair (.int .i64) (.int .i64)))))), .c true (.v true (.pair (.rs 3 (.int .i64)) (.rs 3 (.int .i64))))]) : evSig (tb15 n) Try.f15 [.c true (.v true (.rs 115 (.rs 130 (.pair (.int .i64) (.pair (.int .i64) (.int .i64)))))), .c true (.v true (.pair (.rs 3 (.int .i64)) (.rs 3 (.int .i64))))] [.c false (.v true .bool)] x = F15 n x.1 x.2.1 := by kernel_rfl
theorem con15_ok (n : Nat) : Con.ok Try.prog 15 (con15 n) := conOf_ok (tb15_ok n) (body_la (by kernel_rfl : Try.f15.body = some code15) (la15 n)) Try.func15 (enters Try.func15 (by kernel_rfl) (by kernel_rfl)) rfl rfl (ev15 n)
end Go.Proofs.Ytaehbfaldofmbaa.Ev
