/- Plain functions that the loaded code comes to, and that it does. Conditions: none. -/
import Derived.Test.YtdacfaincamliaaGM
namespace Go.Proofs.Ytdacfaincamliaa.Ev
open Go Go.Proofs
/-! ### loop.example/fathomline/laws.markDoS -/
def L103_0 (n : Nat) : Nat → List (Int × Int × Int) → Int → Int → Option (odens [((.exit 0), [(0, (.c false (.r 59 yD))), (1, kI)])])
  | 0, _, _, _ => none
  | m + 1, x1, x2, x3 =>
    cond (Decidable.decide (x3 < (↑x1.length : Int)))
    (if (0 : Int) ≤ x3 then
     if x3 < (↑x1.length : Int) then
     if x3.toNat < x1.length then
     if (0 : Int) ≤ x3 then
     if x3 < (↑(x1.set x3.toNat (x2, (x1.getD x3.toNat ((0 : Int), (0 : Int), (0 : Int))).snd.fst, (x1.getD x3.toNat ((0 : Int), (0 : Int), (0 : Int))).snd.snd)).length : Int) then
     if x3.toNat < (x1.set x3.toNat (x2, (x1.getD x3.toNat ((0 : Int), (0 : Int), (0 : Int))).snd.fst, (x1.getD x3.toNat ((0 : Int), (0 : Int), (0 : Int))).snd.snd)).length then
     if (0 : Int) ≤ x3 then
     if x3 < (↑((x1.set x3.toNat (x2, (x1.getD x3.toNat ((0 : Int), (0 : Int), (0 : Int))).snd.fst, (x1.getD x3.toNat ((0 : Int), (0 : Int), (0 : Int))).snd.snd)).set x3.toNat (((x1.set x3.toNat (x2, (x1.getD x3.toNat ((0 : Int), (0 : Int), (0 : Int))).snd.fst, (x1.getD x3.toNat ((0 : Int), (0 : Int), (0 : Int))).snd.snd)).getD x3.toNat ((0 : Int), (0 : Int), (0 : Int))).fst, Go.IntKind.i64.wrap (x2 + (1 : Int)), ((x1.set x3.toNat (x2, (x1.getD x3.toNat ((0 : Int), (0 : Int), (0 : Int))).snd.fst, (x1.getD x3.toNat ((0 : Int), (0 : Int), (0 : Int))).snd.snd)).getD x3.toNat ((0 : Int), (0 : Int), (0 : Int))).snd.snd)).length : Int) then
     if x3.toNat < ((x1.set x3.toNat (x2, (x1.getD x3.toNat ((0 : Int), (0 : Int), (0 : Int))).snd.fst, (x1.getD x3.toNat ((0 : Int), (0 : Int), (0 : Int))).snd.snd)).set x3.toNat (((x1.set x3.toNat (x2, (x1.getD x3.toNat ((0 : Int), (0 : Int), (0 : Int))).snd.fst, (x1.getD x3.toNat ((0 : Int), (0 : Int), (0 : Int))).snd.snd)).getD x3.toNat ((0 : Int), (0 : Int), (0 : Int))).fst, Go.IntKind.i64.wrap (x2 + (1 : Int)), ((x1.set x3.toNat (x2, (x1.getD x3.toNat ((0 : Int), (0 : Int), (0 : Int))).snd.fst, (x1.getD x3.toNat ((0 : Int), (0 : Int), (0 : Int))).snd.snd)).getD x3.toNat ((0 : Int), (0 : Int), (0 : Int))).snd.snd)).length then
     L103_0 n m (((x1.set x3.toNat (x2, (x1.getD x3.toNat ((0 : Int), (0 : Int), (0 : Int))).snd.fst, (x1.getD x3.toNat ((0 : Int), (0 : Int), (0 : Int))).snd.snd)).set x3.toNat (((x1.set x3.toNat (x2, (x1.getD x3.toNat ((0 : Int), (0 : Int), (0 : Int))).snd.fst, (x1.getD x3.toNat ((0 : Int), (0 : Int), (0 : Int))).snd.snd)).getD x3.toNat ((0 : Int), (0 : Int), (0 : Int))).fst, Go.IntKind.i64.wrap (x2 + (1 : Int)), ((x1.set x3.toNat (x2, (x1.getD x3.toNat ((0 : Int), (0 : Int), (0 : Int))).snd.fst, (x1.getD x3.toNat ((0 : Int), (0 : Int), (0 : Int))).snd.snd)).getD x3.toNat ((0 : Int), (0 : Int), (0 : Int))).snd.snd)).set x3.toNat ((((x1.set x3.toNat (x2, (x1.getD x3.toNat ((0 : Int), (0 : Int), (0 : Int))).snd.fst, (x1.getD x3.toNat ((0 : Int), (0 : Int), (0 : Int))).snd.snd)).set x3.toNat (((x1.set x3.toNat (x2, (x1.getD x3.toNat ((0 : Int), (0 : Int), (0 : Int))).snd.fst, (x1.getD x3.toNat ((0 : Int), (0 : Int), (0 : Int))).snd.snd)).getD x3.toNat ((0 : Int), (0 : Int), (0 : Int))).fst, Go.IntKind.i64.wrap (x2 + (1 : Int)), ((x1.set x3.toNat (x2, (x1.getD x3.toNat ((0 : Int), (0 : Int), (0 : Int))).snd.fst, (x1.getD x3.toNat ((0 : Int), (0 : Int), (0 : Int))).snd.snd)).getD x3.toNat ((0 : Int), (0 : Int), (0 : Int))).snd.snd)).getD x3.toNat ((0 : Int), (0 : Int), (0 : Int))).fst, (((x1.set x3.toNat (x2, (x1.getD x3.toNat ((0 : Int), (0 : Int), (0 : Int))).snd.fst, (x1.getD x3.toNat ((0 : Int), (0 : Int), (0 : Int))).snd.snd)).set x3.toNat (((x1.set x3.toNat (x2, (x1.getD x3.toNat ((0 : Int), (0 : Int), (0 : Int))).snd.fst, (x1.getD x3.toNat ((0 : Int), (0 : Int), (0 : Int))).snd.snd)).getD x3.toNat ((0 : Int), (0 : Int), (0 : Int))).fst, Go.IntKind.i64.wrap (x2 + (1 : Int)), ((x1.set x3.toNat (x2, (x1.getD x3.toNat ((0 : Int), (0 : Int), (0 : Int))).snd.fst, (x1.getD x3.toNat ((0 : Int), (0 : Int), (0 : Int))).snd.snd)).getD x3.toNat ((0 : Int), (0 : Int), (0 : Int))).snd.snd)).getD x3.toNat ((0 : Int), (0 : Int), (0 : Int))).snd.fst, Go.IntKind.i64.wrap (Go.IntKind.i64.wrap (x2 + (1 : Int)) + (1 : Int)))) (Go.IntKind.i64.wrap (Go.IntKind.i64.wrap (Go.IntKind.i64.wrap (x2 + (1 : Int)) + (1 : Int)) + (1 : Int))) (Go.IntKind.i64.wrap (x3 + (1 : Int)))
     else none
     else none
     else none
     else none
     else none
     else none
     else none
     else none
     else none)
    (some (Sum.inl (x1, x2, ())))
def F103 (n : Nat) (a0 : List (Int × Int × Int)) (a1 : Int) : Option (rdens [.c false (.o (.rs 59 yD)), .c false (.v true (.int .i64))] [.c false (.v true (.int .i64))]) :=
  match L103_0 n n (a0) (a1) ((0 : Int)) with
  | none => none
  | some (Sum.inl v4) =>
   some (v4.snd.fst, v4.fst, ())
noncomputable def con103 (n : Nat) : Con := conOf [.c false (.o (.rs 59 yD)), .c false (.v true (.int .i64))] [.c false (.v true (.int .i64))] fun x => F103 n x.1 x.2.1
noncomputable def tb103 (n : Nat) : Tb := ⟨tiOf Try.prog, conL [], n, [], 34, lpL [(0, ⟨[(0, (.c false (.r 59 yD))), (1, kI), (5, kI)], [((.exit 0), [(0, (.c false (.r 59 yD))), (1, kI)])], fun m v => L103_0 n m v.1 v.2.1 v.2.2.1⟩)], ctL [], [0], true⟩
noncomputable def code103 : Code := Try.f103.body.getD .skip
theorem tb103_ok (n : Nat) : (tb103 n).ok Try.prog := tbOk mixed (trivial)
theorem lp103_0 (n : Nat) : LpAt (tb103 n) (loopBody code103 0) 0 := lpAt rfl (fun _ => by kernel_rfl) (fun _ _ => by kernel_rfl)
theorem blocks103 : blocks code103 = [(0, .loop (loopBody code103 0)), (1, blockBody code103 1)] := by kernel_rfl
theorem la103 (n : Nat) : LpAll (tb103 n) code103 := lpAll blocks103 (bl_loop (lp103_0 n) (bl_none rfl (bl_nil))) rfl (cs_no fun _ => rfl) (by kernel_rfl)
theorem ev103 (n : Nat) (x : pdens [.c false (.o (.rs 59 yD)), .c false (.v true (.int .i64))]) : evSig (tb103 n) Try.f103 [.c false (.o (.rs 59 yD)), .c false (.v true (.int .i64))] [.c false (.v true (.int .i64))] x = F103 n x.1 x.2.1 := by kernel_rfl
theorem con103_ok (n : Nat) : Con.ok Try.prog 103 (con103 n) := conOf_ok (tb103_ok n) (body_la (by kernel_rfl : Try.f103.body = some code103) (la103 n)) Try.func103 (enters Try.func103 (by kernel_rfl) (by kernel_rfl)) rfl rfl (ev103 n)
/-! ### loop.example/fathomline/laws.markDoSS -/
def L60_0 (n : Nat) : Nat → List (List (Int × Int × Int)) → Int → Int → Option (odens [((.exit 0), [(0, (.c false (.o yP))), (1, kI)])])
  | 0, _, _, _ => none
  | m + 1, x1, x2, x3 =>
    cond (Decidable.decide (x3 < (↑x1.length : Int)))
    (if (0 : Int) ≤ x3 then
     if x3 < (↑x1.length : Int) then
     if x3.toNat < x1.length then
     if (List.take x3.toNat x1).length = x3.toNat then
     (F103 n (x1.getD x3.toNat []) (x2)).bind fun y4 =>
     L60_0 n m (List.take x3.toNat x1 ++ y4.snd.fst :: List.drop (x3.toNat + (1 : Nat)) x1) (y4.fst) (Go.IntKind.i64.wrap (x3 + (1 : Int)))
     else none
     else none
     else none
     else none)
    (some (Sum.inl (x1, x2, ())))
def F60 (n : Nat) (a0 : List (List (Int × Int × Int))) (a1 : Int) : Option (rdens [.c false (.o yP), .c false (.v true (.int .i64))] [.c false (.v true (.int .i64))]) :=
  match L60_0 n n (a0) (a1) ((0 : Int)) with
  | none => none
  | some (Sum.inl v5) =>
   some (v5.snd.fst, v5.fst, ())
noncomputable def con60 (n : Nat) : Con := conOf [.c false (.o yP), .c false (.v true (.int .i64))] [.c false (.v true (.int .i64))] fun x => F60 n x.1 x.2.1
noncomputable def tb60 (n : Nat) : Tb := ⟨tiOf Try.prog, conL [(103, con103 n)], n, [], 19, lpL [(0, ⟨[(0, (.c false (.o yP))), (1, kI), (5, kI)], [((.exit 0), [(0, (.c false (.o yP))), (1, kI)])], fun m v => L60_0 n m v.1 v.2.1 v.2.2.1⟩)], ctL [], [0], true⟩
noncomputable def code60 : Code := Try.f60.body.getD .skip
theorem tb60_ok (n : Nat) : (tb60 n).ok Try.prog := tbOk mixed (⟨con103_ok n, trivial⟩)
theorem lp60_0 (n : Nat) : LpAt (tb60 n) (loopBody code60 0) 0 := lpAt rfl (fun _ => by kernel_rfl) (fun _ _ => by kernel_rfl)
theorem blocks60 : blocks code60 = [(0, .loop (loopBody code60 0)), (1, blockBody code60 1)] := by kernel_rfl
theorem la60 (n : Nat) : LpAll (tb60 n) code60 := lpAll blocks60 (bl_loop (lp60_0 n) (bl_none rfl (bl_nil))) rfl (cs_no fun _ => rfl) (by kernel_rfl)
theorem ev60 (n : Nat) (x : pdens [.c false (.o yP), .c false (.v true (.int .i64))]) : evSig (tb60 n) Try.f60 [.c false (.o yP), .c false (.v true (.int .i64))] [.c false (.v true (.int .i64))] x = F60 n x.1 x.2.1 := by kernel_rfl
theorem con60_ok (n : Nat) : Con.ok Try.prog 60 (con60 n) := conOf_ok (tb60_ok n) (body_la (by kernel_rfl : Try.f60.body = some code60) (la60 n)) Try.func60 (enters Try.func60 (by kernel_rfl) (by kernel_rfl)) rfl rfl (ev60 n)
/-! ### loop.example/fathomline/laws.markProg -/
def F22 (n : Nat) (a0 : List (List (Int × Int × Int))) (a1 : Int) : Option (rdens [.c true (.o yP), .c false (.v true (.int .i64))] [.c false (.v true (.int .i64))]) :=
  (F60 n (a0) (a1)).bind fun y1 =>
  some (y1.fst, y1.snd.fst, ())
noncomputable def con22 (n : Nat) : Con := conOf [.c true (.o yP), .c false (.v true (.int .i64))] [.c false (.v true (.int .i64))] fun x => F22 n x.1 x.2.1
noncomputable def tb22 (n : Nat) : Tb := ⟨tiOf Try.prog, conL [(60, con60 n)], n, [], 10, lpL [], ctL [], [0], true⟩
noncomputable def code22 : Code := Try.f22.body.getD .skip
theorem tb22_ok (n : Nat) : (tb22 n).ok Try.prog := tbOk mixed (⟨con60_ok n, trivial⟩)
theorem blocks22 : blocks code22 = [] := by kernel_rfl
theorem la22 (n : Nat) : LpAll (tb22 n) code22 := lpAll blocks22 (bl_nil) rfl (cs_no fun _ => rfl) (by kernel_rfl)
theorem ev22 (n : Nat) (x : pdens [.c true (.o yP), .c false (.v true (.int .i64))]) : evSig (tb22 n) Try.f22 [.c true (.o yP), .c false (.v true (.int .i64))] [.c false (.v true (.int .i64))] x = F22 n x.1 x.2.1 := by kernel_rfl
theorem con22_ok (n : Nat) : Con.ok Try.prog 22 (con22 n) := conOf_ok (tb22_ok n) (body_la (by kernel_rfl : Try.f22.body = some code22) (la22 n)) Try.func22 (enters Try.func22 (by kernel_rfl) (by kernel_rfl)) rfl rfl (ev22 n)
/-! ### loop.example/fathomline/laws.markIntS -/
def L23_0 (n : Nat) : Nat → List Int → Int → Int → Option (odens [((.exit 0), [(0, (.c false (.r 3 (.int .i64)))), (1, kI)])])
  | 0, _, _, _ => none
  | m + 1, x1, x2, x3 =>
    cond (Decidable.decide (x3 < (↑x1.length : Int)))
    (if (0 : Int) ≤ x3 then
     if x3 < (↑x1.length : Int) then
     if x3.toNat < x1.length then
     L23_0 n m (x1.set x3.toNat x2) (Go.IntKind.i64.wrap (x2 + (1 : Int))) (Go.IntKind.i64.wrap (x3 + (1 : Int)))
     else none
     else none
     else none)
    (some (Sum.inl (x1, x2, ())))
def F23 (n : Nat) (a0 : List Int) (a1 : Int) : Option (rdens [.c false (.o (.rs 3 (.int .i64))), .c false (.v true (.int .i64))] [.c false (.v true (.int .i64))]) :=
  match L23_0 n n (a0) (a1) ((0 : Int)) with
  | none => none
  | some (Sum.inl v4) =>
   some (v4.snd.fst, v4.fst, ())
noncomputable def con23 (n : Nat) : Con := conOf [.c false (.o (.rs 3 (.int .i64))), .c false (.v true (.int .i64))] [.c false (.v true (.int .i64))] fun x => F23 n x.1 x.2.1
noncomputable def tb23 (n : Nat) : Tb := ⟨tiOf Try.prog, conL [], n, [], 19, lpL [(0, ⟨[(0, (.c false (.r 3 (.int .i64)))), (1, kI), (5, kI)], [((.exit 0), [(0, (.c false (.r 3 (.int .i64)))), (1, kI)])], fun m v => L23_0 n m v.1 v.2.1 v.2.2.1⟩)], ctL [], [0], true⟩
noncomputable def code23 : Code := Try.f23.body.getD .skip
theorem tb23_ok (n : Nat) : (tb23 n).ok Try.prog := tbOk mixed (trivial)
theorem lp23_0 (n : Nat) : LpAt (tb23 n) (loopBody code23 0) 0 := lpAt rfl (fun _ => by kernel_rfl) (fun _ _ => by kernel_rfl)
theorem blocks23 : blocks code23 = [(0, .loop (loopBody code23 0)), (1, blockBody code23 1)] := by kernel_rfl
theorem la23 (n : Nat) : LpAll (tb23 n) code23 := lpAll blocks23 (bl_loop (lp23_0 n) (bl_none rfl (bl_nil))) rfl (cs_no fun _ => rfl) (by kernel_rfl)
theorem ev23 (n : Nat) (x : pdens [.c false (.o (.rs 3 (.int .i64))), .c false (.v true (.int .i64))]) : evSig (tb23 n) Try.f23 [.c false (.o (.rs 3 (.int .i64))), .c false (.v true (.int .i64))] [.c false (.v true (.int .i64))] x = F23 n x.1 x.2.1 := by kernel_rfl
theorem con23_ok (n : Nat) : Con.ok Try.prog 23 (con23 n) := conOf_ok (tb23_ok n) (body_la (by kernel_rfl : Try.f23.body = some code23) (la23 n)) Try.func23 (enters Try.func23 (by kernel_rfl) (by kernel_rfl)) rfl rfl (ev23 n)
/-! ### loop.example/fathomline/laws.markIntSS -/
def L90_0 (n : Nat) : Nat → List (List Int) → Int → Int → Option (odens [((.exit 0), [(0, (.c false (.o (.rs 25 (.rs 3 (.int .i64)))))), (1, kI)])])
  | 0, _, _, _ => none
  | m + 1, x1, x2, x3 =>
    cond (Decidable.decide (x3 < (↑x1.length : Int)))
    (if (0 : Int) ≤ x3 then
     if x3 < (↑x1.length : Int) then
     if x3.toNat < x1.length then
     if (List.take x3.toNat x1).length = x3.toNat then
     (F23 n (x1.getD x3.toNat []) (x2)).bind fun y4 =>
     L90_0 n m (List.take x3.toNat x1 ++ y4.snd.fst :: List.drop (x3.toNat + (1 : Nat)) x1) (y4.fst) (Go.IntKind.i64.wrap (x3 + (1 : Int)))
     else none
     else none
     else none
     else none)
    (some (Sum.inl (x1, x2, ())))
def F90 (n : Nat) (a0 : List (List Int)) (a1 : Int) : Option (rdens [.c false (.o (.rs 25 (.rs 3 (.int .i64)))), .c false (.v true (.int .i64))] [.c false (.v true (.int .i64))]) :=
  match L90_0 n n (a0) (a1) ((0 : Int)) with
  | none => none
  | some (Sum.inl v5) =>
   some (v5.snd.fst, v5.fst, ())
noncomputable def con90 (n : Nat) : Con := conOf [.c false (.o (.rs 25 (.rs 3 (.int .i64)))), .c false (.v true (.int .i64))] [.c false (.v true (.int .i64))] fun x => F90 n x.1 x.2.1
noncomputable def tb90 (n : Nat) : Tb := ⟨tiOf Try.prog, conL [(23, con23 n)], n, [], 19, lpL [(0, ⟨[(0, (.c false (.o (.rs 25 (.rs 3 (.int .i64)))))), (1, kI), (5, kI)], [((.exit 0), [(0, (.c false (.o (.rs 25 (.rs 3 (.int .i64)))))), (1, kI)])], fun m v => L90_0 n m v.1 v.2.1 v.2.2.1⟩)], ctL [], [0], true⟩
noncomputable def code90 : Code := Try.f90.body.getD .skip
theorem tb90_ok (n : Nat) : (tb90 n).ok Try.prog := tbOk mixed (⟨con23_ok n, trivial⟩)
theorem lp90_0 (n : Nat) : LpAt (tb90 n) (loopBody code90 0) 0 := lpAt rfl (fun _ => by kernel_rfl) (fun _ _ => by kernel_rfl)
theorem blocks90 : blocks code90 = [(0, .loop (loopBody code90 0)), (1, blockBody code90 1)] := by kernel_rfl
theorem la90 (n : Nat) : LpAll (tb90 n) code90 := lpAll blocks90 (bl_loop (lp90_0 n) (bl_none rfl (bl_nil))) rfl (cs_no fun _ => rfl) (by kernel_rfl)
theorem ev90 (n : Nat) (x : pdens [.c false (.o (.rs 25 (.rs 3 (.int .i64)))), .c false (.v true (.int .i64))]) : evSig (tb90 n) Try.f90 [.c false (.o (.rs 25 (.rs 3 (.int .i64)))), .c false (.v true (.int .i64))] [.c false (.v true (.int .i64))] x = F90 n x.1 x.2.1 := by kernel_rfl
theorem con90_ok (n : Nat) : Con.ok Try.prog 90 (con90 n) := conOf_ok (tb90_ok n) (body_la (by kernel_rfl : Try.f90.body = some code90) (la90 n)) Try.func90 (enters Try.func90 (by kernel_rfl) (by kernel_rfl)) rfl rfl (ev90 n)
/-! ### loop.example/fathomline/laws.markExec -/
def F48 (n : Nat) (a0 : List Int × List (List Int)) (a1 : Int) : Option (rdens [.c true (.o yX), .c false (.v true (.int .i64))] [.c false (.v true (.int .i64))]) :=
  (F23 n (a0.fst) (a1)).bind fun y1 =>
  (F90 n (a0.snd) (y1.fst)).bind fun y2 =>
  some (y2.fst, (y1.snd.fst, y2.snd.fst), ())
noncomputable def con48 (n : Nat) : Con := conOf [.c true (.o yX), .c false (.v true (.int .i64))] [.c false (.v true (.int .i64))] fun x => F48 n x.1 x.2.1
noncomputable def tb48 (n : Nat) : Tb := ⟨tiOf Try.prog, conL [(23, con23 n), (90, con90 n)], n, [], 14, lpL [], ctL [], [0], true⟩
noncomputable def code48 : Code := Try.f48.body.getD .skip
theorem tb48_ok (n : Nat) : (tb48 n).ok Try.prog := tbOk mixed (⟨con23_ok n, ⟨con90_ok n, trivial⟩⟩)
theorem blocks48 : blocks code48 = [] := by kernel_rfl
theorem la48 (n : Nat) : LpAll (tb48 n) code48 := lpAll blocks48 (bl_nil) rfl (cs_no fun _ => rfl) (by kernel_rfl)
theorem ev48 (n : Nat) (x : pdens [.c true (.o yX), .c false (.v true (.int .i64))]) : evSig (tb48 n) Try.f48 [.c true (.o yX), .c false (.v true (.int .i64))] [.c false (.v true (.int .i64))] x = F48 n x.1 x.2.1 := by kernel_rfl
theorem con48_ok (n : Nat) : Con.ok Try.prog 48 (con48 n) := conOf_ok (tb48_ok n) (body_la (by kernel_rfl : Try.f48.body = some code48) (la48 n)) Try.func48 (enters Try.func48 (by kernel_rfl) (by kernel_rfl)) rfl rfl (ev48 n)
/-! ### loop.example/fathomline/laws.markSeen -/
def F24 (n : Nat) (a0 : List Int × List Int) (a1 : Int) : Option (rdens [.c true (.o (.pair (.rs 3 (.int .i64)) (.rs 3 (.int .i64)))), .c false (.v true (.int .i64))] [.c false (.v true (.int .i64))]) :=
  (F23 n (a0.fst) (a1)).bind fun y1 =>
  (F23 n (a0.snd) (y1.fst)).bind fun y2 =>
  some (y2.fst, (y1.snd.fst, y2.snd.fst), ())
noncomputable def con24 (n : Nat) : Con := conOf [.c true (.o (.pair (.rs 3 (.int .i64)) (.rs 3 (.int .i64)))), .c false (.v true (.int .i64))] [.c false (.v true (.int .i64))] fun x => F24 n x.1 x.2.1
noncomputable def tb24 (n : Nat) : Tb := ⟨tiOf Try.prog, conL [(23, con23 n)], n, [], 14, lpL [], ctL [], [0], true⟩
noncomputable def code24 : Code := Try.f24.body.getD .skip
theorem tb24_ok (n : Nat) : (tb24 n).ok Try.prog := tbOk mixed (⟨con23_ok n, trivial⟩)
theorem blocks24 : blocks code24 = [] := by kernel_rfl
theorem la24 (n : Nat) : LpAll (tb24 n) code24 := lpAll blocks24 (bl_nil) rfl (cs_no fun _ => rfl) (by kernel_rfl)
theorem ev24 (n : Nat) (x : pdens [.c true (.o (.pair (.rs 3 (.int .i64)) (.rs 3 (.int .i64)))), .c false (.v true (.int .i64))]) : evSig (tb24 n) Try.f24 [.c true (.o (.pair (.rs 3 (.int .i64)) (.rs 3 (.int .i64)))), .c false (.v true (.int .i64))] [.c false (.v true (.int .i64))] x = F24 n x.1 x.2.1 := by kernel_rfl
theorem con24_ok (n : Nat) : Con.ok Try.prog 24 (con24 n) := conOf_ok (tb24_ok n) (body_la (by kernel_rfl : Try.f24.body = some code24) (la24 n)) Try.func24 (enters Try.func24 (by kernel_rfl) (by kernel_rfl)) rfl rfl (ev24 n)
/-! ### loop.example/fathomline/laws.heldIntS -/
def L61_0 (n : Nat) : Nat → List Int → Int → Int → Option (odens [(.ret, [(4, kI)]), ((.exit 0), [(1, kI)])])
  | 0, _, _, _ => none
  | m + 1, x1, x2, x3 =>
    cond (Decidable.decide (x3 < (↑x1.length : Int)))
    (if (0 : Int) ≤ x3 then
     if x3 < (↑x1.length : Int) then
     cond (x1.getD x3.toNat (0 : Int) != x2)
     (some (Sum.inl ((-1 : Int), ())))
     (L61_0 n m (x1) (Go.IntKind.i64.wrap (x2 + (1 : Int))) (Go.IntKind.i64.wrap (x3 + (1 : Int))))
     else none
     else none)
    (some (Sum.inr (Sum.inl (x2, ()))))
def F61 (n : Nat) (a0 : List Int) (a1 : Int) : Option (rdens [.c false (.v false (.rs 3 (.int .i64))), .c false (.v true (.int .i64))] [.c false (.v true (.int .i64))]) :=
  match L61_0 n n (a0) (a1) ((0 : Int)) with
  | none => none
  | some (Sum.inl v4) =>
   some (v4.fst, ())
  | some (Sum.inr (Sum.inl v5)) =>
   some (v5.fst, ())
noncomputable def con61 (n : Nat) : Con := conOf [.c false (.v false (.rs 3 (.int .i64))), .c false (.v true (.int .i64))] [.c false (.v true (.int .i64))] fun x => F61 n x.1 x.2.1
noncomputable def tb61 (n : Nat) : Tb := ⟨tiOf Try.prog, conL [], n, [], 21, lpL [(0, ⟨[(0, (.c false (.v false (.rs 3 (.int .i64))))), (1, kI), (5, kI)], [(.ret, [(4, kI)]), ((.exit 0), [(1, kI)])], fun m v => L61_0 n m v.1 v.2.1 v.2.2.1⟩)], ctL [], [], true⟩
noncomputable def code61 : Code := Try.f61.body.getD .skip
theorem tb61_ok (n : Nat) : (tb61 n).ok Try.prog := tbOk mixed (trivial)
theorem lp61_0 (n : Nat) : LpAt (tb61 n) (loopBody code61 0) 0 := lpAt rfl (fun _ => by kernel_rfl) (fun _ _ => by kernel_rfl)
theorem blocks61 : blocks code61 = [(0, .loop (loopBody code61 0)), (1, blockBody code61 1)] := by kernel_rfl
theorem la61 (n : Nat) : LpAll (tb61 n) code61 := lpAll blocks61 (bl_loop (lp61_0 n) (bl_none rfl (bl_nil))) rfl (cs_no fun _ => rfl) (by kernel_rfl)
theorem ev61 (n : Nat) (x : pdens [.c false (.v false (.rs 3 (.int .i64))), .c false (.v true (.int .i64))]) : evSig (tb61 n) Try.f61 [.c false (.v false (.rs 3 (.int .i64))), .c false (.v true (.int .i64))] [.c false (.v true (.int .i64))] x = F61 n x.1 x.2.1 := by kernel_rfl
theorem con61_ok (n : Nat) : Con.ok Try.prog 61 (con61 n) := conOf_ok (tb61_ok n) (body_la (by kernel_rfl : Try.f61.body = some code61) (la61 n)) Try.func61 (enters Try.func61 (by kernel_rfl) (by kernel_rfl)) rfl rfl (ev61 n)
/-! ### loop.example/fathomline/laws.heldSeen -/
def F25 (n : Nat) (a0 : List Int × List Int) (a1 : Int) : Option (rdens [.c true (.v false (.pair (.rs 3 (.int .i64)) (.rs 3 (.int .i64)))), .c false (.v true (.int .i64))] [.c false (.v true (.int .i64))]) :=
  (F61 n (a0.fst) (a1)).bind fun y1 =>
  cond (Decidable.decide (y1.fst < (0 : Int)))
  (some ((-1 : Int), ()))
  ((F61 n (a0.snd) (y1.fst)).bind fun y2 =>
   cond (Decidable.decide (y2.fst < (0 : Int)))
   (some ((-1 : Int), ()))
   (some (y2.fst, ())))
noncomputable def con25 (n : Nat) : Con := conOf [.c true (.v false (.pair (.rs 3 (.int .i64)) (.rs 3 (.int .i64)))), .c false (.v true (.int .i64))] [.c false (.v true (.int .i64))] fun x => F25 n x.1 x.2.1
noncomputable def tb25 (n : Nat) : Tb := ⟨tiOf Try.prog, conL [(61, con61 n)], n, [], 18, lpL [], ctL [], [], true⟩
noncomputable def code25 : Code := Try.f25.body.getD .skip
theorem tb25_ok (n : Nat) : (tb25 n).ok Try.prog := tbOk mixed (⟨con61_ok n, trivial⟩)
theorem blocks25 : blocks code25 = [] := by kernel_rfl
theorem la25 (n : Nat) : LpAll (tb25 n) code25 := lpAll blocks25 (bl_nil) rfl (cs_no fun _ => rfl) (by kernel_rfl)
theorem ev25 (n : Nat) (x : pdens [.c true (.v false (.pair (.rs 3 (.int .i64)) (.rs 3 (.int .i64)))), .c false (.v true (.int .i64))]) : evSig (tb25 n) Try.f25 [.c true (.v false (.pair (.rs 3 (.int .i64)) (.rs 3 (.int .i64)))), .c false (.v true (.int .i64))] [.c false (.v true (.int .i64))] x = F25 n x.1 x.2.1 := by kernel_rfl
theorem con25_ok (n : Nat) : Con.ok Try.prog 25 (con25 n) := conOf_ok (tb25_ok n) (body_la (by kernel_rfl : Try.f25.body = some code25) (la25 n)) Try.func25 (enters Try.func25 (by kernel_rfl) (by kernel_rfl)) rfl rfl (ev25 n)
end Go.Proofs.Ytdacfaincamliaa.Ev
