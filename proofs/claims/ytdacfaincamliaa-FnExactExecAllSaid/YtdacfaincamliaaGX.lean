/- Plain functions that the loaded code comes to, and that it does. Conditions: none. -/
import Derived.Test.YtdacfaincamliaaGM
namespace Go.Proofs.Ytdacfaincamliaa.Ev
open Go Go.Proofs
/-! ### loop.example/fathomline/laws.szIntS -/
def F63 (n : Nat) (a0 : List Int) (a1 : Int) : Option (rdens [.c false (.v false (.rs 3 (.int .i64))), .c false (.v true (.int .i64))] [.c false (.v true (.int .i64))]) :=
  cond (Decidable.decide (Go.IntKind.i64.wrap (a1 - (↑a0.length : Int)) < (0 : Int)))
  (some ((-1 : Int), ()))
  (some (Go.IntKind.i64.wrap (a1 - (↑a0.length : Int)), ()))
noncomputable def con63 (n : Nat) : Con := conOf [.c false (.v false (.rs 3 (.int .i64))), .c false (.v true (.int .i64))] [.c false (.v true (.int .i64))] fun x => F63 n x.1 x.2.1
noncomputable def tb63 (n : Nat) : Tb := ⟨tiOf Try.prog, conL [], n, [], 12, lpL [], ctL [], [], true⟩
noncomputable def code63 : Code := Try.f63.body.getD .skip
theorem tb63_ok (n : Nat) : (tb63 n).ok Try.prog := tbOk mixed (trivial)
theorem blocks63 : blocks code63 = [] := by kernel_rfl
theorem la63 (n : Nat) : LpAll (tb63 n) code63 := lpAll blocks63 (bl_nil) rfl (cs_no fun _ => rfl) (by kernel_rfl)
theorem ev63 (n : Nat) (x : pdens [.c false (.v false (.rs 3 (.int .i64))), .c false (.v true (.int .i64))]) : evSig (tb63 n) Try.f63 [.c false (.v false (.rs 3 (.int .i64))), .c false (.v true (.int .i64))] [.c false (.v true (.int .i64))] x = F63 n x.1 x.2.1 := by kernel_rfl
theorem con63_ok (n : Nat) : Con.ok Try.prog 63 (con63 n) := conOf_ok (tb63_ok n) (body_la (by kernel_rfl : Try.f63.body = some code63) (la63 n)) Try.func63 (enters Try.func63 (by kernel_rfl) (by kernel_rfl)) rfl rfl (ev63 n)
/-! ### loop.example/fathomline/laws.szIntSS -/
def L64_0 (n : Nat) : Nat → List (List Int) → Int → Int → Option (odens [(.ret, [(4, kI)]), ((.exit 0), [(1, kI)])])
  | 0, _, _, _ => none
  | m + 1, x1, x2, x3 =>
    cond (Decidable.decide (x3 < (↑x1.length : Int)))
    (if (0 : Int) ≤ x3 then
     if x3 < (↑x1.length : Int) then
     (F63 n (x1.getD x3.toNat []) (x2)).bind fun y4 =>
     cond (Decidable.decide (y4.fst < (0 : Int)))
     (some (Sum.inl ((-1 : Int), ())))
     (L64_0 n m (x1) (y4.fst) (Go.IntKind.i64.wrap (x3 + (1 : Int))))
     else none
     else none)
    (some (Sum.inr (Sum.inl (x2, ()))))
def F64 (n : Nat) (a0 : List (List Int)) (a1 : Int) : Option (rdens [.c false (.v false (.rs 25 (.rs 3 (.int .i64)))), .c false (.v true (.int .i64))] [.c false (.v true (.int .i64))]) :=
  cond (Decidable.decide (Go.IntKind.i64.wrap (a1 - (↑a0.length : Int)) < (0 : Int)))
  (some ((-1 : Int), ()))
  (match L64_0 n n (a0) (Go.IntKind.i64.wrap (a1 - (↑a0.length : Int))) ((0 : Int)) with
   | none => none
   | some (Sum.inl v5) =>
    some (v5.fst, ())
   | some (Sum.inr (Sum.inl v6)) =>
    some (v6.fst, ()))
noncomputable def con64 (n : Nat) : Con := conOf [.c false (.v false (.rs 25 (.rs 3 (.int .i64)))), .c false (.v true (.int .i64))] [.c false (.v true (.int .i64))] fun x => F64 n x.1 x.2.1
noncomputable def tb64 (n : Nat) : Tb := ⟨tiOf Try.prog, conL [(63, con63 n)], n, [], 27, lpL [(0, ⟨[(0, (.c false (.v false (.rs 25 (.rs 3 (.int .i64)))))), (1, kI), (5, kI)], [(.ret, [(4, kI)]), ((.exit 0), [(1, kI)])], fun m v => L64_0 n m v.1 v.2.1 v.2.2.1⟩)], ctL [], [], true⟩
noncomputable def code64 : Code := Try.f64.body.getD .skip
theorem tb64_ok (n : Nat) : (tb64 n).ok Try.prog := tbOk mixed (⟨con63_ok n, trivial⟩)
theorem lp64_0 (n : Nat) : LpAt (tb64 n) (loopBody code64 0) 0 := lpAt rfl (fun _ => by kernel_rfl) (fun _ _ => by kernel_rfl)
theorem blocks64 : blocks code64 = [(0, .loop (loopBody code64 0)), (1, blockBody code64 1)] := by kernel_rfl
theorem la64 (n : Nat) : LpAll (tb64 n) code64 := lpAll blocks64 (bl_loop (lp64_0 n) (bl_none rfl (bl_nil))) rfl (cs_no fun _ => rfl) (by kernel_rfl)
theorem ev64 (n : Nat) (x : pdens [.c false (.v false (.rs 25 (.rs 3 (.int .i64)))), .c false (.v true (.int .i64))]) : evSig (tb64 n) Try.f64 [.c false (.v false (.rs 25 (.rs 3 (.int .i64)))), .c false (.v true (.int .i64))] [.c false (.v true (.int .i64))] x = F64 n x.1 x.2.1 := by kernel_rfl
theorem con64_ok (n : Nat) : Con.ok Try.prog 64 (con64 n) := conOf_ok (tb64_ok n) (body_la (by kernel_rfl : Try.f64.body = some code64) (la64 n)) Try.func64 (enters Try.func64 (by kernel_rfl) (by kernel_rfl)) rfl rfl (ev64 n)
/-! ### loop.example/fathomline/laws.szExec -/
def F28 (n : Nat) (a0 : List Int × List (List Int)) (a1 : Int) : Option (rdens [.c true (.v false yX), .c false (.v true (.int .i64))] [.c false (.v true (.int .i64))]) :=
  (F63 n (a0.fst) (a1)).bind fun y1 =>
  cond (Decidable.decide (y1.fst < (0 : Int)))
  (some ((-1 : Int), ()))
  ((F64 n (a0.snd) (y1.fst)).bind fun y2 =>
   cond (Decidable.decide (y2.fst < (0 : Int)))
   (some ((-1 : Int), ()))
   (some (y2.fst, ())))
noncomputable def con28 (n : Nat) : Con := conOf [.c true (.v false yX), .c false (.v true (.int .i64))] [.c false (.v true (.int .i64))] fun x => F28 n x.1 x.2.1
noncomputable def tb28 (n : Nat) : Tb := ⟨tiOf Try.prog, conL [(63, con63 n), (64, con64 n)], n, [], 18, lpL [], ctL [], [], true⟩
noncomputable def code28 : Code := Try.f28.body.getD .skip
theorem tb28_ok (n : Nat) : (tb28 n).ok Try.prog := tbOk mixed (⟨con63_ok n, ⟨con64_ok n, trivial⟩⟩)
theorem blocks28 : blocks code28 = [] := by kernel_rfl
theorem la28 (n : Nat) : LpAll (tb28 n) code28 := lpAll blocks28 (bl_nil) rfl (cs_no fun _ => rfl) (by kernel_rfl)
theorem ev28 (n : Nat) (x : pdens [.c true (.v false yX), .c false (.v true (.int .i64))]) : evSig (tb28 n) Try.f28 [.c true (.v false yX), .c false (.v true (.int .i64))] [.c false (.v true (.int .i64))] x = F28 n x.1 x.2.1 := by kernel_rfl
theorem con28_ok (n : Nat) : Con.ok Try.prog 28 (con28 n) := conOf_ok (tb28_ok n) (body_la (by kernel_rfl : Try.f28.body = some code28) (la28 n)) Try.func28 (enters Try.func28 (by kernel_rfl) (by kernel_rfl)) rfl rfl (ev28 n)
/-! ### loop.example/fathomline/laws.toIntS -/
def L17_0 (n : Nat) : Nat → List Int → List Int → Int → Option (odens [((.exit 0), [(3, (.c false (.r 3 (.int .i64))))])])
  | 0, _, _, _ => none
  | m + 1, x1, x2, x3 =>
    cond (Decidable.decide (x3 < (↑x1.length : Int)))
    (if (0 : Int) ≤ x3 then
     if x3 < (↑x1.length : Int) then
     if (0 : Int) ≤ x3 then
     if x3 < (↑x2.length : Int) then
     if x3.toNat < x2.length then
     L17_0 n m (x1) (x2.set x3.toNat (x1.getD x3.toNat (0 : Int))) (Go.IntKind.i64.wrap (x3 + (1 : Int)))
     else none
     else none
     else none
     else none
     else none)
    (some (Sum.inl (x2, ())))
def F17 (n : Nat) (a0 : List Int) : Option (rdens [.c false (.v false (.rs 3 (.int .i64)))] [.c false (.r 3 (.int .i64))]) :=
  if (↑a0.length : Int) = (↑a0.length : Int) then
  if (↑a0.length : Int).toNat * (8 : Nat) ≤ (140737488355328 : Nat) then
  match L17_0 n n (a0) (List.replicate (↑a0.length : Int).toNat (0 : Int)) ((0 : Int)) with
  | none => none
  | some (Sum.inl v4) =>
   some (v4.fst, ())
  else none
  else none
noncomputable def con17 (n : Nat) : Con := conOf [.c false (.v false (.rs 3 (.int .i64)))] [.c false (.r 3 (.int .i64))] fun x => F17 n x.1
noncomputable def tb17 (n : Nat) : Tb := ⟨tiOf Try.prog, conL [], n, [], 22, lpL [(0, ⟨[(0, (.c false (.v false (.rs 3 (.int .i64))))), (3, (.c false (.r 3 (.int .i64)))), (4, kI)], [((.exit 0), [(3, (.c false (.r 3 (.int .i64))))])], fun m v => L17_0 n m v.1 v.2.1 v.2.2.1⟩)], ctL [], [], true⟩
noncomputable def code17 : Code := Try.f17.body.getD .skip
theorem tb17_ok (n : Nat) : (tb17 n).ok Try.prog := tbOk mixed (trivial)
theorem lp17_0 (n : Nat) : LpAt (tb17 n) (loopBody code17 0) 0 := lpAt rfl (fun _ => by kernel_rfl) (fun _ _ => by kernel_rfl)
theorem blocks17 : blocks code17 = [(0, .loop (loopBody code17 0)), (1, blockBody code17 1)] := by kernel_rfl
theorem la17 (n : Nat) : LpAll (tb17 n) code17 := lpAll blocks17 (bl_loop (lp17_0 n) (bl_none rfl (bl_nil))) rfl (cs_no fun _ => rfl) (by kernel_rfl)
theorem ev17 (n : Nat) (x : pdens [.c false (.v false (.rs 3 (.int .i64)))]) : evSig (tb17 n) Try.f17 [.c false (.v false (.rs 3 (.int .i64)))] [.c false (.r 3 (.int .i64))] x = F17 n x.1 := by kernel_rfl
theorem con17_ok (n : Nat) : Con.ok Try.prog 17 (con17 n) := conOf_ok (tb17_ok n) (body_la (by kernel_rfl : Try.f17.body = some code17) (la17 n)) Try.func17 (enters Try.func17 (by kernel_rfl) (by kernel_rfl)) rfl rfl (ev17 n)
/-! ### loop.example/fathomline/laws.toIntSS -/
def L68_0 (n : Nat) : Nat → List (List Int) → List (List Int) → Int → Option (odens [((.exit 0), [(3, (.c false (.o (.rs 25 (.rs 3 (.int .i64))))))])])
  | 0, _, _, _ => none
  | m + 1, x1, x2, x3 =>
    cond (Decidable.decide (x3 < (↑x1.length : Int)))
    (if (0 : Int) ≤ x3 then
     if x3 < (↑x1.length : Int) then
     (F17 n (x1.getD x3.toNat [])).bind fun y4 =>
     if (0 : Int) ≤ x3 then
     if x3 < (↑x2.length : Int) then
     if x3.toNat < x2.length then
     if (List.take x3.toNat x2).length = x3.toNat then
     L68_0 n m (x1) (List.take x3.toNat x2 ++ y4.fst :: List.drop (x3.toNat + (1 : Nat)) x2) (Go.IntKind.i64.wrap (x3 + (1 : Int)))
     else none
     else none
     else none
     else none
     else none
     else none)
    (some (Sum.inl (x2, ())))
def F68 (n : Nat) (a0 : List (List Int)) : Option (rdens [.c false (.v false (.rs 25 (.rs 3 (.int .i64))))] [.c false (.o (.rs 25 (.rs 3 (.int .i64))))]) :=
  if (↑a0.length : Int) = (↑a0.length : Int) then
  if (↑a0.length : Int).toNat * (24 : Nat) ≤ (140737488355328 : Nat) then
  match L68_0 n n (a0) (List.replicate (↑a0.length : Int).toNat []) ((0 : Int)) with
  | none => none
  | some (Sum.inl v5) =>
   some (v5.fst, ())
  else none
  else none
noncomputable def con68 (n : Nat) : Con := conOf [.c false (.v false (.rs 25 (.rs 3 (.int .i64))))] [.c false (.o (.rs 25 (.rs 3 (.int .i64))))] fun x => F68 n x.1
noncomputable def tb68 (n : Nat) : Tb := ⟨tiOf Try.prog, conL [(17, con17 n)], n, [], 23, lpL [(0, ⟨[(0, (.c false (.v false (.rs 25 (.rs 3 (.int .i64)))))), (3, (.c false (.o (.rs 25 (.rs 3 (.int .i64)))))), (4, kI)], [((.exit 0), [(3, (.c false (.o (.rs 25 (.rs 3 (.int .i64))))))])], fun m v => L68_0 n m v.1 v.2.1 v.2.2.1⟩)], ctL [], [], true⟩
noncomputable def code68 : Code := Try.f68.body.getD .skip
theorem tb68_ok (n : Nat) : (tb68 n).ok Try.prog := tbOk mixed (⟨con17_ok n, trivial⟩)
theorem lp68_0 (n : Nat) : LpAt (tb68 n) (loopBody code68 0) 0 := lpAt rfl (fun _ => by kernel_rfl) (fun _ _ => by kernel_rfl)
theorem blocks68 : blocks code68 = [(0, .loop (loopBody code68 0)), (1, blockBody code68 1)] := by kernel_rfl
theorem la68 (n : Nat) : LpAll (tb68 n) code68 := lpAll blocks68 (bl_loop (lp68_0 n) (bl_none rfl (bl_nil))) rfl (cs_no fun _ => rfl) (by kernel_rfl)
theorem ev68 (n : Nat) (x : pdens [.c false (.v false (.rs 25 (.rs 3 (.int .i64))))]) : evSig (tb68 n) Try.f68 [.c false (.v false (.rs 25 (.rs 3 (.int .i64))))] [.c false (.o (.rs 25 (.rs 3 (.int .i64))))] x = F68 n x.1 := by kernel_rfl
theorem con68_ok (n : Nat) : Con.ok Try.prog 68 (con68 n) := conOf_ok (tb68_ok n) (body_la (by kernel_rfl : Try.f68.body = some code68) (la68 n)) Try.func68 (enters Try.func68 (by kernel_rfl) (by kernel_rfl)) rfl rfl (ev68 n)
/-! ### loop.example/fathomline/laws.toExec -/
def F30 (n : Nat) (a0 : List Int × List (List Int)) : Option (rdens [.c true (.v false yX)] [.c true (.o yX)]) :=
  (F17 n (a0.fst)).bind fun y1 =>
  (F68 n (a0.snd)).bind fun y2 =>
  some ((y1.fst, y2.fst), ())
noncomputable def con30 (n : Nat) : Con := conOf [.c true (.v false yX)] [.c true (.o yX)] fun x => F30 n x.1
noncomputable def tb30 (n : Nat) : Tb := ⟨tiOf Try.prog, conL [(17, con17 n), (68, con68 n)], n, [], 13, lpL [], ctL [], [], true⟩
noncomputable def code30 : Code := Try.f30.body.getD .skip
theorem tb30_ok (n : Nat) : (tb30 n).ok Try.prog := tbOk mixed (⟨con17_ok n, ⟨con68_ok n, trivial⟩⟩)
theorem blocks30 : blocks code30 = [] := by kernel_rfl
theorem la30 (n : Nat) : LpAll (tb30 n) code30 := lpAll blocks30 (bl_nil) rfl (cs_no fun _ => rfl) (by kernel_rfl)
theorem ev30 (n : Nat) (x : pdens [.c true (.v false yX)]) : evSig (tb30 n) Try.f30 [.c true (.v false yX)] [.c true (.o yX)] x = F30 n x.1 := by kernel_rfl
theorem con30_ok (n : Nat) : Con.ok Try.prog 30 (con30 n) := conOf_ok (tb30_ok n) (body_la (by kernel_rfl : Try.f30.body = some code30) (la30 n)) Try.func30 (enters Try.func30 (by kernel_rfl) (by kernel_rfl)) rfl rfl (ev30 n)
/-! ### loop.example/fathomline/laws.eqIntS -/
def L21_0 (n : Nat) : Nat → List Int → List Int → Int → Option (odens [(.ret, [(4, kB)]), ((.exit 0), [])])
  | 0, _, _, _ => none
  | m + 1, x1, x2, x3 =>
    cond (Decidable.decide (x3 < (↑x1.length : Int)))
    (if (0 : Int) ≤ x3 then
     if x3 < (↑x1.length : Int) then
     if (0 : Int) ≤ x3 then
     if x3 < (↑x2.length : Int) then
     cond (x1.getD x3.toNat (0 : Int) != x2.getD x3.toNat (0 : Int))
     (some (Sum.inl (Bool.false, ())))
     (L21_0 n m (x1) (x2) (Go.IntKind.i64.wrap (x3 + (1 : Int))))
     else none
     else none
     else none
     else none)
    (some (Sum.inr (Sum.inl (()))))
def F21 (n : Nat) (a0 : List Int) (a1 : List Int) : Option (rdens [.c false (.v false (.rs 3 (.int .i64))), .c false (.v false (.rs 3 (.int .i64)))] [.c false (.v true .bool)]) :=
  cond ((↑a0.length : Int) != (↑a1.length : Int))
  (some (Bool.false, ()))
  (match L21_0 n n (a0) (a1) ((0 : Int)) with
   | none => none
   | some (Sum.inl v4) =>
    some (v4.fst, ())
   | some (Sum.inr (Sum.inl v5)) =>
    some (Bool.true, ()))
noncomputable def con21 (n : Nat) : Con := conOf [.c false (.v false (.rs 3 (.int .i64))), .c false (.v false (.rs 3 (.int .i64)))] [.c false (.v true .bool)] fun x => F21 n x.1 x.2.1
noncomputable def tb21 (n : Nat) : Tb := ⟨tiOf Try.prog, conL [], n, [], 26, lpL [(0, ⟨[(0, (.c false (.v false (.rs 3 (.int .i64))))), (1, (.c false (.v false (.rs 3 (.int .i64))))), (5, kI)], [(.ret, [(4, kB)]), ((.exit 0), [])], fun m v => L21_0 n m v.1 v.2.1 v.2.2.1⟩)], ctL [], [], true⟩
noncomputable def code21 : Code := Try.f21.body.getD .skip
theorem tb21_ok (n : Nat) : (tb21 n).ok Try.prog := tbOk mixed (trivial)
theorem lp21_0 (n : Nat) : LpAt (tb21 n) (loopBody code21 0) 0 := lpAt rfl (fun _ => by kernel_rfl) (fun _ _ => by kernel_rfl)
theorem blocks21 : blocks code21 = [(0, .loop (loopBody code21 0)), (1, blockBody code21 1)] := by kernel_rfl
theorem la21 (n : Nat) : LpAll (tb21 n) code21 := lpAll blocks21 (bl_loop (lp21_0 n) (bl_none rfl (bl_nil))) rfl (cs_no fun _ => rfl) (by kernel_rfl)
theorem ev21 (n : Nat) (x : pdens [.c false (.v false (.rs 3 (.int .i64))), .c false (.v false (.rs 3 (.int .i64)))]) : evSig (tb21 n) Try.f21 [.c false (.v false (.rs 3 (.int .i64))), .c false (.v false (.rs 3 (.int .i64)))] [.c false (.v true .bool)] x = F21 n x.1 x.2.1 := by kernel_rfl
theorem con21_ok (n : Nat) : Con.ok Try.prog 21 (con21 n) := conOf_ok (tb21_ok n) (body_la (by kernel_rfl : Try.f21.body = some code21) (la21 n)) Try.func21 (enters Try.func21 (by kernel_rfl) (by kernel_rfl)) rfl rfl (ev21 n)
/-! ### loop.example/fathomline/laws.eqIntSS -/
def L72_0 (n : Nat) : Nat → List (List Int) → List (List Int) → Int → Option (odens [(.ret, [(4, kB)]), ((.exit 0), [])])
  | 0, _, _, _ => none
  | m + 1, x1, x2, x3 =>
    cond (Decidable.decide (x3 < (↑x1.length : Int)))
    (if (0 : Int) ≤ x3 then
     if x3 < (↑x1.length : Int) then
     if (0 : Int) ≤ x3 then
     if x3 < (↑x2.length : Int) then
     (F21 n (x1.getD x3.toNat []) (x2.getD x3.toNat [])).bind fun y4 =>
     cond (!y4.fst)
     (some (Sum.inl (Bool.false, ())))
     (L72_0 n m (x1) (x2) (Go.IntKind.i64.wrap (x3 + (1 : Int))))
     else none
     else none
     else none
     else none)
    (some (Sum.inr (Sum.inl (()))))
def F72 (n : Nat) (a0 : List (List Int)) (a1 : List (List Int)) : Option (rdens [.c false (.v false (.rs 25 (.rs 3 (.int .i64)))), .c false (.v false (.rs 25 (.rs 3 (.int .i64))))] [.c false (.v true .bool)]) :=
  cond ((↑a0.length : Int) != (↑a1.length : Int))
  (some (Bool.false, ()))
  (match L72_0 n n (a0) (a1) ((0 : Int)) with
   | none => none
   | some (Sum.inl v5) =>
    some (v5.fst, ())
   | some (Sum.inr (Sum.inl v6)) =>
    some (Bool.true, ()))
noncomputable def con72 (n : Nat) : Con := conOf [.c false (.v false (.rs 25 (.rs 3 (.int .i64)))), .c false (.v false (.rs 25 (.rs 3 (.int .i64))))] [.c false (.v true .bool)] fun x => F72 n x.1 x.2.1
noncomputable def tb72 (n : Nat) : Tb := ⟨tiOf Try.prog, conL [(21, con21 n)], n, [], 27, lpL [(0, ⟨[(0, (.c false (.v false (.rs 25 (.rs 3 (.int .i64)))))), (1, (.c false (.v false (.rs 25 (.rs 3 (.int .i64)))))), (5, kI)], [(.ret, [(4, kB)]), ((.exit 0), [])], fun m v => L72_0 n m v.1 v.2.1 v.2.2.1⟩)], ctL [], [], true⟩
noncomputable def code72 : Code := Try.f72.body.getD .skip
theorem tb72_ok (n : Nat) : (tb72 n).ok Try.prog := tbOk mixed (⟨con21_ok n, trivial⟩)
theorem lp72_0 (n : Nat) : LpAt (tb72 n) (loopBody code72 0) 0 := lpAt rfl (fun _ => by kernel_rfl) (fun _ _ => by kernel_rfl)
theorem blocks72 : blocks code72 = [(0, .loop (loopBody code72 0)), (1, blockBody code72 1)] := by kernel_rfl
theorem la72 (n : Nat) : LpAll (tb72 n) code72 := lpAll blocks72 (bl_loop (lp72_0 n) (bl_none rfl (bl_nil))) rfl (cs_no fun _ => rfl) (by kernel_rfl)
theorem ev72 (n : Nat) (x : pdens [.c false (.v false (.rs 25 (.rs 3 (.int .i64)))), .c false (.v false (.rs 25 (.rs 3 (.int .i64))))]) : evSig (tb72 n) Try.f72 [.c false (.v false (.rs 25 (.rs 3 (.int .i64)))), .c false (.v false (.rs 25 (.rs 3 (.int .i64))))] [.c false (.v true .bool)] x = F72 n x.1 x.2.1 := by kernel_rfl
theorem con72_ok (n : Nat) : Con.ok Try.prog 72 (con72 n) := conOf_ok (tb72_ok n) (body_la (by kernel_rfl : Try.f72.body = some code72) (la72 n)) Try.func72 (enters Try.func72 (by kernel_rfl) (by kernel_rfl)) rfl rfl (ev72 n)
/-! ### loop.example/fathomline/laws.eqExec -/
def F32 (n : Nat) (a0 : List Int × List (List Int)) (a1 : List Int × List (List Int)) : Option (rdens [.c true (.v false yX), .c true (.v false yX)] [.c false (.v true .bool)]) :=
  (F21 n (a0.fst) (a1.fst)).bind fun y1 =>
  cond (!y1.fst)
  (some (Bool.false, ()))
  ((F72 n (a0.snd) (a1.snd)).bind fun y2 =>
   cond (!y2.fst)
   (some (Bool.false, ()))
   (some (Bool.true, ())))
noncomputable def con32 (n : Nat) : Con := conOf [.c true (.v false yX), .c true (.v false yX)] [.c false (.v true .bool)] fun x => F32 n x.1 x.2.1
noncomputable def tb32 (n : Nat) : Tb := ⟨tiOf Try.prog, conL [(21, con21 n), (72, con72 n)], n, [], 17, lpL [], ctL [], [], true⟩
noncomputable def code32 : Code := Try.f32.body.getD .skip
theorem tb32_ok (n : Nat) : (tb32 n).ok Try.prog := tbOk mixed (⟨con21_ok n, ⟨con72_ok n, trivial⟩⟩)
theorem blocks32 : blocks code32 = [] := by kernel_rfl
theorem la32 (n : Nat) : LpAll (tb32 n) code32 := lpAll blocks32 (bl_nil) rfl (cs_no fun _ => rfl) (by kernel_rfl)
theorem ev32 (n : Nat) (x : pdens [.c true (.v false yX), .c true (.v false yX)]) : evSig (tb32 n) Try.f32 [.c true (.v false yX), .c true (.v false yX)] [.c false (.v true .bool)] x = F32 n x.1 x.2.1 := by kernel_rfl
theorem con32_ok (n : Nat) : Con.ok Try.prog 32 (con32 n) := conOf_ok (tb32_ok n) (body_la (by kernel_rfl : Try.f32.body = some code32) (la32 n)) Try.func32 (enters Try.func32 (by kernel_rfl) (by kernel_rfl)) rfl rfl (ev32 n)
end Go.Proofs.Ytdacfaincamliaa.Ev
