/- Plain functions that the loaded code comes to, and that it does. Conditions: none. -/
import Derived.Test.YtaehbfaldofmbaaGT
import Derived.Test.YtaehbfaldofmbaaGS
namespace Go.Proofs.Ytaehbfaldofmbaa.Ev
open Go Go.Proofs
/-! ### loop.example/fathomline/laws.szSeenS -/
def L29_0 (n : Nat) : Nat → List (List Int × List Int) → Int → Int → Option (odens [(.ret, [(4, (.c false (.v true (.int .i64))))]), ((.exit 0), [(1, (.c false (.v true (.int .i64))))])])
  | 0, _, _, _ => none
  | m + 1, x1, x2, x3 =>
    cond (Decidable.decide (x3 < (↑x1.length : Int)))
    (if (0 : Int) ≤ x3 then
     if x3 < (↑x1.length : Int) then
     (F24 n (((x1.getD x3.toNat ([], [])).fst, (x1.getD x3.toNat ([], [])).snd)) (x2)).bind fun y4 =>
     cond (Decidable.decide (y4.fst < (0 : Int)))
     (some (Sum.inl ((-1 : Int), ())))
     (L29_0 n m (x1) (y4.fst) (Go.IntKind.i64.wrap (x3 + (1 : Int))))
     else none
     else none)
    (some (Sum.inr (Sum.inl (x2, ()))))
def F29 (n : Nat) (a0 : List (List Int × List Int)) (a1 : Int) : Option (rdens [.c false (.v false (.rs 24 (.pair (.rs 3 (.int .i64)) (.rs 3 (.int .i64))))), .c false (.v true (.int .i64))] [.c false (.v true (.int .i64))]) :=
  cond (Decidable.decide (Go.IntKind.i64.wrap (a1 - (↑a0.length : Int)) < (0 : Int)))
  (some ((-1 : Int), ()))
  (match L29_0 n n (a0) (Go.IntKind.i64.wrap (a1 - (↑a0.length : Int))) ((0 : Int)) with
   | none => none
   | some (Sum.inl v5) =>
    some (v5.fst, ())
   | some (Sum.inr (Sum.inl v6)) =>
    some (v6.fst, ()))
noncomputable def con29 (n : Nat) : Con := conOf [.c false (.v false (.rs 24 (.pair (.rs 3 (.int .i64)) (.rs 3 (.int .i64))))), .c false (.v true (.int .i64))] [.c false (.v true (.int .i64))] fun x => F29 n x.1 x.2.1
noncomputable def tb29 (n : Nat) : Tb := ⟨tiOf Try.prog, conL [(24, con24 n)], n, [], 27, lpL [(0, ⟨[(0, (.c false (.v false (.rs 24 (.pair (.rs 3 (.int .i64)) (.rs 3 (.int .i64))))))), (1, (.c false (.v true (.int .i64)))), (5, (.c false (.v true (.int .i64))))], [(.ret, [(4, (.c false (.v true (.int .i64))))]), ((.exit 0), [(1, (.c false (.v true (.int .i64))))])], fun m v => L29_0 n m v.1 v.2.1 v.2.2.1⟩)], ctL [], [], true⟩
noncomputable def code29 : Code := Try.f29.body.getD .skip
theorem tb29_ok (n : Nat) : (tb29 n).ok Try.prog := tbOk mixed (⟨con24_ok n, trivial⟩)
theorem lp29_0 (n : Nat) : LpAt (tb29 n) (loopBody code29 0) 0 := lpAt rfl (fun _ => by kernel_rfl) (fun _ _ => by kernel_rfl)
theorem blocks29 : blocks code29 = [(0, .loop (loopBody code29 0)), (1, blockBody code29 1)] := by kernel_rfl
theorem la29 (n : Nat) : LpAll (tb29 n) code29 := lpAll blocks29 (bl_loop (lp29_0 n) (bl_none rfl (bl_nil))) rfl (cs_no fun _ => rfl) (by kernel_rfl)
theorem ev29 (n : Nat) (x : pdens [.c false (.v false (.rs 24 (.pair (.rs 3 (.int .i64)) (.rs 3 (.int .i64))))), .c false (.v true (.int .i64))]) : evSig (tb29 n) Try.f29 [.c false (.v false (.rs 24 (.pair (.rs 3 (.int .i64)) (.rs 3 (.int .i64))))), .c false (.v true (.int .i64))] [.c false (.v true (.int .i64))] x = F29 n x.1 x.2.1 := by kernel_rfl
theorem con29_ok (n : Nat) : Con.ok Try.prog 29 (con29 n) := conOf_ok (tb29_ok n) (body_la (by kernel_rfl : Try.f29.body = some code29) (la29 n)) Try.func29 (enters Try.func29 (by kernel_rfl) (by kernel_rfl)) rfl rfl (ev29 n)
/-! ### loop.example/fathomline/laws.toSeenS -/
def L31_0 (n : Nat) : Nat → List (List Int × List Int) → List (List Int × List Int) → Int → Option (odens [((.exit 0), [(3, (.c false (.o (.rs 27 (.pair (.rs 3 (.int .i64)) (.rs 3 (.int .i64)))))))])])
  | 0, _, _, _ => none
  | m + 1, x1, x2, x3 =>
    cond (Decidable.decide (x3 < (↑x1.length : Int)))
    (if (0 : Int) ≤ x3 then
     if x3 < (↑x1.length : Int) then
     (F26 n (((x1.getD x3.toNat ([], [])).fst, (x1.getD x3.toNat ([], [])).snd))).bind fun y4 =>
     if (0 : Int) ≤ x3 then
     if x3 < (↑x2.length : Int) then
     if x3.toNat < x2.length then
     if (List.take x3.toNat x2).length = x3.toNat then
     L31_0 n m (x1) (List.take x3.toNat x2 ++ (y4.fst.fst, y4.fst.snd) :: List.drop (x3.toNat + (1 : Nat)) x2) (Go.IntKind.i64.wrap (x3 + (1 : Int)))
     else none
     else none
     else none
     else none
     else none
     else none)
    (some (Sum.inl (x2, ())))
def F31 (n : Nat) (a0 : List (List Int × List Int)) : Option (rdens [.c false (.v false (.rs 24 (.pair (.rs 3 (.int .i64)) (.rs 3 (.int .i64)))))] [.c false (.o (.rs 27 (.pair (.rs 3 (.int .i64)) (.rs 3 (.int .i64)))))]) :=
  if (↑a0.length : Int) = (↑a0.length : Int) then
  if (↑a0.length : Int).toNat * (48 : Nat) ≤ (140737488355328 : Nat) then
  match L31_0 n n (a0) (List.replicate (↑a0.length : Int).toNat ([], [])) ((0 : Int)) with
  | none => none
  | some (Sum.inl v5) =>
   some (v5.fst, ())
  else none
  else none
noncomputable def con31 (n : Nat) : Con := conOf [.c false (.v false (.rs 24 (.pair (.rs 3 (.int .i64)) (.rs 3 (.int .i64)))))] [.c false (.o (.rs 27 (.pair (.rs 3 (.int .i64)) (.rs 3 (.int .i64)))))] fun x => F31 n x.1
noncomputable def tb31 (n : Nat) : Tb := ⟨tiOf Try.prog, conL [(26, con26 n)], n, [], 23, lpL [(0, ⟨[(0, (.c false (.v false (.rs 24 (.pair (.rs 3 (.int .i64)) (.rs 3 (.int .i64))))))), (3, (.c false (.o (.rs 27 (.pair (.rs 3 (.int .i64)) (.rs 3 (.int .i64))))))), (4, (.c false (.v true (.int .i64))))], [((.exit 0), [(3, (.c false (.o (.rs 27 (.pair (.rs 3 (.int .i64)) (.rs 3 (.int .i64)))))))])], fun m v => L31_0 n m v.1 v.2.1 v.2.2.1⟩)], ctL [], [], true⟩
noncomputable def code31 : Code := Try.f31.body.getD .skip
theorem tb31_ok (n : Nat) : (tb31 n).ok Try.prog := tbOk mixed (⟨con26_ok n, trivial⟩)
theorem lp31_0 (n : Nat) : LpAt (tb31 n) (loopBody code31 0) 0 := lpAt rfl (fun _ => by kernel_rfl) (fun _ _ => by kernel_rfl)
theorem blocks31 : blocks code31 = [(0, .loop (loopBody code31 0)), (1, blockBody code31 1)] := by kernel_rfl
theorem la31 (n : Nat) : LpAll (tb31 n) code31 := lpAll blocks31 (bl_loop (lp31_0 n) (bl_none rfl (bl_nil))) rfl (cs_no fun _ => rfl) (by kernel_rfl)
theorem ev31 (n : Nat) (x : pdens [.c false (.v false (.rs 24 (.pair (.rs 3 (.int .i64)) (.rs 3 (.int .i64)))))]) : evSig (tb31 n) Try.f31 [.c false (.v false (.rs 24 (.pair (.rs 3 (.int .i64)) (.rs 3 (.int .i64)))))] [.c false (.o (.rs 27 (.pair (.rs 3 (.int .i64)) (.rs 3 (.int .i64)))))] x = F31 n x.1 := by kernel_rfl
theorem con31_ok (n : Nat) : Con.ok Try.prog 31 (con31 n) := conOf_ok (tb31_ok n) (body_la (by kernel_rfl : Try.f31.body = some code31) (la31 n)) Try.func31 (enters Try.func31 (by kernel_rfl) (by kernel_rfl)) rfl rfl (ev31 n)
/-! ### loop.example/fathomline/spec.SeenIn -/
def L30_0 (n : Nat) : Nat → List (List Int × List Int) → (List Int × List Int) × Unit → Int → Option (odens [(.ret, [(4, (.c false (.v true .bool)))]), ((.exit 0), [])])
  | 0, _, _, _ => none
  | m + 1, x1, x2, x3 =>
    cond (Decidable.decide (x3 < (↑x1.length : Int)))
    (if (0 : Int) ≤ x3 then
     if x3 < (↑x1.length : Int) then
     (F76 n (((x1.getD x3.toNat ([], [])).fst, (x1.getD x3.toNat ([], [])).snd)) ((x2.fst.fst, x2.fst.snd))).bind fun y4 =>
     cond (y4.fst == (0 : Int))
     (some (Sum.inl (Bool.true, ())))
     (L30_0 n m (x1) (((x2.fst.fst, x2.fst.snd), ())) (Go.IntKind.i64.wrap (x3 + (1 : Int))))
     else none
     else none)
    (some (Sum.inr (Sum.inl (()))))
def F30 (n : Nat) (a0 : List (List Int × List Int)) (a1 : List Int × List Int) : Option (rdens [.c false (.v false (.rs 27 (.pair (.rs 3 (.int .i64)) (.rs 3 (.int .i64))))), .c true (.v false (.pair (.rs 3 (.int .i64)) (.rs 3 (.int .i64))))] [.c false (.v true .bool)]) :=
  match L30_0 n n (a0) (((a1.fst, a1.snd), ())) ((0 : Int)) with
  | none => none
  | some (Sum.inl v5) =>
   some (v5.fst, ())
  | some (Sum.inr (Sum.inl v6)) =>
   some (Bool.false, ())
noncomputable def con30 (n : Nat) : Con := conOf [.c false (.v false (.rs 27 (.pair (.rs 3 (.int .i64)) (.rs 3 (.int .i64))))), .c true (.v false (.pair (.rs 3 (.int .i64)) (.rs 3 (.int .i64))))] [.c false (.v true .bool)] fun x => F30 n x.1 x.2.1
noncomputable def tb30 (n : Nat) : Tb := ⟨tiOf Try.prog, conL [(76, con76 n)], n, [], 19, lpL [(0, ⟨[(0, (.c false (.v false (.rs 27 (.pair (.rs 3 (.int .i64)) (.rs 3 (.int .i64))))))), (3, (.b 27 [(.v false (.pair (.rs 3 (.int .i64)) (.rs 3 (.int .i64))))])), (5, (.c false (.v true (.int .i64))))], [(.ret, [(4, (.c false (.v true .bool)))]), ((.exit 0), [])], fun m v => L30_0 n m v.1 v.2.1 v.2.2.1⟩)], ctL [], [], true⟩
noncomputable def code30 : Code := Try.f30.body.getD .skip
theorem tb30_ok (n : Nat) : (tb30 n).ok Try.prog := tbOk mixed (⟨con76_ok n, trivial⟩)
theorem lp30_0 (n : Nat) : LpAt (tb30 n) (loopBody code30 0) 0 := lpAt rfl (fun _ => by kernel_rfl) (fun _ _ => by kernel_rfl)
theorem blocks30 : blocks code30 = [(0, .loop (loopBody code30 0)), (1, blockBody code30 1)] := by kernel_rfl
theorem la30 (n : Nat) : LpAll (tb30 n) code30 := lpAll blocks30 (bl_loop (lp30_0 n) (bl_none rfl (bl_nil))) rfl (cs_no fun _ => rfl) (by kernel_rfl)
theorem ev30 (n : Nat) (x : pdens [.c false (.v false (.rs 27 (.pair (.rs 3 (.int .i64)) (.rs 3 (.int .i64))))), .c true (.v false (.pair (.rs 3 (.int .i64)) (.rs 3 (.int .i64))))]) : evSig (tb30 n) Try.f30 [.c false (.v false (.rs 27 (.pair (.rs 3 (.int .i64)) (.rs 3 (.int .i64))))), .c true (.v false (.pair (.rs 3 (.int .i64)) (.rs 3 (.int .i64))))] [.c false (.v true .bool)] x = F30 n x.1 x.2.1 := by kernel_rfl
theorem con30_ok (n : Nat) : Con.ok Try.prog 30 (con30 n) := conOf_ok (tb30_ok n) (body_la (by kernel_rfl : Try.f30.body = some code30) (la30 n)) Try.func30 (enters Try.func30 (by kernel_rfl) (by kernel_rfl)) rfl rfl (ev30 n)
/-! ### loop.example/fathomline/laws.eqSeenS -/
def L33_0 (n : Nat) : Nat → List (List Int × List Int) → List (List Int × List Int) → Int → Option (odens [(.ret, [(4, (.c false (.v true .bool)))]), ((.exit 0), [])])
  | 0, _, _, _ => none
  | m + 1, x1, x2, x3 =>
    cond (Decidable.decide (x3 < (↑x1.length : Int)))
    (if (0 : Int) ≤ x3 then
     if x3 < (↑x1.length : Int) then
     if (0 : Int) ≤ x3 then
     if x3 < (↑x2.length : Int) then
     (F28 n (((x1.getD x3.toNat ([], [])).fst, (x1.getD x3.toNat ([], [])).snd)) (((x2.getD x3.toNat ([], [])).fst, (x2.getD x3.toNat ([], [])).snd))).bind fun y4 =>
     cond (!y4.fst)
     (some (Sum.inl (Bool.false, ())))
     (L33_0 n m (x1) (x2) (Go.IntKind.i64.wrap (x3 + (1 : Int))))
     else none
     else none
     else none
     else none)
    (some (Sum.inr (Sum.inl (()))))
def F33 (n : Nat) (a0 : List (List Int × List Int)) (a1 : List (List Int × List Int)) : Option (rdens [.c false (.v false (.rs 27 (.pair (.rs 3 (.int .i64)) (.rs 3 (.int .i64))))), .c false (.v false (.rs 27 (.pair (.rs 3 (.int .i64)) (.rs 3 (.int .i64)))))] [.c false (.v true .bool)]) :=
  cond ((↑a0.length : Int) != (↑a1.length : Int))
  (some (Bool.false, ()))
  (match L33_0 n n (a0) (a1) ((0 : Int)) with
   | none => none
   | some (Sum.inl v5) =>
    some (v5.fst, ())
   | some (Sum.inr (Sum.inl v6)) =>
    some (Bool.true, ()))
noncomputable def con33 (n : Nat) : Con := conOf [.c false (.v false (.rs 27 (.pair (.rs 3 (.int .i64)) (.rs 3 (.int .i64))))), .c false (.v false (.rs 27 (.pair (.rs 3 (.int .i64)) (.rs 3 (.int .i64)))))] [.c false (.v true .bool)] fun x => F33 n x.1 x.2.1
noncomputable def tb33 (n : Nat) : Tb := ⟨tiOf Try.prog, conL [(28, con28 n)], n, [], 27, lpL [(0, ⟨[(0, (.c false (.v false (.rs 27 (.pair (.rs 3 (.int .i64)) (.rs 3 (.int .i64))))))), (1, (.c false (.v false (.rs 27 (.pair (.rs 3 (.int .i64)) (.rs 3 (.int .i64))))))), (5, (.c false (.v true (.int .i64))))], [(.ret, [(4, (.c false (.v true .bool)))]), ((.exit 0), [])], fun m v => L33_0 n m v.1 v.2.1 v.2.2.1⟩)], ctL [], [], true⟩
noncomputable def code33 : Code := Try.f33.body.getD .skip
theorem tb33_ok (n : Nat) : (tb33 n).ok Try.prog := tbOk mixed (⟨con28_ok n, trivial⟩)
theorem lp33_0 (n : Nat) : LpAt (tb33 n) (loopBody code33 0) 0 := lpAt rfl (fun _ => by kernel_rfl) (fun _ _ => by kernel_rfl)
theorem blocks33 : blocks code33 = [(0, .loop (loopBody code33 0)), (1, blockBody code33 1)] := by kernel_rfl
theorem la33 (n : Nat) : LpAll (tb33 n) code33 := lpAll blocks33 (bl_loop (lp33_0 n) (bl_none rfl (bl_nil))) rfl (cs_no fun _ => rfl) (by kernel_rfl)
theorem ev33 (n : Nat) (x : pdens [.c false (.v false (.rs 27 (.pair (.rs 3 (.int .i64)) (.rs 3 (.int .i64))))), .c false (.v false (.rs 27 (.pair (.rs 3 (.int .i64)) (.rs 3 (.int .i64)))))]) : evSig (tb33 n) Try.f33 [.c false (.v false (.rs 27 (.pair (.rs 3 (.int .i64)) (.rs 3 (.int .i64))))), .c false (.v false (.rs 27 (.pair (.rs 3 (.int .i64)) (.rs 3 (.int .i64)))))] [.c false (.v true .bool)] x = F33 n x.1 x.2.1 := by kernel_rfl
theorem con33_ok (n : Nat) : Con.ok Try.prog 33 (con33 n) := conOf_ok (tb33_ok n) (body_la (by kernel_rfl : Try.f33.body = some code33) (la33 n)) Try.func33 (enters Try.func33 (by kernel_rfl) (by kernel_rfl)) rfl rfl (ev33 n)
/-! ### (loop.example/fathomline/impl.Seen).same -/
def F79 (n : Nat) (a0 : List Int × List Int) (a1 : List Int × List Int) : Option (rdens [.c true (.v false (.pair (.rs 3 (.int .i64)) (.rs 3 (.int .i64)))), .c true (.v false (.pair (.rs 3 (.int .i64)) (.rs 3 (.int .i64))))] [.c false (.v true .bool)]) :=
  (F77 n ((a0.fst, a0.snd)) ((a1.fst, a1.snd))).bind fun y1 =>
  some (y1.fst == (0 : Int), ())
noncomputable def con79 (n : Nat) : Con := conOf [.c true (.v false (.pair (.rs 3 (.int .i64)) (.rs 3 (.int .i64)))), .c true (.v false (.pair (.rs 3 (.int .i64)) (.rs 3 (.int .i64))))] [.c false (.v true .bool)] fun x => F79 n x.1 x.2.1
noncomputable def tb79 (n : Nat) : Tb := ⟨tiOf Try.prog, conL [(77, con77 n)], n, [], 9, lpL [], ctL [], [], true⟩
noncomputable def code79 : Code := Try.f79.body.getD .skip
theorem tb79_ok (n : Nat) : (tb79 n).ok Try.prog := tbOk mixed (⟨con77_ok n, trivial⟩)
theorem blocks79 : blocks code79 = [] := by kernel_rfl
theorem la79 (n : Nat) : LpAll (tb79 n) code79 := lpAll blocks79 (bl_nil) rfl (cs_no fun _ => rfl) (by kernel_rfl)
theorem ev79 (n : Nat) (x : pdens [.c true (.v false (.pair (.rs 3 (.int .i64)) (.rs 3 (.int .i64)))), .c true (.v false (.pair (.rs 3 (.int .i64)) (.rs 3 (.int .i64))))]) : evSig (tb79 n) Try.f79 [.c true (.v false (.pair (.rs 3 (.int .i64)) (.rs 3 (.int .i64)))), .c true (.v false (.pair (.rs 3 (.int .i64)) (.rs 3 (.int .i64))))] [.c false (.v true .bool)] x = F79 n x.1 x.2.1 := by kernel_rfl
theorem con79_ok (n : Nat) : Con.ok Try.prog 79 (con79 n) := conOf_ok (tb79_ok n) (body_la (by kernel_rfl : Try.f79.body = some code79) (la79 n)) Try.func79 (enters Try.func79 (by kernel_rfl) (by kernel_rfl)) rfl rfl (ev79 n)
/-! ### slices.IndexFunc[[]loop.example/fathomline/impl.Seen,loop.example/fathomline/impl.Seen] -/
def L115_0 (n : Nat) : Nat → List (List Int × List Int) → List Int × List Int → Int → Int → Option (odens [(.ret, [(4, (.c false (.v true (.int .i64))))]), ((.exit 0), [])])
  | 0, _, _, _, _ => none
  | m + 1, x1, x2, x3, x4 =>
    cond (Decidable.decide (x4 < x3))
    (if (0 : Int) ≤ x4 then
     if x4 < (↑x1.length : Int) then
     (F79 n ((x2.fst, x2.snd)) (((x1.getD x4.toNat ([], [])).fst, (x1.getD x4.toNat ([], [])).snd))).bind fun y5 =>
     cond (y5.fst)
     (some (Sum.inl (x4, ())))
     (L115_0 n m (x1) (x2) (x3) (Go.IntKind.i64.wrap (x4 + (1 : Int))))
     else none
     else none)
    (some (Sum.inr (Sum.inl (()))))
def F115 (n : Nat) (a0 : List (List Int × List Int)) (a1 : List Int × List Int) : Option (rdens [.c false (.v false (.rs 27 (.pair (.rs 3 (.int .i64)) (.rs 3 (.int .i64))))), .c false (.f false 79 true (.pair (.rs 3 (.int .i64)) (.rs 3 (.int .i64))))] [.c false (.v true (.int .i64))]) :=
  match L115_0 n n (a0) (a1) ((↑a0.length : Int)) ((0 : Int)) with
  | none => none
  | some (Sum.inl v6) =>
   some (v6.fst, ())
  | some (Sum.inr (Sum.inl v7)) =>
   some ((-1 : Int), ())
noncomputable def con115 (n : Nat) : Con := conOf [.c false (.v false (.rs 27 (.pair (.rs 3 (.int .i64)) (.rs 3 (.int .i64))))), .c false (.f false 79 true (.pair (.rs 3 (.int .i64)) (.rs 3 (.int .i64))))] [.c false (.v true (.int .i64))] fun x => F115 n x.1 x.2.1
noncomputable def tb115 (n : Nat) : Tb := ⟨tiOf Try.prog, conL [(79, con79 n)], n, [], 19, lpL [(0, ⟨[(0, (.c false (.v false (.rs 27 (.pair (.rs 3 (.int .i64)) (.rs 3 (.int .i64))))))), (1, (.c false (.f false 79 true (.pair (.rs 3 (.int .i64)) (.rs 3 (.int .i64)))))), (7, (.c false (.v true (.int .i64)))), (8, (.c false (.v true (.int .i64))))], [(.ret, [(4, (.c false (.v true (.int .i64))))]), ((.exit 0), [])], fun m v => L115_0 n m v.1 v.2.1 v.2.2.1 v.2.2.2.1⟩)], ctL [], [], true⟩
noncomputable def code115 : Code := Try.f115.body.getD .skip
theorem tb115_ok (n : Nat) : (tb115 n).ok Try.prog := tbOk mixed (⟨con79_ok n, trivial⟩)
theorem lp115_0 (n : Nat) : LpAt (tb115 n) (loopBody code115 0) 0 := lpAt rfl (fun _ => by kernel_rfl) (fun _ _ => by kernel_rfl)
theorem blocks115 : blocks code115 = [(0, .loop (loopBody code115 0)), (1, blockBody code115 1)] := by kernel_rfl
theorem la115 (n : Nat) : LpAll (tb115 n) code115 := lpAll blocks115 (bl_loop (lp115_0 n) (bl_none rfl (bl_nil))) rfl (cs_no fun _ => rfl) (by kernel_rfl)
theorem ev115 (n : Nat) (x : pdens [.c false (.v false (.rs 27 (.pair (.rs 3 (.int .i64)) (.rs 3 (.int .i64))))), .c false (.f false 79 true (.pair (.rs 3 (.int .i64)) (.rs 3 (.int .i64))))]) : evSig (tb115 n) Try.f115 [.c false (.v false (.rs 27 (.pair (.rs 3 (.int .i64)) (.rs 3 (.int .i64))))), .c false (.f false 79 true (.pair (.rs 3 (.int .i64)) (.rs 3 (.int .i64))))] [.c false (.v true (.int .i64))] x = F115 n x.1 x.2.1 := by kernel_rfl
theorem con115_ok (n : Nat) : Con.ok Try.prog 115 (con115 n) := conOf_ok (tb115_ok n) (body_la (by kernel_rfl : Try.f115.body = some code115) (la115 n)) Try.func115 (enters Try.func115 (by kernel_rfl) (by kernel_rfl)) rfl rfl (ev115 n)
/-! ### slices.ContainsFunc[[]loop.example/fathomline/impl.Seen,loop.example/fathomline/impl.Seen] -/
def F78 (n : Nat) (a0 : List (List Int × List Int)) (a1 : List Int × List Int) : Option (rdens [.c false (.v false (.rs 27 (.pair (.rs 3 (.int .i64)) (.rs 3 (.int .i64))))), .c false (.f false 79 true (.pair (.rs 3 (.int .i64)) (.rs 3 (.int .i64))))] [.c false (.v true .bool)]) :=
  (F115 n (a0) (a1)).bind fun y1 =>
  some (Decidable.decide (y1.fst ≥ (0 : Int)), ())
noncomputable def con78 (n : Nat) : Con := conOf [.c false (.v false (.rs 27 (.pair (.rs 3 (.int .i64)) (.rs 3 (.int .i64))))), .c false (.f false 79 true (.pair (.rs 3 (.int .i64)) (.rs 3 (.int .i64))))] [.c false (.v true .bool)] fun x => F78 n x.1 x.2.1
noncomputable def tb78 (n : Nat) : Tb := ⟨tiOf Try.prog, conL [(115, con115 n)], n, [], 9, lpL [], ctL [], [], true⟩
noncomputable def code78 : Code := Try.f78.body.getD .skip
theorem tb78_ok (n : Nat) : (tb78 n).ok Try.prog := tbOk mixed (⟨con115_ok n, trivial⟩)
theorem blocks78 : blocks code78 = [] := by kernel_rfl
theorem la78 (n : Nat) : LpAll (tb78 n) code78 := lpAll blocks78 (bl_nil) rfl (cs_no fun _ => rfl) (by kernel_rfl)
theorem ev78 (n : Nat) (x : pdens [.c false (.v false (.rs 27 (.pair (.rs 3 (.int .i64)) (.rs 3 (.int .i64))))), .c false (.f false 79 true (.pair (.rs 3 (.int .i64)) (.rs 3 (.int .i64))))]) : evSig (tb78 n) Try.f78 [.c false (.v false (.rs 27 (.pair (.rs 3 (.int .i64)) (.rs 3 (.int .i64))))), .c false (.f false 79 true (.pair (.rs 3 (.int .i64)) (.rs 3 (.int .i64))))] [.c false (.v true .bool)] x = F78 n x.1 x.2.1 := by kernel_rfl
theorem con78_ok (n : Nat) : Con.ok Try.prog 78 (con78 n) := conOf_ok (tb78_ok n) (body_la (by kernel_rfl : Try.f78.body = some code78) (la78 n)) Try.func78 (enters Try.func78 (by kernel_rfl) (by kernel_rfl)) rfl rfl (ev78 n)
/-! ### loop.example/fathomline/impl.SeenIn -/
def F32 (n : Nat) (a0 : List (List Int × List Int)) (a1 : List Int × List Int) : Option (rdens [.c false (.v false (.rs 27 (.pair (.rs 3 (.int .i64)) (.rs 3 (.int .i64))))), .c true (.v false (.pair (.rs 3 (.int .i64)) (.rs 3 (.int .i64))))] [.c false (.v true .bool)]) :=
  (F78 n (a0) ((a1.fst, a1.snd))).bind fun y1 =>
  some (y1.fst, ())
noncomputable def con32 (n : Nat) : Con := conOf [.c false (.v false (.rs 27 (.pair (.rs 3 (.int .i64)) (.rs 3 (.int .i64))))), .c true (.v false (.pair (.rs 3 (.int .i64)) (.rs 3 (.int .i64))))] [.c false (.v true .bool)] fun x => F32 n x.1 x.2.1
noncomputable def tb32 (n : Nat) : Tb := ⟨tiOf Try.prog, conL [(78, con78 n)], n, [], 9, lpL [], ctL [], [], true⟩
noncomputable def code32 : Code := Try.f32.body.getD .skip
theorem tb32_ok (n : Nat) : (tb32 n).ok Try.prog := tbOk mixed (⟨con78_ok n, trivial⟩)
theorem blocks32 : blocks code32 = [] := by kernel_rfl
theorem la32 (n : Nat) : LpAll (tb32 n) code32 := lpAll blocks32 (bl_nil) rfl (cs_no fun _ => rfl) (by kernel_rfl)
theorem ev32 (n : Nat) (x : pdens [.c false (.v false (.rs 27 (.pair (.rs 3 (.int .i64)) (.rs 3 (.int .i64))))), .c true (.v false (.pair (.rs 3 (.int .i64)) (.rs 3 (.int .i64))))]) : evSig (tb32 n) Try.f32 [.c false (.v false (.rs 27 (.pair (.rs 3 (.int .i64)) (.rs 3 (.int .i64))))), .c true (.v false (.pair (.rs 3 (.int .i64)) (.rs 3 (.int .i64))))] [.c false (.v true .bool)] x = F32 n x.1 x.2.1 := by kernel_rfl
theorem con32_ok (n : Nat) : Con.ok Try.prog 32 (con32 n) := conOf_ok (tb32_ok n) (body_la (by kernel_rfl : Try.f32.body = some code32) (la32 n)) Try.func32 (enters Try.func32 (by kernel_rfl) (by kernel_rfl)) rfl rfl (ev32 n)
/-! ### loop.example/fathomline/laws.FnExactSeenIn -/
def F4 (n : Nat) (a0 : List (List Int × List Int)) (a1 : List Int × List Int) : Option (rdens [.c false (.v true (.rs 24 (.pair (.rs 3 (.int .i64)) (.rs 3 (.int .i64))))), .c true (.v true (.pair (.rs 3 (.int .i64)) (.rs 3 (.int .i64))))] [.c false (.v true .bool)]) :=
  (F29 n (a0) ((1048576 : Int))).bind fun y1 =>
  cond (Decidable.decide (y1.fst < (0 : Int)))
  (some (Bool.true, ()))
  ((F24 n ((a1.fst, a1.snd)) (y1.fst)).bind fun y2 =>
   cond (Decidable.decide (y2.fst < (0 : Int)))
   (some (Bool.true, ()))
   ((F31 n (a0)).bind fun y3 =>
    (F26 n ((a1.fst, a1.snd))).bind fun y4 =>
    (F30 n (y3.fst) ((y4.fst.fst, y4.fst.snd))).bind fun y5 =>
    (F31 n (a0)).bind fun y6 =>
    (F26 n ((a1.fst, a1.snd))).bind fun y7 =>
    (F32 n (y6.fst) ((y7.fst.fst, y7.fst.snd))).bind fun y8 =>
    cond (!y8.fst == y5.fst)
    (some (Bool.false, ()))
    ((F31 n (a0)).bind fun y9 =>
     (F33 n (y6.fst) (y9.fst)).bind fun y10 =>
     cond (!y10.fst)
     (some (Bool.false, ()))
     ((F26 n ((a1.fst, a1.snd))).bind fun y11 =>
      (F28 n ((y7.fst.fst, y7.fst.snd)) ((y11.fst.fst, y11.fst.snd))).bind fun y12 =>
      cond (!y12.fst)
      (some (Bool.false, ()))
      (some (Bool.true, ()))))))
noncomputable def con4 (n : Nat) : Con := conOf [.c false (.v true (.rs 24 (.pair (.rs 3 (.int .i64)) (.rs 3 (.int .i64))))), .c true (.v true (.pair (.rs 3 (.int .i64)) (.rs 3 (.int .i64))))] [.c false (.v true .bool)] fun x => F4 n x.1 x.2.1
noncomputable def tb4 (n : Nat) : Tb := ⟨tiOf Try.prog, conL [(29, con29 n), (24, con24 n), (31, con31 n), (26, con26 n), (30, con30 n), (32, con32 n), (33, con33 n), (28, con28 n)], n, [], 45, lpL [], ctL [], [], true⟩
noncomputable def code4 : Code := Try.f4.body.getD .skip
theorem tb4_ok (n : Nat) : (tb4 n).ok Try.prog := tbOk mixed (⟨con29_ok n, ⟨con24_ok n, ⟨con31_ok n, ⟨con26_ok n, ⟨con30_ok n, ⟨con32_ok n, ⟨con33_ok n, ⟨con28_ok n, trivial⟩⟩⟩⟩⟩⟩⟩⟩)
theorem blocks4 : blocks code4 = [] := by kernel_rfl
theorem la4 (n : Nat) : LpAll (tb4 n) code4 := lpAll blocks4 (bl_nil) rfl (cs_no fun _ => rfl) (by kernel_rfl)
theorem ev4 (n : Nat) (x : pdens [.c false (.v true (.rs 24 (.pair (.rs 3 (.int .i64)) (.rs 3 (.int .i64))))), .c true (.v true (.pair (.rs 3 (.int .i64)) (.rs 3 (.int .i64))))]) : evSig (tb4 n) Try.f4 [.c false (.v true (.rs 24 (.pair (.rs 3 (.int .i64)) (.rs 3 (.int .i64))))), .c true (.v true (.pair (.rs 3 (.int .i64)) (.rs 3 (.int .i64))))] [.c false (.v true .bool)] x = F4 n x.1 x.2.1 := by kernel_rfl
theorem con4_ok (n : Nat) : Con.ok Try.prog 4 (con4 n) := conOf_ok (tb4_ok n) (body_la (by kernel_rfl : Try.f4.body = some code4) (la4 n)) Try.func4 (enters Try.func4 (by kernel_rfl) (by kernel_rfl)) rfl rfl (ev4 n)
end Go.Proofs.Ytaehbfaldofmbaa.Ev
