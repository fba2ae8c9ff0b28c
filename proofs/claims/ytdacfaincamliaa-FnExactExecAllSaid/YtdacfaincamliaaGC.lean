/- Plain functions that the loaded code comes to, and that it does. Conditions: none. -/
import Derived.Test.YtdacfaincamliaaGI
import Derived.Test.YtdacfaincamliaaKD
namespace Go.Proofs.Ytdacfaincamliaa.Ev
open Go Go.Proofs
/-! ### loop.example/fathomline/impl.perms -/
def L147_2 (R : List Int → Option (rdens [.c false (.v false (.rs 3 (.int .i64)))] [.c false (.o (.rs 25 (.rs 3 (.int .i64))))])) (n : Nat) : Nat → List Int → List (List Int) → Int → List Int → Int → Int → List (List Int) → Int → Int → Option (odens [((.exit 2), [(0, (.c false (.v false (.rs 3 (.int .i64))))), (3, (.c false (.o (.rs 25 (.rs 3 (.int .i64)))))), (13, (.c false (.v false (.rs 3 (.int .i64))))), (14, kI), (15, kI)])])
  | 0, _, _, _, _, _, _, _, _, _ => none
  | m + 1, x9, x10, x11, x12, x13, x14, x15, x16, x17 =>
    cond (Decidable.decide (x17 < x16))
    (if (0 : Int) ≤ x17 then
     if x17 < (↑x15.length : Int) then
     if x17.toNat < x15.length then
     if (List.take x17.toNat x15).length = x17.toNat then
     if ([x11].length + List.length (x15.getD x17.toNat [])) * (8 : Nat) ≤ (140737488355328 : Nat) then
     if (x10.length + [[x11] ++ x15.getD x17.toNat []].length) * (24 : Nat) ≤ (140737488355328 : Nat) then
     L147_2 R n m (x9) (x10 ++ [[x11] ++ x15.getD x17.toNat []]) (x11) (x12) (x13) (x14) (List.take x17.toNat x15 ++ x15.getD x17.toNat [] :: List.drop (x17.toNat + (1 : Nat)) x15) (x16) (Go.IntKind.i64.wrap (x17 + (1 : Int)))
     else none
     else none
     else none
     else none
     else none
     else none)
    (some (Sum.inl (x9, x10, x12, x13, x14, ())))
def L147_0 (R : List Int → Option (rdens [.c false (.v false (.rs 3 (.int .i64)))] [.c false (.o (.rs 25 (.rs 3 (.int .i64))))])) (n : Nat) : Nat → List Int → List (List Int) → List Int → Int → Int → Option (odens [((.exit 0), [(3, (.c false (.o (.rs 25 (.rs 3 (.int .i64))))))])])
  | 0, _, _, _, _, _ => none
  | m + 1, x1, x2, x3, x4, x5 =>
    cond (Decidable.decide (x5 < x4))
    (if (0 : Int) ≤ x5 then
     if x5 < (↑x3.length : Int) then
     (F118 n (x1)).bind fun y6 =>
     (F158 n (y6.fst) (x5) (Go.IntKind.i64.wrap (x5 + (1 : Int)))).bind fun y7 =>
     (R (y7.fst)).bind fun y8 =>
     match L147_2 R n n (x1) (x2) (x3.getD x5.toNat (0 : Int)) (x3) (x4) (x5) (y8.fst) ((↑(List.length y8.fst) : Int)) ((0 : Int)) with
     | none => none
     | some (Sum.inl v18) =>
      L147_0 R n m (v18.fst) (v18.snd.fst) (v18.snd.snd.fst) (v18.snd.snd.snd.fst) (Go.IntKind.i64.wrap (v18.snd.snd.snd.snd.fst + (1 : Int)))
     else none
     else none)
    (some (Sum.inl (x2, ())))
def G147 (R : List Int → Option (rdens [.c false (.v false (.rs 3 (.int .i64)))] [.c false (.o (.rs 25 (.rs 3 (.int .i64))))])) (n : Nat) (a0 : List Int) : Option (rdens [.c false (.v false (.rs 3 (.int .i64)))] [.c false (.o (.rs 25 (.rs 3 (.int .i64))))]) :=
  cond ((↑a0.length : Int) == (0 : Int))
  (some ([[]], ()))
  (match L147_0 R n n (a0) ([]) (a0) ((↑a0.length : Int)) ((0 : Int)) with
   | none => none
   | some (Sum.inl v19) =>
    some (v19.fst, ()))
def F147 : Nat → List Int → Option (rdens [.c false (.v false (.rs 3 (.int .i64)))] [.c false (.o (.rs 25 (.rs 3 (.int .i64))))])
  | 0, _ => none
  | n + 1, a0 => G147 (F147 n) n a0
noncomputable def con147 (n : Nat) : Con := conOf [.c false (.v false (.rs 3 (.int .i64)))] [.c false (.o (.rs 25 (.rs 3 (.int .i64))))] fun x => F147 n x.1
noncomputable def tb147 (n : Nat) : Tb := ⟨tiOf Try.prog, conL [(118, con118 n), (158, con158 n), (147, con147 n)], n, [], 43, lpL [(2, ⟨[(0, (.c false (.v false (.rs 3 (.int .i64))))), (3, (.c false (.o (.rs 25 (.rs 3 (.int .i64)))))), (5, kI), (13, (.c false (.v false (.rs 3 (.int .i64))))), (14, kI), (15, kI), (27, (.c false (.o (.rs 25 (.rs 3 (.int .i64)))))), (28, kI), (29, kI)], [((.exit 2), [(0, (.c false (.v false (.rs 3 (.int .i64))))), (3, (.c false (.o (.rs 25 (.rs 3 (.int .i64)))))), (13, (.c false (.v false (.rs 3 (.int .i64))))), (14, kI), (15, kI)])], fun m v => L147_2 (F147 n) n m v.1 v.2.1 v.2.2.1 v.2.2.2.1 v.2.2.2.2.1 v.2.2.2.2.2.1 v.2.2.2.2.2.2.1 v.2.2.2.2.2.2.2.1 v.2.2.2.2.2.2.2.2.1⟩), (0, ⟨[(0, (.c false (.v false (.rs 3 (.int .i64))))), (3, (.c false (.o (.rs 25 (.rs 3 (.int .i64)))))), (13, (.c false (.v false (.rs 3 (.int .i64))))), (14, kI), (15, kI)], [((.exit 0), [(3, (.c false (.o (.rs 25 (.rs 3 (.int .i64))))))])], fun m v => L147_0 (F147 n) n m v.1 v.2.1 v.2.2.1 v.2.2.2.1 v.2.2.2.2.1⟩)], ctL [], [], true⟩
noncomputable def code147 : Code := Try.f147.body.getD .skip
theorem tb147_ok (n : Nat) (h : Con.ok Try.prog 147 (con147 n)) : (tb147 n).ok Try.prog := tbOk mixed (⟨con118_ok n, ⟨con158_ok n, ⟨h, trivial⟩⟩⟩)
theorem lp147_2 (n : Nat) : LpAt (tb147 n) (loopBody code147 2) 2 := lpAt rfl (fun _ => by kernel_rfl) (fun _ _ => by kernel_rfl)
theorem lp147_0 (n : Nat) : LpAt (tb147 n) (loopBody code147 0) 0 := lpAt rfl (fun _ => by kernel_rfl) (fun _ _ => by kernel_rfl)
theorem blocks147 : blocks code147 = [(0, .loop (loopBody code147 0)), (1, blockBody code147 1), (2, .loop (loopBody code147 2)), (3, blockBody code147 3)] := by kernel_rfl
theorem la147 (n : Nat) : LpAll (tb147 n) code147 := lpAll blocks147 (bl_loop (lp147_0 n) (bl_none rfl (bl_loop (lp147_2 n) (bl_none rfl (bl_nil))))) rfl (cs_no fun _ => rfl) (by kernel_rfl)
theorem ev147 (n : Nat) (x : pdens [.c false (.v false (.rs 3 (.int .i64)))]) : evSig (tb147 n) Try.f147 [.c false (.v false (.rs 3 (.int .i64)))] [.c false (.o (.rs 25 (.rs 3 (.int .i64))))] x = F147 (n + 1) x.1 := by kernel_rfl
theorem con147_ok : ∀ n : Nat, Con.ok Try.prog 147 (con147 n)
  | 0 => con_none (enters Try.func147 (by kernel_rfl) (by kernel_rfl)) fun _ => rfl
  | n + 1 => conOf_ok (tb147_ok n (con147_ok n)) (body_la (by kernel_rfl : Try.f147.body = some code147) (la147 n)) Try.func147 (enters Try.func147 (by kernel_rfl) (by kernel_rfl)) rfl rfl (ev147 n)
/-! ### (loop.example/fathomline/impl.scene).orders -/
def L116_4 (n : Nat) : Nat → (List (List (Int × Int × Int)) × List (Int × Int × Bool) × List (Int × Int × Int)) × Unit → Int → List (List (List Int)) → List (List Int) → Int → List (List (List Int)) → Int → Int → List (List Int) → Int → Int → Option (odens [((.exit 4), [(1, (.b 95 [(.v false (.pair yP (.pair (.rs 67 yE) (.rs 59 yD))))])), (4, kI), (5, (.c false (.r 43 (.rs 25 (.rs 3 (.int .i64)))))), (11, kI), (14, (.c false (.r 43 (.rs 25 (.rs 3 (.int .i64)))))), (15, kI), (16, kI)])])
  | 0, _, _, _, _, _, _, _, _, _, _, _ => none
  | m + 1, x13, x14, x15, x16, x17, x18, x19, x20, x21, x22, x23 =>
    cond (Decidable.decide (x23 < x22))
    (if (0 : Int) ≤ x23 then
     if x23 < (↑x21.length : Int) then
     (F148 n (x16)).bind fun y24 =>
     if (List.length y24.fst + [x21.getD x23.toNat []].length) * (24 : Nat) ≤ (140737488355328 : Nat) then
     if (x15.length + [y24.fst ++ [x21.getD x23.toNat []]].length) * (24 : Nat) ≤ (140737488355328 : Nat) then
     L116_4 n m (((x13.fst.fst, x13.fst.snd.fst, x13.fst.snd.snd), ())) (x14) (x15 ++ [y24.fst ++ [x21.getD x23.toNat []]]) (x16) (x17) (x18) (x19) (x20) (x21) (x22) (Go.IntKind.i64.wrap (x23 + (1 : Int)))
     else none
     else none
     else none
     else none)
    (some (Sum.inl (((x13.fst.fst, x13.fst.snd.fst, x13.fst.snd.snd), ()), x14, x15, x17, x18, x19, x20, ())))
def L116_2 (n : Nat) : Nat → (List (List (Int × Int × Int)) × List (Int × Int × Bool) × List (Int × Int × Int)) × Unit → Int → List (List (List Int)) → Int → List (List (List Int)) → Int → Int → Option (odens [((.exit 2), [(1, (.b 95 [(.v false (.pair yP (.pair (.rs 67 yE) (.rs 59 yD))))])), (5, (.c false (.r 43 (.rs 25 (.rs 3 (.int .i64)))))), (11, kI)])])
  | 0, _, _, _, _, _, _, _ => none
  | m + 1, x4, x5, x6, x7, x8, x9, x10 =>
    cond (Decidable.decide (x10 < x9))
    (if (0 : Int) ≤ x10 then
     if x10 < (↑x8.length : Int) then
     if x10.toNat < x8.length then
     (F136 n ((x4.fst.fst, x4.fst.snd.fst, x4.fst.snd.snd)) (x5)).bind fun y11 =>
     (F147 n (y11.fst)).bind fun y12 =>
     match L116_4 n n (((x4.fst.fst, x4.fst.snd.fst, x4.fst.snd.snd), ())) (x5) (x6) (x8.getD x10.toNat []) (x7) (x8) (x9) (x10) (y12.fst) ((↑(List.length y12.fst) : Int)) ((0 : Int)) with
     | none => none
     | some (Sum.inl v25) =>
      L116_2 n m (((v25.fst.fst.fst, v25.fst.fst.snd.fst, v25.fst.fst.snd.snd), ())) (v25.snd.fst) (v25.snd.snd.fst) (v25.snd.snd.snd.fst) (v25.snd.snd.snd.snd.fst) (v25.snd.snd.snd.snd.snd.fst) (Go.IntKind.i64.wrap (v25.snd.snd.snd.snd.snd.snd.fst + (1 : Int)))
     else none
     else none
     else none)
    (some (Sum.inl (((x4.fst.fst, x4.fst.snd.fst, x4.fst.snd.snd), ()), x6, x7, ())))
def L116_0 (n : Nat) : Nat → (List (List (Int × Int × Int)) × List (Int × Int × Bool) × List (Int × Int × Int)) × Unit → List (List (List Int)) → Int → Option (odens [((.exit 0), [(3, (.c false (.r 43 (.rs 25 (.rs 3 (.int .i64))))))])])
  | 0, _, _, _ => none
  | m + 1, x1, x2, x3 =>
    cond (Decidable.decide (x3 < (3 : Int)))
    (match L116_2 n n (((x1.fst.fst, x1.fst.snd.fst, x1.fst.snd.snd), ())) (x3) ([]) (x3) (x2) ((↑x2.length : Int)) ((0 : Int)) with
     | none => none
     | some (Sum.inl v26) =>
      L116_0 n m (((v26.fst.fst.fst, v26.fst.fst.snd.fst, v26.fst.fst.snd.snd), ())) (v26.snd.fst) (Go.IntKind.i64.wrap (v26.snd.snd.fst + (1 : Int))))
    (some (Sum.inl (x2, ())))
def F116 (n : Nat) (a0 : List (List (Int × Int × Int)) × List (Int × Int × Bool) × List (Int × Int × Int)) : Option (rdens [.c true (.v false (.pair yP (.pair (.rs 67 yE) (.rs 59 yD))))] [.c false (.r 43 (.rs 25 (.rs 3 (.int .i64))))]) :=
  match L116_0 n n (((a0.fst, a0.snd.fst, a0.snd.snd), ())) ([[]]) ((0 : Int)) with
  | none => none
  | some (Sum.inl v27) =>
   some (v27.fst, ())
noncomputable def con116 (n : Nat) : Con := conOf [.c true (.v false (.pair yP (.pair (.rs 67 yE) (.rs 59 yD))))] [.c false (.r 43 (.rs 25 (.rs 3 (.int .i64))))] fun x => F116 n x.1
noncomputable def tb116 (n : Nat) : Tb := ⟨tiOf Try.prog, conL [(136, con136 n), (147, con147 n), (148, con148 n)], n, [], 42, lpL [(4, ⟨[(1, (.b 95 [(.v false (.pair yP (.pair (.rs 67 yE) (.rs 59 yD))))])), (4, kI), (5, (.c false (.r 43 (.rs 25 (.rs 3 (.int .i64)))))), (7, (.c false (.v true (.rs 25 (.rs 3 (.int .i64)))))), (11, kI), (14, (.c false (.r 43 (.rs 25 (.rs 3 (.int .i64)))))), (15, kI), (16, kI), (23, (.c false (.v true (.rs 25 (.rs 3 (.int .i64)))))), (24, kI), (25, kI)], [((.exit 4), [(1, (.b 95 [(.v false (.pair yP (.pair (.rs 67 yE) (.rs 59 yD))))])), (4, kI), (5, (.c false (.r 43 (.rs 25 (.rs 3 (.int .i64)))))), (11, kI), (14, (.c false (.r 43 (.rs 25 (.rs 3 (.int .i64)))))), (15, kI), (16, kI)])], fun m v => L116_4 n m v.1 v.2.1 v.2.2.1 v.2.2.2.1 v.2.2.2.2.1 v.2.2.2.2.2.1 v.2.2.2.2.2.2.1 v.2.2.2.2.2.2.2.1 v.2.2.2.2.2.2.2.2.1 v.2.2.2.2.2.2.2.2.2.1 v.2.2.2.2.2.2.2.2.2.2.1⟩), (2, ⟨[(1, (.b 95 [(.v false (.pair yP (.pair (.rs 67 yE) (.rs 59 yD))))])), (4, kI), (5, (.c false (.r 43 (.rs 25 (.rs 3 (.int .i64)))))), (11, kI), (14, (.c false (.r 43 (.rs 25 (.rs 3 (.int .i64)))))), (15, kI), (16, kI)], [((.exit 2), [(1, (.b 95 [(.v false (.pair yP (.pair (.rs 67 yE) (.rs 59 yD))))])), (5, (.c false (.r 43 (.rs 25 (.rs 3 (.int .i64)))))), (11, kI)])], fun m v => L116_2 n m v.1 v.2.1 v.2.2.1 v.2.2.2.1 v.2.2.2.2.1 v.2.2.2.2.2.1 v.2.2.2.2.2.2.1⟩), (0, ⟨[(1, (.b 95 [(.v false (.pair yP (.pair (.rs 67 yE) (.rs 59 yD))))])), (3, (.c false (.r 43 (.rs 25 (.rs 3 (.int .i64)))))), (11, kI)], [((.exit 0), [(3, (.c false (.r 43 (.rs 25 (.rs 3 (.int .i64))))))])], fun m v => L116_0 n m v.1 v.2.1 v.2.2.1⟩)], ctL [], [], false⟩
noncomputable def code116 : Code := Try.f116.body.getD .skip
theorem tb116_ok (n : Nat) : (tb116 n).ok Try.prog := tbOk mixed (⟨con136_ok n, ⟨con147_ok n, ⟨con148_ok n, trivial⟩⟩⟩)
theorem lp116_4 (n : Nat) : LpAt (tb116 n) (loopBody code116 4) 4 := lpAt rfl (fun _ => by kernel_rfl) (fun _ _ => by kernel_rfl)
theorem lp116_2 (n : Nat) : LpAt (tb116 n) (loopBody code116 2) 2 := lpAt rfl (fun _ => by kernel_rfl) (fun _ _ => by kernel_rfl)
theorem lp116_0 (n : Nat) : LpAt (tb116 n) (loopBody code116 0) 0 := lpAt rfl (fun _ => by kernel_rfl) (fun _ _ => by kernel_rfl)
theorem blocks116 : blocks code116 = [(0, .loop (loopBody code116 0)), (1, blockBody code116 1), (2, .loop (loopBody code116 2)), (3, blockBody code116 3), (4, .loop (loopBody code116 4)), (5, blockBody code116 5)] := by kernel_rfl
theorem la116 (n : Nat) : LpAll (tb116 n) code116 := lpAll blocks116 (bl_loop (lp116_0 n) (bl_none rfl (bl_loop (lp116_2 n) (bl_none rfl (bl_loop (lp116_4 n) (bl_none rfl (bl_nil))))))) rfl (cs_no fun _ => rfl) (by kernel_rfl)
theorem ev116 (n : Nat) (x : pdens [.c true (.v false (.pair yP (.pair (.rs 67 yE) (.rs 59 yD))))]) : evSig (tb116 n) Try.f116 [.c true (.v false (.pair yP (.pair (.rs 67 yE) (.rs 59 yD))))] [.c false (.r 43 (.rs 25 (.rs 3 (.int .i64))))] x = F116 n x.1 := by kernel_rfl
theorem con116_ok (n : Nat) : Con.ok Try.prog 116 (con116 n) := conOf_ok (tb116_ok n) (body_la (by kernel_rfl : Try.f116.body = some code116) (la116 n)) Try.func116 (enters Try.func116 (by kernel_rfl) (by kernel_rfl)) rfl rfl (ev116 n)
/-! ### (loop.example/fathomline/impl.scene).froms -/
def L117_4 (n : Nat) : Nat → (List (List (Int × Int × Int)) × List (Int × Int × Bool) × List (Int × Int × Int)) × Unit → List Int → List (List Int) → List Int → List (Int × Int × Int) → Int → Int → List (List Int) → Int → Int → List Int → Int → Int → Option (odens [((.exit 4), [(1, (.b 95 [(.v false (.pair yP (.pair (.rs 67 yE) (.rs 59 yD))))])), (6, (.c false (.v true (.rs 3 (.int .i64))))), (7, (.c false (.r 25 (.rs 3 (.int .i64))))), (14, (.c false (.v false (.rs 59 yD)))), (15, kI), (16, kI), (29, (.c false (.r 25 (.rs 3 (.int .i64))))), (30, kI), (31, kI)])])
  | 0, _, _, _, _, _, _, _, _, _, _, _, _, _ => none
  | m + 1, x23, x24, x25, x26, x27, x28, x29, x30, x31, x32, x33, x34, x35 =>
    cond (Decidable.decide (x35 < x34))
    (if (0 : Int) ≤ x35 then
     if x35 < (↑x33.length : Int) then
     (F118 n (x26)).bind fun y36 =>
     if (List.length y36.fst + [x33.getD x35.toNat (0 : Int)].length) * (8 : Nat) ≤ (140737488355328 : Nat) then
     if (x25.length + [y36.fst ++ [x33.getD x35.toNat (0 : Int)]].length) * (24 : Nat) ≤ (140737488355328 : Nat) then
     L117_4 n m (((x23.fst.fst, x23.fst.snd.fst, x23.fst.snd.snd), ())) (x24) (x25 ++ [y36.fst ++ [x33.getD x35.toNat (0 : Int)]]) (x26) (x27) (x28) (x29) (x30) (x31) (x32) (x33) (x34) (Go.IntKind.i64.wrap (x35 + (1 : Int)))
     else none
     else none
     else none
     else none)
    (some (Sum.inl (((x23.fst.fst, x23.fst.snd.fst, x23.fst.snd.snd), ()), x24, x25, x27, x28, x29, x30, x31, x32, ())))
def L117_2 (n : Nat) : Nat → (List (List (Int × Int × Int)) × List (Int × Int × Bool) × List (Int × Int × Int)) × Unit → List Int → List (List Int) → List (Int × Int × Int) → Int → Int → List (List Int) → Int → Int → Option (odens [((.exit 2), [(1, (.b 95 [(.v false (.pair yP (.pair (.rs 67 yE) (.rs 59 yD))))])), (7, (.c false (.r 25 (.rs 3 (.int .i64))))), (14, (.c false (.v false (.rs 59 yD)))), (15, kI), (16, kI)])])
  | 0, _, _, _, _, _, _, _, _, _ => none
  | m + 1, x14, x15, x16, x17, x18, x19, x20, x21, x22 =>
    cond (Decidable.decide (x22 < x21))
    (if (0 : Int) ≤ x22 then
     if x22 < (↑x20.length : Int) then
     if x22.toNat < x20.length then
     match L117_4 n n (((x14.fst.fst, x14.fst.snd.fst, x14.fst.snd.snd), ())) (x15) (x16) (x20.getD x22.toNat []) (x17) (x18) (x19) (x20) (x21) (x22) (x15) ((↑x15.length : Int)) ((0 : Int)) with
     | none => none
     | some (Sum.inl v37) =>
      L117_2 n m (((v37.fst.fst.fst, v37.fst.fst.snd.fst, v37.fst.fst.snd.snd), ())) (v37.snd.fst) (v37.snd.snd.fst) (v37.snd.snd.snd.fst) (v37.snd.snd.snd.snd.fst) (v37.snd.snd.snd.snd.snd.fst) (v37.snd.snd.snd.snd.snd.snd.fst) (v37.snd.snd.snd.snd.snd.snd.snd.fst) (Go.IntKind.i64.wrap (v37.snd.snd.snd.snd.snd.snd.snd.snd.fst + (1 : Int)))
     else none
     else none
     else none)
    (some (Sum.inl (((x14.fst.fst, x14.fst.snd.fst, x14.fst.snd.snd), ()), x16, x17, x18, x19, ())))
def J117_8 (n : Nat) (x8 : (List (List (Int × Int × Int)) × List (Int × Int × Bool) × List (Int × Int × Int)) × Unit) (x9 : List (List Int)) (x10 : List Int) (x11 : List (Int × Int × Int)) (x12 : Int) (x13 : Int) : Option (odens [(.normal, [(1, (.b 95 [(.v false (.pair yP (.pair (.rs 67 yE) (.rs 59 yD))))])), (3, (.c false (.r 25 (.rs 3 (.int .i64))))), (14, (.c false (.v false (.rs 59 yD)))), (15, kI), (16, kI)])]) :=
    match L117_2 n n (((x8.fst.fst, x8.fst.snd.fst, x8.fst.snd.snd), ())) (x10) ([]) (x11) (x12) (x13) (x9) ((↑x9.length : Int)) ((0 : Int)) with
    | none => none
    | some (Sum.inl v38) =>
     some (Sum.inl (((v38.fst.fst.fst, v38.fst.fst.snd.fst, v38.fst.fst.snd.snd), ()), v38.snd.fst, v38.snd.snd.fst, v38.snd.snd.snd.fst, v38.snd.snd.snd.snd.fst, ()))
def J117_19 (n : Nat) (x40 : (List (List (Int × Int × Int)) × List (Int × Int × Bool) × List (Int × Int × Int)) × Unit) (x41 : List (List Int)) (x42 : List (Int × Int × Int)) (x43 : Int) (x44 : Int) : Option (odens [(.normal, [(1, (.b 95 [(.v false (.pair yP (.pair (.rs 67 yE) (.rs 59 yD))))])), (3, (.c false (.r 25 (.rs 3 (.int .i64))))), (14, (.c false (.v false (.rs 59 yD)))), (15, kI), (16, kI)])]) :=
    some (Sum.inl (((x40.fst.fst, x40.fst.snd.fst, x40.fst.snd.snd), ()), x41, x42, x43, Go.IntKind.i64.wrap (x44 + (1 : Int)), ()))
def L117_0 (n : Nat) : Nat → (List (List (Int × Int × Int)) × List (Int × Int × Bool) × List (Int × Int × Int)) × Unit → List (List Int) → List (Int × Int × Int) → Int → Int → Option (odens [((.exit 0), [(3, (.c false (.r 25 (.rs 3 (.int .i64)))))])])
  | 0, _, _, _, _, _ => none
  | m + 1, x1, x2, x3, x4, x5 =>
    cond (Decidable.decide (x5 < x4))
    (if (0 : Int) ≤ x5 then
     if x5 < (↑x3.length : Int) then
     (F121 n (((x3.getD x5.toNat ((0 : Int), (0 : Int), (0 : Int))).fst, (x3.getD x5.toNat ((0 : Int), (0 : Int), (0 : Int))).snd.fst, (x3.getD x5.toNat ((0 : Int), (0 : Int), (0 : Int))).snd.snd))).bind fun y6 =>
     cond (y6.fst)
     ((F136 n ((x1.fst.fst, x1.fst.snd.fst, x1.fst.snd.snd)) ((x3.getD x5.toNat ((0 : Int), (0 : Int), (0 : Int))).snd.fst)).bind fun y7 =>
      if ([(-1 : Int)].length + List.length y7.fst) * (8 : Nat) ≤ (140737488355328 : Nat) then
      match J117_8 n (((x1.fst.fst, x1.fst.snd.fst, x1.fst.snd.snd), ())) (x2) ([(-1 : Int)] ++ y7.fst) (x3) (x4) (x5) with
      | none => none
      | some (Sum.inl v39) =>
       match J117_19 n (((v39.fst.fst.fst, v39.fst.fst.snd.fst, v39.fst.fst.snd.snd), ())) (v39.snd.fst) (v39.snd.snd.fst) (v39.snd.snd.snd.fst) (v39.snd.snd.snd.snd.fst) with
       | none => none
       | some (Sum.inl v45) =>
        L117_0 n m (((v45.fst.fst.fst, v45.fst.fst.snd.fst, v45.fst.fst.snd.snd), ())) (v45.snd.fst) (v45.snd.snd.fst) (v45.snd.snd.snd.fst) (v45.snd.snd.snd.snd.fst)
      else none)
     (match J117_8 n (((x1.fst.fst, x1.fst.snd.fst, x1.fst.snd.snd), ())) (x2) ([(-2 : Int)]) (x3) (x4) (x5) with
      | none => none
      | some (Sum.inl v46) =>
       match J117_19 n (((v46.fst.fst.fst, v46.fst.fst.snd.fst, v46.fst.fst.snd.snd), ())) (v46.snd.fst) (v46.snd.snd.fst) (v46.snd.snd.snd.fst) (v46.snd.snd.snd.snd.fst) with
       | none => none
       | some (Sum.inl v47) =>
        L117_0 n m (((v47.fst.fst.fst, v47.fst.fst.snd.fst, v47.fst.fst.snd.snd), ())) (v47.snd.fst) (v47.snd.snd.fst) (v47.snd.snd.snd.fst) (v47.snd.snd.snd.snd.fst))
     else none
     else none)
    (some (Sum.inl (x2, ())))
def F117 (n : Nat) (a0 : List (List (Int × Int × Int)) × List (Int × Int × Bool) × List (Int × Int × Int)) : Option (rdens [.c true (.v false (.pair yP (.pair (.rs 67 yE) (.rs 59 yD))))] [.c false (.r 25 (.rs 3 (.int .i64)))]) :=
  match L117_0 n n (((a0.fst, a0.snd.fst, a0.snd.snd), ())) ([[]]) (a0.snd.snd) ((↑(List.length a0.snd.snd) : Int)) ((0 : Int)) with
  | none => none
  | some (Sum.inl v48) =>
   some (v48.fst, ())
noncomputable def con117 (n : Nat) : Con := conOf [.c true (.v false (.pair yP (.pair (.rs 67 yE) (.rs 59 yD))))] [.c false (.r 25 (.rs 3 (.int .i64)))] fun x => F117 n x.1
noncomputable def tb117 (n : Nat) : Tb := ⟨tiOf Try.prog, conL [(121, con121 n), (136, con136 n), (118, con118 n)], n, [], 54, lpL [(4, ⟨[(1, (.b 95 [(.v false (.pair yP (.pair (.rs 67 yE) (.rs 59 yD))))])), (6, (.c false (.v true (.rs 3 (.int .i64))))), (7, (.c false (.r 25 (.rs 3 (.int .i64))))), (9, (.c false (.v true (.rs 3 (.int .i64))))), (14, (.c false (.v false (.rs 59 yD)))), (15, kI), (16, kI), (29, (.c false (.r 25 (.rs 3 (.int .i64))))), (30, kI), (31, kI), (35, (.c false (.v true (.rs 3 (.int .i64))))), (36, kI), (37, kI)], [((.exit 4), [(1, (.b 95 [(.v false (.pair yP (.pair (.rs 67 yE) (.rs 59 yD))))])), (6, (.c false (.v true (.rs 3 (.int .i64))))), (7, (.c false (.r 25 (.rs 3 (.int .i64))))), (14, (.c false (.v false (.rs 59 yD)))), (15, kI), (16, kI), (29, (.c false (.r 25 (.rs 3 (.int .i64))))), (30, kI), (31, kI)])], fun m v => L117_4 n m v.1 v.2.1 v.2.2.1 v.2.2.2.1 v.2.2.2.2.1 v.2.2.2.2.2.1 v.2.2.2.2.2.2.1 v.2.2.2.2.2.2.2.1 v.2.2.2.2.2.2.2.2.1 v.2.2.2.2.2.2.2.2.2.1 v.2.2.2.2.2.2.2.2.2.2.1 v.2.2.2.2.2.2.2.2.2.2.2.1 v.2.2.2.2.2.2.2.2.2.2.2.2.1⟩), (2, ⟨[(1, (.b 95 [(.v false (.pair yP (.pair (.rs 67 yE) (.rs 59 yD))))])), (6, (.c false (.v true (.rs 3 (.int .i64))))), (7, (.c false (.r 25 (.rs 3 (.int .i64))))), (14, (.c false (.v false (.rs 59 yD)))), (15, kI), (16, kI), (29, (.c false (.r 25 (.rs 3 (.int .i64))))), (30, kI), (31, kI)], [((.exit 2), [(1, (.b 95 [(.v false (.pair yP (.pair (.rs 67 yE) (.rs 59 yD))))])), (7, (.c false (.r 25 (.rs 3 (.int .i64))))), (14, (.c false (.v false (.rs 59 yD)))), (15, kI), (16, kI)])], fun m v => L117_2 n m v.1 v.2.1 v.2.2.1 v.2.2.2.1 v.2.2.2.2.1 v.2.2.2.2.2.1 v.2.2.2.2.2.2.1 v.2.2.2.2.2.2.2.1 v.2.2.2.2.2.2.2.2.1⟩), (0, ⟨[(1, (.b 95 [(.v false (.pair yP (.pair (.rs 67 yE) (.rs 59 yD))))])), (3, (.c false (.r 25 (.rs 3 (.int .i64))))), (14, (.c false (.v false (.rs 59 yD)))), (15, kI), (16, kI)], [((.exit 0), [(3, (.c false (.r 25 (.rs 3 (.int .i64)))))])], fun m v => L117_0 n m v.1 v.2.1 v.2.2.1 v.2.2.2.1 v.2.2.2.2.1⟩)], ctL [(8, ⟨[(1, (.b 95 [(.v false (.pair yP (.pair (.rs 67 yE) (.rs 59 yD))))])), (3, (.c false (.r 25 (.rs 3 (.int .i64))))), (6, (.c false (.r 3 (.int .i64)))), (14, (.c false (.v false (.rs 59 yD)))), (15, kI), (16, kI)], [(.normal, [(1, (.b 95 [(.v false (.pair yP (.pair (.rs 67 yE) (.rs 59 yD))))])), (3, (.c false (.r 25 (.rs 3 (.int .i64))))), (14, (.c false (.v false (.rs 59 yD)))), (15, kI), (16, kI)])], fun v => J117_8 n v.1 v.2.1 v.2.2.1 v.2.2.2.1 v.2.2.2.2.1 v.2.2.2.2.2.1⟩), (19, ⟨[(1, (.b 95 [(.v false (.pair yP (.pair (.rs 67 yE) (.rs 59 yD))))])), (3, (.c false (.r 25 (.rs 3 (.int .i64))))), (14, (.c false (.v false (.rs 59 yD)))), (15, kI), (16, kI)], [(.normal, [(1, (.b 95 [(.v false (.pair yP (.pair (.rs 67 yE) (.rs 59 yD))))])), (3, (.c false (.r 25 (.rs 3 (.int .i64))))), (14, (.c false (.v false (.rs 59 yD)))), (15, kI), (16, kI)])], fun v => J117_19 n v.1 v.2.1 v.2.2.1 v.2.2.2.1 v.2.2.2.2.1⟩)], [], false⟩
noncomputable def code117 : Code := Try.f117.body.getD .skip
theorem tb117_ok (n : Nat) : (tb117 n).ok Try.prog := tbOk mixed (⟨con121_ok n, ⟨con136_ok n, ⟨con118_ok n, trivial⟩⟩⟩)
theorem lp117_4 (n : Nat) : LpAt (tb117 n) (loopBody code117 4) 4 := lpAt rfl (fun _ => by kernel_rfl) (fun _ _ => by kernel_rfl)
theorem lp117_2 (n : Nat) : LpAt (tb117 n) (loopBody code117 2) 2 := lpAt rfl (fun _ => by kernel_rfl) (fun _ _ => by kernel_rfl)
theorem lp117_0 (n : Nat) : LpAt (tb117 n) (loopBody code117 0) 0 := lpAt rfl (fun _ => by kernel_rfl) (fun _ _ => by kernel_rfl)
theorem blocks117 : blocks code117 = [(0, .loop (loopBody code117 0)), (1, blockBody code117 1), (2, .loop (loopBody code117 2)), (3, blockBody code117 3), (4, .loop (loopBody code117 4)), (5, blockBody code117 5)] := by kernel_rfl
theorem ct117_19 (n : Nat) : CtOk (tb117 n) (sec code117 6).2 ⟨[(1, (.b 95 [(.v false (.pair yP (.pair (.rs 67 yE) (.rs 59 yD))))])), (3, (.c false (.r 25 (.rs 3 (.int .i64))))), (14, (.c false (.v false (.rs 59 yD)))), (15, kI), (16, kI)], [(.normal, [(1, (.b 95 [(.v false (.pair yP (.pair (.rs 67 yE) (.rs 59 yD))))])), (3, (.c false (.r 25 (.rs 3 (.int .i64))))), (14, (.c false (.v false (.rs 59 yD)))), (15, kI), (16, kI)])], fun v => J117_19 n v.1 v.2.1 v.2.2.1 v.2.2.2.1 v.2.2.2.2.1⟩ := fun _ => by kernel_rfl
theorem ct117_8 (n : Nat) : CtOk (tb117 n) (sec code117 9).2 ⟨[(1, (.b 95 [(.v false (.pair yP (.pair (.rs 67 yE) (.rs 59 yD))))])), (3, (.c false (.r 25 (.rs 3 (.int .i64))))), (6, (.c false (.r 3 (.int .i64)))), (14, (.c false (.v false (.rs 59 yD)))), (15, kI), (16, kI)], [(.normal, [(1, (.b 95 [(.v false (.pair yP (.pair (.rs 67 yE) (.rs 59 yD))))])), (3, (.c false (.r 25 (.rs 3 (.int .i64))))), (14, (.c false (.v false (.rs 59 yD)))), (15, kI), (16, kI)])], fun v => J117_8 n v.1 v.2.1 v.2.2.1 v.2.2.2.1 v.2.2.2.2.1 v.2.2.2.2.2.1⟩ := fun _ => by kernel_rfl
theorem secs117 : seconds code117 = [(some 1, (sec code117 0).2), (some 2, (sec code117 1).2), (some 20, (sec code117 2).2), (some 3, (sec code117 3).2), (none, (sec code117 4).2), (some 4, (sec code117 5).2), (some 19, (sec code117 6).2), (some 5, (sec code117 7).2), (some 6, (sec code117 8).2), (some 8, (sec code117 9).2), (none, (sec code117 10).2), (some 9, (sec code117 11).2), (some 18, (sec code117 12).2), (some 10, (sec code117 13).2), (none, (sec code117 14).2), (some 11, (sec code117 15).2), (some 17, (sec code117 16).2), (some 12, (sec code117 17).2), (some 13, (sec code117 18).2), (none, (sec code117 19).2), (some 14, (sec code117 20).2), (some 16, (sec code117 21).2), (some 15, (sec code117 22).2), (none, (sec code117 23).2)] := by kernel_rfl
theorem la117 (n : Nat) : LpAll (tb117 n) code117 := lpAll blocks117 (bl_loop (lp117_0 n) (bl_none rfl (bl_loop (lp117_2 n) (bl_none rfl (bl_loop (lp117_4 n) (bl_none rfl (bl_nil))))))) secs117 (cs_none rfl (cs_none rfl (cs_none rfl (cs_none rfl (cs_none rfl (cs_none rfl (cs_one rfl (ct117_19 n) (cs_none rfl (cs_none rfl (cs_one rfl (ct117_8 n) (cs_none rfl (cs_none rfl (cs_none rfl (cs_none rfl (cs_none rfl (cs_none rfl (cs_none rfl (cs_none rfl (cs_none rfl (cs_none rfl (cs_none rfl (cs_none rfl (cs_none rfl (cs_none rfl (cs_nil))))))))))))))))))))))))) (by kernel_rfl)
theorem ev117 (n : Nat) (x : pdens [.c true (.v false (.pair yP (.pair (.rs 67 yE) (.rs 59 yD))))]) : evSig (tb117 n) Try.f117 [.c true (.v false (.pair yP (.pair (.rs 67 yE) (.rs 59 yD))))] [.c false (.r 25 (.rs 3 (.int .i64)))] x = F117 n x.1 := by kernel_rfl
theorem con117_ok (n : Nat) : Con.ok Try.prog 117 (con117 n) := conOf_ok (tb117_ok n) (body_la (by kernel_rfl : Try.f117.body = some code117) (la117 n)) Try.func117 (enters Try.func117 (by kernel_rfl) (by kernel_rfl)) rfl rfl (ev117 n)
/-! ### (loop.example/fathomline/impl.scene).all -/
def L75_4 (n : Nat) : Nat → (List (List (Int × Int × Int)) × List (Int × Int × Bool) × List (Int × Int × Int)) × Unit → List (List (List Int)) → List (List Int × List (List Int)) → List Int → List Int × List (List Int) × Unit → List (List Int) → Int → Int → List (List (List Int)) → Int → Int → List (List Int) → Int → Int → Option (odens [((.exit 4), [(1, (.b 95 [(.v false (.pair yP (.pair (.rs 67 yE) (.rs 59 yD))))])), (3, (.c false (.v true (.rs 43 (.rs 25 (.rs 3 (.int .i64))))))), (4, (.c false (.o (.rs 48 yX)))), (6, (.c false (.v true (.rs 3 (.int .i64))))), (9, (.b 48 [(.r 3 (.int .i64)), (.o (.rs 25 (.rs 3 (.int .i64))))])), (15, (.c false (.r 25 (.rs 3 (.int .i64))))), (16, kI), (17, kI), (21, (.c false (.v true (.rs 43 (.rs 25 (.rs 3 (.int .i64))))))), (22, kI), (23, kI)])])
  | 0, _, _, _, _, _, _, _, _, _, _, _, _, _, _ => none
  | m + 1, x20, x21, x22, x23, x24, x25, x26, x27, x28, x29, x30, x31, x32, x33 =>
    cond (Decidable.decide (x33 < x32))
    (if (0 : Int) ≤ x33 then
     if x33 < (↑x31.length : Int) then
     (F118 n (x31.getD x33.toNat [])).bind fun y34 =>
     if (List.length x24.snd.fst + [y34.fst].length) * (24 : Nat) ≤ (140737488355328 : Nat) then
     L75_4 n m (((x20.fst.fst, x20.fst.snd.fst, x20.fst.snd.snd), ())) (x21) (x22) (x23) ((x24.fst, x24.snd.fst ++ [y34.fst], ())) (x25) (x26) (x27) (x28) (x29) (x30) (x31) (x32) (Go.IntKind.i64.wrap (x33 + (1 : Int)))
     else none
     else none
     else none)
    (some (Sum.inl (((x20.fst.fst, x20.fst.snd.fst, x20.fst.snd.snd), ()), x21, x22, x23, (x24.fst, x24.snd.fst, ()), x25, x26, x27, x28, x29, x30, ())))
def J75_17 (n : Nat) (x37 : (List (List (Int × Int × Int)) × List (Int × Int × Bool) × List (Int × Int × Int)) × Unit) (x38 : List (List (List Int))) (x39 : List (List Int × List (List Int))) (x40 : List Int) (x41 : List (List Int)) (x42 : Int) (x43 : Int) (x44 : List (List (List Int))) (x45 : Int) (x46 : Int) : Option (odens [(.normal, [(1, (.b 95 [(.v false (.pair yP (.pair (.rs 67 yE) (.rs 59 yD))))])), (3, (.c false (.v true (.rs 43 (.rs 25 (.rs 3 (.int .i64))))))), (4, (.c false (.o (.rs 48 yX)))), (6, (.c false (.v true (.rs 3 (.int .i64))))), (15, (.c false (.r 25 (.rs 3 (.int .i64))))), (16, kI), (17, kI), (21, (.c false (.v true (.rs 43 (.rs 25 (.rs 3 (.int .i64))))))), (22, kI), (23, kI)])]) :=
    some (Sum.inl (((x37.fst.fst, x37.fst.snd.fst, x37.fst.snd.snd), ()), x38, x39, x40, x41, x42, x43, x44, x45, Go.IntKind.i64.wrap (x46 + (1 : Int)), ()))
def L75_2 (n : Nat) : Nat → (List (List (Int × Int × Int)) × List (Int × Int × Bool) × List (Int × Int × Int)) × Unit → List (List (List Int)) → List (List Int × List (List Int)) → List Int → List (List Int) → Int → Int → List (List (List Int)) → Int → Int → Option (odens [((.exit 2), [(1, (.b 95 [(.v false (.pair yP (.pair (.rs 67 yE) (.rs 59 yD))))])), (3, (.c false (.v true (.rs 43 (.rs 25 (.rs 3 (.int .i64))))))), (4, (.c false (.o (.rs 48 yX)))), (15, (.c false (.r 25 (.rs 3 (.int .i64))))), (16, kI), (17, kI)])])
  | 0, _, _, _, _, _, _, _, _, _, _ => none
  | m + 1, x9, x10, x11, x12, x13, x14, x15, x16, x17, x18 =>
    cond (Decidable.decide (x18 < x17))
    (if (0 : Int) ≤ x18 then
     if x18 < (↑x16.length : Int) then
     (F118 n (x12)).bind fun y19 =>
     match L75_4 n n (((x9.fst.fst, x9.fst.snd.fst, x9.fst.snd.snd), ())) (x10) (x11) (x12) ((y19.fst, [], ())) (x13) (x14) (x15) (x16) (x17) (x18) (x16.getD x18.toNat []) ((↑(List.length (x16.getD x18.toNat [])) : Int)) ((0 : Int)) with
     | none => none
     | some (Sum.inl v35) =>
      (F71 n ((v35.fst.fst.fst, v35.fst.fst.snd.fst, v35.fst.fst.snd.snd)) ((v35.snd.snd.snd.snd.fst.fst, v35.snd.snd.snd.snd.fst.snd.fst))).bind fun y36 =>
      cond (y36.fst)
      (if (List.length v35.snd.snd.fst + [(v35.snd.snd.snd.snd.fst.fst, v35.snd.snd.snd.snd.fst.snd.fst)].length) * (48 : Nat) ≤ (140737488355328 : Nat) then
       match J75_17 n (((v35.fst.fst.fst, v35.fst.fst.snd.fst, v35.fst.fst.snd.snd), ())) (v35.snd.fst) (v35.snd.snd.fst ++ [(v35.snd.snd.snd.snd.fst.fst, v35.snd.snd.snd.snd.fst.snd.fst)]) (v35.snd.snd.snd.fst) (v35.snd.snd.snd.snd.snd.fst) (v35.snd.snd.snd.snd.snd.snd.fst) (v35.snd.snd.snd.snd.snd.snd.snd.fst) (v35.snd.snd.snd.snd.snd.snd.snd.snd.fst) (v35.snd.snd.snd.snd.snd.snd.snd.snd.snd.fst) (v35.snd.snd.snd.snd.snd.snd.snd.snd.snd.snd.fst) with
       | none => none
       | some (Sum.inl v47) =>
        L75_2 n m (((v47.fst.fst.fst, v47.fst.fst.snd.fst, v47.fst.fst.snd.snd), ())) (v47.snd.fst) (v47.snd.snd.fst) (v47.snd.snd.snd.fst) (v47.snd.snd.snd.snd.fst) (v47.snd.snd.snd.snd.snd.fst) (v47.snd.snd.snd.snd.snd.snd.fst) (v47.snd.snd.snd.snd.snd.snd.snd.fst) (v47.snd.snd.snd.snd.snd.snd.snd.snd.fst) (v47.snd.snd.snd.snd.snd.snd.snd.snd.snd.fst)
       else none)
      (match J75_17 n (((v35.fst.fst.fst, v35.fst.fst.snd.fst, v35.fst.fst.snd.snd), ())) (v35.snd.fst) (v35.snd.snd.fst) (v35.snd.snd.snd.fst) (v35.snd.snd.snd.snd.snd.fst) (v35.snd.snd.snd.snd.snd.snd.fst) (v35.snd.snd.snd.snd.snd.snd.snd.fst) (v35.snd.snd.snd.snd.snd.snd.snd.snd.fst) (v35.snd.snd.snd.snd.snd.snd.snd.snd.snd.fst) (v35.snd.snd.snd.snd.snd.snd.snd.snd.snd.snd.fst) with
       | none => none
       | some (Sum.inl v48) =>
        L75_2 n m (((v48.fst.fst.fst, v48.fst.fst.snd.fst, v48.fst.fst.snd.snd), ())) (v48.snd.fst) (v48.snd.snd.fst) (v48.snd.snd.snd.fst) (v48.snd.snd.snd.snd.fst) (v48.snd.snd.snd.snd.snd.fst) (v48.snd.snd.snd.snd.snd.snd.fst) (v48.snd.snd.snd.snd.snd.snd.snd.fst) (v48.snd.snd.snd.snd.snd.snd.snd.snd.fst) (v48.snd.snd.snd.snd.snd.snd.snd.snd.snd.fst))
     else none
     else none)
    (some (Sum.inl (((x9.fst.fst, x9.fst.snd.fst, x9.fst.snd.snd), ()), x10, x11, x13, x14, x15, ())))
def L75_0 (n : Nat) : Nat → (List (List (Int × Int × Int)) × List (Int × Int × Bool) × List (Int × Int × Int)) × Unit → List (List (List Int)) → List (List Int × List (List Int)) → List (List Int) → Int → Int → Option (odens [((.exit 0), [(4, (.c false (.o (.rs 48 yX))))])])
  | 0, _, _, _, _, _, _ => none
  | m + 1, x3, x4, x5, x6, x7, x8 =>
    cond (Decidable.decide (x8 < x7))
    (if (0 : Int) ≤ x8 then
     if x8 < (↑x6.length : Int) then
     if x8.toNat < x6.length then
     match L75_2 n n (((x3.fst.fst, x3.fst.snd.fst, x3.fst.snd.snd), ())) (x4) (x5) (x6.getD x8.toNat []) (x6) (x7) (x8) (x4) ((↑x4.length : Int)) ((0 : Int)) with
     | none => none
     | some (Sum.inl v49) =>
      L75_0 n m (((v49.fst.fst.fst, v49.fst.fst.snd.fst, v49.fst.fst.snd.snd), ())) (v49.snd.fst) (v49.snd.snd.fst) (v49.snd.snd.snd.fst) (v49.snd.snd.snd.snd.fst) (Go.IntKind.i64.wrap (v49.snd.snd.snd.snd.snd.fst + (1 : Int)))
     else none
     else none
     else none)
    (some (Sum.inl (x5, ())))
def F75 (n : Nat) (a0 : List (List (Int × Int × Int)) × List (Int × Int × Bool) × List (Int × Int × Int)) : Option (rdens [.c true (.v false (.pair yP (.pair (.rs 67 yE) (.rs 59 yD))))] [.c false (.o (.rs 48 yX))]) :=
  (F116 n ((a0.fst, a0.snd.fst, a0.snd.snd))).bind fun y1 =>
  (F117 n ((a0.fst, a0.snd.fst, a0.snd.snd))).bind fun y2 =>
  match L75_0 n n (((a0.fst, a0.snd.fst, a0.snd.snd), ())) (y1.fst) ([]) (y2.fst) ((↑(List.length y2.fst) : Int)) ((0 : Int)) with
  | none => none
  | some (Sum.inl v50) =>
   some (v50.fst, ())
noncomputable def con75 (n : Nat) : Con := conOf [.c true (.v false (.pair yP (.pair (.rs 67 yE) (.rs 59 yD))))] [.c false (.o (.rs 48 yX))] fun x => F75 n x.1
noncomputable def tb75 (n : Nat) : Tb := ⟨tiOf Try.prog, conL [(116, con116 n), (117, con117 n), (118, con118 n), (71, con71 n)], n, [], 54, lpL [(4, ⟨[(1, (.b 95 [(.v false (.pair yP (.pair (.rs 67 yE) (.rs 59 yD))))])), (3, (.c false (.v true (.rs 43 (.rs 25 (.rs 3 (.int .i64))))))), (4, (.c false (.o (.rs 48 yX)))), (6, (.c false (.v true (.rs 3 (.int .i64))))), (9, (.b 48 [(.r 3 (.int .i64)), (.o (.rs 25 (.rs 3 (.int .i64))))])), (15, (.c false (.r 25 (.rs 3 (.int .i64))))), (16, kI), (17, kI), (21, (.c false (.v true (.rs 43 (.rs 25 (.rs 3 (.int .i64))))))), (22, kI), (23, kI), (30, (.c false (.v true (.rs 25 (.rs 3 (.int .i64)))))), (31, kI), (32, kI)], [((.exit 4), [(1, (.b 95 [(.v false (.pair yP (.pair (.rs 67 yE) (.rs 59 yD))))])), (3, (.c false (.v true (.rs 43 (.rs 25 (.rs 3 (.int .i64))))))), (4, (.c false (.o (.rs 48 yX)))), (6, (.c false (.v true (.rs 3 (.int .i64))))), (9, (.b 48 [(.r 3 (.int .i64)), (.o (.rs 25 (.rs 3 (.int .i64))))])), (15, (.c false (.r 25 (.rs 3 (.int .i64))))), (16, kI), (17, kI), (21, (.c false (.v true (.rs 43 (.rs 25 (.rs 3 (.int .i64))))))), (22, kI), (23, kI)])], fun m v => L75_4 n m v.1 v.2.1 v.2.2.1 v.2.2.2.1 v.2.2.2.2.1 v.2.2.2.2.2.1 v.2.2.2.2.2.2.1 v.2.2.2.2.2.2.2.1 v.2.2.2.2.2.2.2.2.1 v.2.2.2.2.2.2.2.2.2.1 v.2.2.2.2.2.2.2.2.2.2.1 v.2.2.2.2.2.2.2.2.2.2.2.1 v.2.2.2.2.2.2.2.2.2.2.2.2.1 v.2.2.2.2.2.2.2.2.2.2.2.2.2.1⟩), (2, ⟨[(1, (.b 95 [(.v false (.pair yP (.pair (.rs 67 yE) (.rs 59 yD))))])), (3, (.c false (.v true (.rs 43 (.rs 25 (.rs 3 (.int .i64))))))), (4, (.c false (.o (.rs 48 yX)))), (6, (.c false (.v true (.rs 3 (.int .i64))))), (15, (.c false (.r 25 (.rs 3 (.int .i64))))), (16, kI), (17, kI), (21, (.c false (.v true (.rs 43 (.rs 25 (.rs 3 (.int .i64))))))), (22, kI), (23, kI)], [((.exit 2), [(1, (.b 95 [(.v false (.pair yP (.pair (.rs 67 yE) (.rs 59 yD))))])), (3, (.c false (.v true (.rs 43 (.rs 25 (.rs 3 (.int .i64))))))), (4, (.c false (.o (.rs 48 yX)))), (15, (.c false (.r 25 (.rs 3 (.int .i64))))), (16, kI), (17, kI)])], fun m v => L75_2 n m v.1 v.2.1 v.2.2.1 v.2.2.2.1 v.2.2.2.2.1 v.2.2.2.2.2.1 v.2.2.2.2.2.2.1 v.2.2.2.2.2.2.2.1 v.2.2.2.2.2.2.2.2.1 v.2.2.2.2.2.2.2.2.2.1⟩), (0, ⟨[(1, (.b 95 [(.v false (.pair yP (.pair (.rs 67 yE) (.rs 59 yD))))])), (3, (.c false (.v true (.rs 43 (.rs 25 (.rs 3 (.int .i64))))))), (4, (.c false (.o (.rs 48 yX)))), (15, (.c false (.r 25 (.rs 3 (.int .i64))))), (16, kI), (17, kI)], [((.exit 0), [(4, (.c false (.o (.rs 48 yX))))])], fun m v => L75_0 n m v.1 v.2.1 v.2.2.1 v.2.2.2.1 v.2.2.2.2.1 v.2.2.2.2.2.1⟩)], ctL [(17, ⟨[(1, (.b 95 [(.v false (.pair yP (.pair (.rs 67 yE) (.rs 59 yD))))])), (3, (.c false (.v true (.rs 43 (.rs 25 (.rs 3 (.int .i64))))))), (4, (.c false (.o (.rs 48 yX)))), (6, (.c false (.v true (.rs 3 (.int .i64))))), (15, (.c false (.r 25 (.rs 3 (.int .i64))))), (16, kI), (17, kI), (21, (.c false (.v true (.rs 43 (.rs 25 (.rs 3 (.int .i64))))))), (22, kI), (23, kI)], [(.normal, [(1, (.b 95 [(.v false (.pair yP (.pair (.rs 67 yE) (.rs 59 yD))))])), (3, (.c false (.v true (.rs 43 (.rs 25 (.rs 3 (.int .i64))))))), (4, (.c false (.o (.rs 48 yX)))), (6, (.c false (.v true (.rs 3 (.int .i64))))), (15, (.c false (.r 25 (.rs 3 (.int .i64))))), (16, kI), (17, kI), (21, (.c false (.v true (.rs 43 (.rs 25 (.rs 3 (.int .i64))))))), (22, kI), (23, kI)])], fun v => J75_17 n v.1 v.2.1 v.2.2.1 v.2.2.2.1 v.2.2.2.2.1 v.2.2.2.2.2.1 v.2.2.2.2.2.2.1 v.2.2.2.2.2.2.2.1 v.2.2.2.2.2.2.2.2.1 v.2.2.2.2.2.2.2.2.2.1⟩)], [], true⟩
noncomputable def code75 : Code := Try.f75.body.getD .skip
theorem tb75_ok (n : Nat) : (tb75 n).ok Try.prog := tbOk mixed (⟨con116_ok n, ⟨con117_ok n, ⟨con118_ok n, ⟨con71_ok n, trivial⟩⟩⟩⟩)
theorem lp75_4 (n : Nat) : LpAt (tb75 n) (loopBody code75 4) 4 := lpAt rfl (fun _ => by kernel_rfl) (fun _ _ => by kernel_rfl)
theorem lp75_2 (n : Nat) : LpAt (tb75 n) (loopBody code75 2) 2 := lpAt rfl (fun _ => by kernel_rfl) (fun _ _ => by kernel_rfl)
theorem lp75_0 (n : Nat) : LpAt (tb75 n) (loopBody code75 0) 0 := lpAt rfl (fun _ => by kernel_rfl) (fun _ _ => by kernel_rfl)
theorem blocks75 : blocks code75 = [(0, .loop (loopBody code75 0)), (1, blockBody code75 1), (2, .loop (loopBody code75 2)), (3, blockBody code75 3), (4, .loop (loopBody code75 4)), (5, blockBody code75 5)] := by kernel_rfl
theorem ct75_17 (n : Nat) : CtOk (tb75 n) (sec code75 12).2 ⟨[(1, (.b 95 [(.v false (.pair yP (.pair (.rs 67 yE) (.rs 59 yD))))])), (3, (.c false (.v true (.rs 43 (.rs 25 (.rs 3 (.int .i64))))))), (4, (.c false (.o (.rs 48 yX)))), (6, (.c false (.v true (.rs 3 (.int .i64))))), (15, (.c false (.r 25 (.rs 3 (.int .i64))))), (16, kI), (17, kI), (21, (.c false (.v true (.rs 43 (.rs 25 (.rs 3 (.int .i64))))))), (22, kI), (23, kI)], [(.normal, [(1, (.b 95 [(.v false (.pair yP (.pair (.rs 67 yE) (.rs 59 yD))))])), (3, (.c false (.v true (.rs 43 (.rs 25 (.rs 3 (.int .i64))))))), (4, (.c false (.o (.rs 48 yX)))), (6, (.c false (.v true (.rs 3 (.int .i64))))), (15, (.c false (.r 25 (.rs 3 (.int .i64))))), (16, kI), (17, kI), (21, (.c false (.v true (.rs 43 (.rs 25 (.rs 3 (.int .i64))))))), (22, kI), (23, kI)])], fun v => J75_17 n v.1 v.2.1 v.2.2.1 v.2.2.2.1 v.2.2.2.2.1 v.2.2.2.2.2.1 v.2.2.2.2.2.2.1 v.2.2.2.2.2.2.2.1 v.2.2.2.2.2.2.2.2.1 v.2.2.2.2.2.2.2.2.2.1⟩ := fun _ => by kernel_rfl
theorem secs75 : seconds code75 = [(some 1, (sec code75 0).2), (some 2, (sec code75 1).2), (some 3, (sec code75 2).2), (some 19, (sec code75 3).2), (some 4, (sec code75 4).2), (none, (sec code75 5).2), (some 5, (sec code75 6).2), (some 18, (sec code75 7).2), (some 6, (sec code75 8).2), (some 7, (sec code75 9).2), (none, (sec code75 10).2), (some 8, (sec code75 11).2), (some 17, (sec code75 12).2), (some 9, (sec code75 13).2), (some 10, (sec code75 14).2), (some 15, (sec code75 15).2), (some 11, (sec code75 16).2), (none, (sec code75 17).2), (some 12, (sec code75 18).2), (some 14, (sec code75 19).2), (some 13, (sec code75 20).2), (none, (sec code75 21).2), (none, (sec code75 22).2)] := by kernel_rfl
theorem la75 (n : Nat) : LpAll (tb75 n) code75 := lpAll blocks75 (bl_loop (lp75_0 n) (bl_none rfl (bl_loop (lp75_2 n) (bl_none rfl (bl_loop (lp75_4 n) (bl_none rfl (bl_nil))))))) secs75 (cs_none rfl (cs_none rfl (cs_none rfl (cs_none rfl (cs_none rfl (cs_none rfl (cs_none rfl (cs_none rfl (cs_none rfl (cs_none rfl (cs_none rfl (cs_none rfl (cs_one rfl (ct75_17 n) (cs_none rfl (cs_none rfl (cs_none rfl (cs_none rfl (cs_none rfl (cs_none rfl (cs_none rfl (cs_none rfl (cs_none rfl (cs_none rfl (cs_nil)))))))))))))))))))))))) (by kernel_rfl)
theorem ev75 (n : Nat) (x : pdens [.c true (.v false (.pair yP (.pair (.rs 67 yE) (.rs 59 yD))))]) : evSig (tb75 n) Try.f75 [.c true (.v false (.pair yP (.pair (.rs 67 yE) (.rs 59 yD))))] [.c false (.o (.rs 48 yX))] x = F75 n x.1 := by kernel_rfl
theorem con75_ok (n : Nat) : Con.ok Try.prog 75 (con75 n) := conOf_ok (tb75_ok n) (body_la (by kernel_rfl : Try.f75.body = some code75) (la75 n)) Try.func75 (enters Try.func75 (by kernel_rfl) (by kernel_rfl)) rfl rfl (ev75 n)
/-! ### loop.example/fathomline/impl.ExecAll -/
def F34 (n : Nat) (a0 : List (List (Int × Int × Int))) : Option (rdens [.c true (.v false yP)] [.c false (.o (.rs 48 yX))]) :=
  (F69 n (a0)).bind fun y1 =>
  cond (!y1.fst)
  (some ([], ()))
  ((F70 n (a0)).bind fun y2 =>
   (F75 n ((y2.fst.fst, y2.fst.snd.fst, y2.fst.snd.snd))).bind fun y3 =>
   some (y3.fst, ()))
noncomputable def con34 (n : Nat) : Con := conOf [.c true (.v false yP)] [.c false (.o (.rs 48 yX))] fun x => F34 n x.1
noncomputable def tb34 (n : Nat) : Tb := ⟨tiOf Try.prog, conL [(69, con69 n), (70, con70 n), (75, con75 n)], n, [], 9, lpL [], ctL [], [], true⟩
noncomputable def code34 : Code := Try.f34.body.getD .skip
theorem tb34_ok (n : Nat) : (tb34 n).ok Try.prog := tbOk mixed (⟨con69_ok n, ⟨con70_ok n, ⟨con75_ok n, trivial⟩⟩⟩)
theorem blocks34 : blocks code34 = [] := by kernel_rfl
theorem la34 (n : Nat) : LpAll (tb34 n) code34 := lpAll blocks34 (bl_nil) rfl (cs_no fun _ => rfl) (by kernel_rfl)
theorem ev34 (n : Nat) (x : pdens [.c true (.v false yP)]) : evSig (tb34 n) Try.f34 [.c true (.v false yP)] [.c false (.o (.rs 48 yX))] x = F34 n x.1 := by kernel_rfl
theorem con34_ok (n : Nat) : Con.ok Try.prog 34 (con34 n) := conOf_ok (tb34_ok n) (body_la (by kernel_rfl : Try.f34.body = some code34) (la34 n)) Try.func34 (enters Try.func34 (by kernel_rfl) (by kernel_rfl)) rfl rfl (ev34 n)
end Go.Proofs.Ytdacfaincamliaa.Ev
