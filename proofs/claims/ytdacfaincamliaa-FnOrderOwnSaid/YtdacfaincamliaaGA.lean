/- Plain functions that the loaded code comes to, and that it does. Conditions: none. -/
import Derived.Test.YtdacfaincamliaaGM
namespace Go.Proofs.Ytdacfaincamliaa.Ev
open Go Go.Proofs
/-! ### loop.example/fathomline/spec.l1Reads -/
def F79 (n : Nat) (a0 : Int × Int × Int) : Option (rdens [.c true (.v true yD)] [.c false (.v true .bool)]) :=
  cond (a0.fst == (2 : Int))
  (some (Bool.true, ()))
  (some (a0.fst == (5 : Int), ()))
noncomputable def con79 (n : Nat) : Con := conOf [.c true (.v true yD)] [.c false (.v true .bool)] fun x => F79 n x.1
noncomputable def tb79 (n : Nat) : Tb := ⟨tiOf Try.prog, conL [], n, [], 11, lpL [], ctL [], [], true⟩
noncomputable def code79 : Code := Try.f79.body.getD .skip
theorem tb79_ok (n : Nat) : (tb79 n).ok Try.prog := tbOk mixed (trivial)
theorem blocks79 : blocks code79 = [] := by kernel_rfl
theorem la79 (n : Nat) : LpAll (tb79 n) code79 := lpAll blocks79 (bl_nil) rfl (cs_no fun _ => rfl) (by kernel_rfl)
theorem ev79 (n : Nat) (x : pdens [.c true (.v true yD)]) : evSig (tb79 n) Try.f79 [.c true (.v true yD)] [.c false (.v true .bool)] x = F79 n x.1 := by kernel_rfl
theorem con79_ok (n : Nat) : Con.ok Try.prog 79 (con79 n) := conOf_ok (tb79_ok n) (body_la (by kernel_rfl : Try.f79.body = some code79) (la79 n)) Try.func79 (enters Try.func79 (by kernel_rfl) (by kernel_rfl)) rfl rfl (ev79 n)
/-! ### loop.example/fathomline/spec.l1Writes -/
def F80 (n : Nat) (a0 : Int × Int × Int) : Option (rdens [.c true (.v true yD)] [.c false (.v true .bool)]) :=
  cond (a0.fst == (1 : Int))
  (some (Bool.true, ()))
  (cond (a0.fst == (3 : Int))
   (some (Bool.true, ()))
   (some (a0.fst == (6 : Int), ())))
noncomputable def con80 (n : Nat) : Con := conOf [.c true (.v true yD)] [.c false (.v true .bool)] fun x => F80 n x.1
noncomputable def tb80 (n : Nat) : Tb := ⟨tiOf Try.prog, conL [], n, [], 16, lpL [], ctL [], [], true⟩
noncomputable def code80 : Code := Try.f80.body.getD .skip
theorem tb80_ok (n : Nat) : (tb80 n).ok Try.prog := tbOk mixed (trivial)
theorem blocks80 : blocks code80 = [] := by kernel_rfl
theorem la80 (n : Nat) : LpAll (tb80 n) code80 := lpAll blocks80 (bl_nil) rfl (cs_no fun _ => rfl) (by kernel_rfl)
theorem ev80 (n : Nat) (x : pdens [.c true (.v true yD)]) : evSig (tb80 n) Try.f80 [.c true (.v true yD)] [.c false (.v true .bool)] x = F80 n x.1 := by kernel_rfl
theorem con80_ok (n : Nat) : Con.ok Try.prog 80 (con80 n) := conOf_ok (tb80_ok n) (body_la (by kernel_rfl : Try.f80.body = some code80) (la80 n)) Try.func80 (enters Try.func80 (by kernel_rfl) (by kernel_rfl)) rfl rfl (ev80 n)
/-! ### loop.example/fathomline/spec.l6In -/
def F54 (n : Nat) (a0 : Int) (a1 : Int) (a2 : Int) : Option (rdens [.c false (.v true (.int .i64)), .c false (.v true (.int .i64)), .c false (.v true (.int .i64))] [.c false (.v true .bool)]) :=
  cond (Decidable.decide (a0 ≥ a1))
  (some (Decidable.decide (a0 ≤ a2), ()))
  (some (Bool.false, ()))
noncomputable def con54 (n : Nat) : Con := conOf [.c false (.v true (.int .i64)), .c false (.v true (.int .i64)), .c false (.v true (.int .i64))] [.c false (.v true .bool)] fun x => F54 n x.1 x.2.1 x.2.2.1
noncomputable def tb54 (n : Nat) : Tb := ⟨tiOf Try.prog, conL [], n, [], 15, lpL [], ctL [], [], true⟩
noncomputable def code54 : Code := Try.f54.body.getD .skip
theorem tb54_ok (n : Nat) : (tb54 n).ok Try.prog := tbOk mixed (trivial)
theorem blocks54 : blocks code54 = [] := by kernel_rfl
theorem la54 (n : Nat) : LpAll (tb54 n) code54 := lpAll blocks54 (bl_nil) rfl (cs_no fun _ => rfl) (by kernel_rfl)
theorem ev54 (n : Nat) (x : pdens [.c false (.v true (.int .i64)), .c false (.v true (.int .i64)), .c false (.v true (.int .i64))]) : evSig (tb54 n) Try.f54 [.c false (.v true (.int .i64)), .c false (.v true (.int .i64)), .c false (.v true (.int .i64))] [.c false (.v true .bool)] x = F54 n x.1 x.2.1 x.2.2.1 := by kernel_rfl
theorem con54_ok (n : Nat) : Con.ok Try.prog 54 (con54 n) := conOf_ok (tb54_ok n) (body_la (by kernel_rfl : Try.f54.body = some code54) (la54 n)) Try.func54 (enters Try.func54 (by kernel_rfl) (by kernel_rfl)) rfl rfl (ev54 n)
/-! ### loop.example/fathomline/spec.l1Do -/
def J120_3 (n : Nat) (x4 : (Int × Int × Int) × Unit) (x5 : Bool) (x6 : Bool) : Option (odens [(.ret, [(2, kB)])]) :=
    (F54 n (x4.fst.fst) ((1 : Int)) ((9 : Int))).bind fun y7 =>
    cond (y7.fst)
    (cond (x6)
     ((F54 n (x4.fst.snd.fst) ((0 : Int)) ((2 : Int))).bind fun y8 =>
      cond (y8.fst)
      (cond (x5)
       ((F54 n (x4.fst.snd.snd) ((1 : Int)) ((3 : Int))).bind fun y9 =>
        cond (y9.fst)
        (some (Sum.inl (Bool.true, ())))
        (cond (!x5)
         (some (Sum.inl (x4.fst.snd.snd == (0 : Int), ())))
         (some (Sum.inl (Bool.false, ())))))
       (cond (!x5)
        (some (Sum.inl (x4.fst.snd.snd == (0 : Int), ())))
        (some (Sum.inl (Bool.false, ())))))
      (cond (!x6)
       (cond (x4.fst.snd.fst == (0 : Int))
        (cond (x5)
         ((F54 n (x4.fst.snd.snd) ((1 : Int)) ((3 : Int))).bind fun y10 =>
          cond (y10.fst)
          (some (Sum.inl (Bool.true, ())))
          (cond (!x5)
           (some (Sum.inl (x4.fst.snd.snd == (0 : Int), ())))
           (some (Sum.inl (Bool.false, ())))))
         (cond (!x5)
          (some (Sum.inl (x4.fst.snd.snd == (0 : Int), ())))
          (some (Sum.inl (Bool.false, ())))))
        (some (Sum.inl (Bool.false, ()))))
       (some (Sum.inl (Bool.false, ())))))
     (cond (!x6)
      (cond (x4.fst.snd.fst == (0 : Int))
       (cond (x5)
        ((F54 n (x4.fst.snd.snd) ((1 : Int)) ((3 : Int))).bind fun y11 =>
         cond (y11.fst)
         (some (Sum.inl (Bool.true, ())))
         (cond (!x5)
          (some (Sum.inl (x4.fst.snd.snd == (0 : Int), ())))
          (some (Sum.inl (Bool.false, ())))))
        (cond (!x5)
         (some (Sum.inl (x4.fst.snd.snd == (0 : Int), ())))
         (some (Sum.inl (Bool.false, ())))))
       (some (Sum.inl (Bool.false, ()))))
      (some (Sum.inl (Bool.false, ())))))
    (some (Sum.inl (Bool.false, ())))
def J120_2 (n : Nat) (x1 : (Int × Int × Int) × Unit) (x2 : Bool) : Option (odens [(.ret, [(2, kB)])]) :=
    (F79 n ((x1.fst.fst, x1.fst.snd.fst, x1.fst.snd.snd))).bind fun y3 =>
    cond (y3.fst)
    (match J120_3 n (((x1.fst.fst, x1.fst.snd.fst, x1.fst.snd.snd), ())) (x2) (Bool.true) with
     | none => none
     | some (Sum.inl v12) =>
      some (Sum.inl (v12.fst, ())))
    ((F80 n ((x1.fst.fst, x1.fst.snd.fst, x1.fst.snd.snd))).bind fun y13 =>
     match J120_3 n (((x1.fst.fst, x1.fst.snd.fst, x1.fst.snd.snd), ())) (x2) (y13.fst) with
     | none => none
     | some (Sum.inl v14) =>
      some (Sum.inl (v14.fst, ())))
def F120 (n : Nat) (a0 : Int × Int × Int) : Option (rdens [.c true (.v true yD)] [.c false (.v true .bool)]) :=
  cond (a0.fst == (1 : Int))
  (match J120_2 n (((a0.fst, a0.snd.fst, a0.snd.snd), ())) (Bool.true) with
   | none => none
   | some (Sum.inl v15) =>
    some (v15.fst, ()))
  (match J120_2 n (((a0.fst, a0.snd.fst, a0.snd.snd), ())) (a0.fst == (6 : Int)) with
   | none => none
   | some (Sum.inl v16) =>
    some (v16.fst, ()))
noncomputable def con120 (n : Nat) : Con := conOf [.c true (.v true yD)] [.c false (.v true .bool)] fun x => F120 n x.1
noncomputable def tb120 (n : Nat) : Tb := ⟨tiOf Try.prog, conL [(79, con79 n), (80, con80 n), (54, con54 n)], n, [], 56, lpL [], ctL [(3, ⟨[(1, (.b 59 [(.v true yD)])), (3, kB), (4, kB)], [(.ret, [(2, kB)])], fun v => J120_3 n v.1 v.2.1 v.2.2.1⟩), (2, ⟨[(1, (.b 59 [(.v true yD)])), (3, kB)], [(.ret, [(2, kB)])], fun v => J120_2 n v.1 v.2.1⟩)], [], true⟩
noncomputable def code120 : Code := Try.f120.body.getD .skip
theorem tb120_ok (n : Nat) : (tb120 n).ok Try.prog := tbOk mixed (⟨con79_ok n, ⟨con80_ok n, ⟨con54_ok n, trivial⟩⟩⟩)
theorem blocks120 : blocks code120 = [] := by kernel_rfl
theorem ct120_2 (n : Nat) : CtOk (tb120 n) (sec code120 1).2 ⟨[(1, (.b 59 [(.v true yD)])), (3, kB)], [(.ret, [(2, kB)])], fun v => J120_2 n v.1 v.2.1⟩ := fun _ => by kernel_rfl
theorem ct120_3 (n : Nat) : CtOk (tb120 n) (sec code120 2).2 ⟨[(1, (.b 59 [(.v true yD)])), (3, kB), (4, kB)], [(.ret, [(2, kB)])], fun v => J120_3 n v.1 v.2.1 v.2.2.1⟩ := fun _ => by kernel_rfl
theorem secs120 : seconds code120 = [(some 1, (sec code120 0).2), (some 2, (sec code120 1).2), (some 3, (sec code120 2).2), (none, (sec code120 3).2)] := by kernel_rfl
theorem la120 (n : Nat) : LpAll (tb120 n) code120 := lpAll blocks120 (bl_nil) secs120 (cs_none rfl (cs_one rfl (ct120_2 n) (cs_one rfl (ct120_3 n) (cs_none rfl (cs_nil))))) (by kernel_rfl)
theorem ev120 (n : Nat) (x : pdens [.c true (.v true yD)]) : evSig (tb120 n) Try.f120 [.c true (.v true yD)] [.c false (.v true .bool)] x = F120 n x.1 := by kernel_rfl
theorem con120_ok (n : Nat) : Con.ok Try.prog 120 (con120 n) := conOf_ok (tb120_ok n) (body_la (by kernel_rfl : Try.f120.body = some code120) (la120 n)) Try.func120 (enters Try.func120 (by kernel_rfl) (by kernel_rfl)) rfl rfl (ev120 n)
/-! ### loop.example/fathomline/spec.l1Thread -/
def J78_12 (n : Nat) (x11 : List (Int × Int × Int)) (x12 : Bool) (x13 : Bool) (x14 : Int) (x15 : (Int × Int × Int) × Unit) : Option (odens [(.normal, [(0, (.c false (.v false (.rs 59 yD)))), (3, kB), (4, kB), (5, kI)])]) :=
    cond (x15.fst.fst == (7 : Int))
    (some (Sum.inl (x11, x12, Bool.true, x14, ())))
    (cond (x15.fst.fst == (8 : Int))
     (some (Sum.inl (x11, x12, Bool.false, x14, ())))
     (some (Sum.inl (x11, x12, x13, x14, ()))))
def J78_11 (n : Nat) (x6 : List (Int × Int × Int)) (x7 : Bool) (x8 : Bool) (x9 : Int) (x10 : (Int × Int × Int) × Unit) : Option (odens [(.normal, [(0, (.c false (.v false (.rs 59 yD)))), (3, kB), (4, kB), (5, kI)])]) :=
    cond (x7)
    (match J78_12 n (x6) (Bool.true) (x8) (x9) (((x10.fst.fst, x10.fst.snd.fst, x10.fst.snd.snd), ())) with
     | none => none
     | some (Sum.inl v16) =>
      some (Sum.inl (v16.fst, v16.snd.fst, v16.snd.snd.fst, v16.snd.snd.snd.fst, ())))
    ((F79 n ((x10.fst.fst, x10.fst.snd.fst, x10.fst.snd.snd))).bind fun y17 =>
     match J78_12 n (x6) (y17.fst) (x8) (x9) (((x10.fst.fst, x10.fst.snd.fst, x10.fst.snd.snd), ())) with
     | none => none
     | some (Sum.inl v18) =>
      some (Sum.inl (v18.fst, v18.snd.fst, v18.snd.snd.fst, v18.snd.snd.snd.fst, ())))
def J78_7 (n : Nat) (x20 : List (Int × Int × Int)) (x21 : Bool) (x22 : Bool) (x23 : Int) : Option (odens [(.normal, [(0, (.c false (.v false (.rs 59 yD)))), (3, kB), (4, kB), (5, kI)])]) :=
    some (Sum.inl (x20, x21, x22, Go.IntKind.i64.wrap (x23 + (1 : Int)), ()))
def L78_0 (n : Nat) : Nat → List (Int × Int × Int) → Bool → Bool → Int → Option (odens [(.ret, [(2, kB)]), ((.exit 0), [(4, kB)])])
  | 0, _, _, _, _ => none
  | m + 1, x1, x2, x3, x4 =>
    cond (Decidable.decide (x4 < (↑x1.length : Int)))
    (if (0 : Int) ≤ x4 then
     if x4 < (↑x1.length : Int) then
     (F120 n (((x1.getD x4.toNat ((0 : Int), (0 : Int), (0 : Int))).fst, (x1.getD x4.toNat ((0 : Int), (0 : Int), (0 : Int))).snd.fst, (x1.getD x4.toNat ((0 : Int), (0 : Int), (0 : Int))).snd.snd))).bind fun y5 =>
     cond (!y5.fst)
     (some (Sum.inl (Bool.false, ())))
     (cond ((x1.getD x4.toNat ((0 : Int), (0 : Int), (0 : Int))).fst == (3 : Int))
      (cond (!x2)
       (some (Sum.inl (Bool.false, ())))
       (cond ((x1.getD x4.toNat ((0 : Int), (0 : Int), (0 : Int))).fst == (7 : Int))
        (cond (x3)
         (some (Sum.inl (Bool.false, ())))
         (cond ((x1.getD x4.toNat ((0 : Int), (0 : Int), (0 : Int))).fst == (8 : Int))
          (cond (!x3)
           (some (Sum.inl (Bool.false, ())))
           (cond ((x1.getD x4.toNat ((0 : Int), (0 : Int), (0 : Int))).fst == (9 : Int))
            (cond (x3)
             (some (Sum.inl (Bool.false, ())))
             (match J78_11 n (x1) (x2) (x3) (x4) ((((x1.getD x4.toNat ((0 : Int), (0 : Int), (0 : Int))).fst, (x1.getD x4.toNat ((0 : Int), (0 : Int), (0 : Int))).snd.fst, (x1.getD x4.toNat ((0 : Int), (0 : Int), (0 : Int))).snd.snd), ())) with
              | none => none
              | some (Sum.inl v19) =>
               match J78_7 n (v19.fst) (v19.snd.fst) (v19.snd.snd.fst) (v19.snd.snd.snd.fst) with
               | none => none
               | some (Sum.inl v24) =>
                L78_0 n m (v24.fst) (v24.snd.fst) (v24.snd.snd.fst) (v24.snd.snd.snd.fst)))
            (match J78_11 n (x1) (x2) (x3) (x4) ((((x1.getD x4.toNat ((0 : Int), (0 : Int), (0 : Int))).fst, (x1.getD x4.toNat ((0 : Int), (0 : Int), (0 : Int))).snd.fst, (x1.getD x4.toNat ((0 : Int), (0 : Int), (0 : Int))).snd.snd), ())) with
             | none => none
             | some (Sum.inl v25) =>
              match J78_7 n (v25.fst) (v25.snd.fst) (v25.snd.snd.fst) (v25.snd.snd.snd.fst) with
              | none => none
              | some (Sum.inl v26) =>
               L78_0 n m (v26.fst) (v26.snd.fst) (v26.snd.snd.fst) (v26.snd.snd.snd.fst))))
          (cond ((x1.getD x4.toNat ((0 : Int), (0 : Int), (0 : Int))).fst == (9 : Int))
           (cond (x3)
            (some (Sum.inl (Bool.false, ())))
            (match J78_11 n (x1) (x2) (x3) (x4) ((((x1.getD x4.toNat ((0 : Int), (0 : Int), (0 : Int))).fst, (x1.getD x4.toNat ((0 : Int), (0 : Int), (0 : Int))).snd.fst, (x1.getD x4.toNat ((0 : Int), (0 : Int), (0 : Int))).snd.snd), ())) with
             | none => none
             | some (Sum.inl v27) =>
              match J78_7 n (v27.fst) (v27.snd.fst) (v27.snd.snd.fst) (v27.snd.snd.snd.fst) with
              | none => none
              | some (Sum.inl v28) =>
               L78_0 n m (v28.fst) (v28.snd.fst) (v28.snd.snd.fst) (v28.snd.snd.snd.fst)))
           (match J78_11 n (x1) (x2) (x3) (x4) ((((x1.getD x4.toNat ((0 : Int), (0 : Int), (0 : Int))).fst, (x1.getD x4.toNat ((0 : Int), (0 : Int), (0 : Int))).snd.fst, (x1.getD x4.toNat ((0 : Int), (0 : Int), (0 : Int))).snd.snd), ())) with
            | none => none
            | some (Sum.inl v29) =>
             match J78_7 n (v29.fst) (v29.snd.fst) (v29.snd.snd.fst) (v29.snd.snd.snd.fst) with
             | none => none
             | some (Sum.inl v30) =>
              L78_0 n m (v30.fst) (v30.snd.fst) (v30.snd.snd.fst) (v30.snd.snd.snd.fst)))))
        (cond ((x1.getD x4.toNat ((0 : Int), (0 : Int), (0 : Int))).fst == (8 : Int))
         (cond (!x3)
          (some (Sum.inl (Bool.false, ())))
          (cond ((x1.getD x4.toNat ((0 : Int), (0 : Int), (0 : Int))).fst == (9 : Int))
           (cond (x3)
            (some (Sum.inl (Bool.false, ())))
            (match J78_11 n (x1) (x2) (x3) (x4) ((((x1.getD x4.toNat ((0 : Int), (0 : Int), (0 : Int))).fst, (x1.getD x4.toNat ((0 : Int), (0 : Int), (0 : Int))).snd.fst, (x1.getD x4.toNat ((0 : Int), (0 : Int), (0 : Int))).snd.snd), ())) with
             | none => none
             | some (Sum.inl v31) =>
              match J78_7 n (v31.fst) (v31.snd.fst) (v31.snd.snd.fst) (v31.snd.snd.snd.fst) with
              | none => none
              | some (Sum.inl v32) =>
               L78_0 n m (v32.fst) (v32.snd.fst) (v32.snd.snd.fst) (v32.snd.snd.snd.fst)))
           (match J78_11 n (x1) (x2) (x3) (x4) ((((x1.getD x4.toNat ((0 : Int), (0 : Int), (0 : Int))).fst, (x1.getD x4.toNat ((0 : Int), (0 : Int), (0 : Int))).snd.fst, (x1.getD x4.toNat ((0 : Int), (0 : Int), (0 : Int))).snd.snd), ())) with
            | none => none
            | some (Sum.inl v33) =>
             match J78_7 n (v33.fst) (v33.snd.fst) (v33.snd.snd.fst) (v33.snd.snd.snd.fst) with
             | none => none
             | some (Sum.inl v34) =>
              L78_0 n m (v34.fst) (v34.snd.fst) (v34.snd.snd.fst) (v34.snd.snd.snd.fst))))
         (cond ((x1.getD x4.toNat ((0 : Int), (0 : Int), (0 : Int))).fst == (9 : Int))
          (cond (x3)
           (some (Sum.inl (Bool.false, ())))
           (match J78_11 n (x1) (x2) (x3) (x4) ((((x1.getD x4.toNat ((0 : Int), (0 : Int), (0 : Int))).fst, (x1.getD x4.toNat ((0 : Int), (0 : Int), (0 : Int))).snd.fst, (x1.getD x4.toNat ((0 : Int), (0 : Int), (0 : Int))).snd.snd), ())) with
            | none => none
            | some (Sum.inl v35) =>
             match J78_7 n (v35.fst) (v35.snd.fst) (v35.snd.snd.fst) (v35.snd.snd.snd.fst) with
             | none => none
             | some (Sum.inl v36) =>
              L78_0 n m (v36.fst) (v36.snd.fst) (v36.snd.snd.fst) (v36.snd.snd.snd.fst)))
          (match J78_11 n (x1) (x2) (x3) (x4) ((((x1.getD x4.toNat ((0 : Int), (0 : Int), (0 : Int))).fst, (x1.getD x4.toNat ((0 : Int), (0 : Int), (0 : Int))).snd.fst, (x1.getD x4.toNat ((0 : Int), (0 : Int), (0 : Int))).snd.snd), ())) with
           | none => none
           | some (Sum.inl v37) =>
            match J78_7 n (v37.fst) (v37.snd.fst) (v37.snd.snd.fst) (v37.snd.snd.snd.fst) with
            | none => none
            | some (Sum.inl v38) =>
             L78_0 n m (v38.fst) (v38.snd.fst) (v38.snd.snd.fst) (v38.snd.snd.snd.fst))))))
      (cond ((x1.getD x4.toNat ((0 : Int), (0 : Int), (0 : Int))).fst == (7 : Int))
       (cond (x3)
        (some (Sum.inl (Bool.false, ())))
        (cond ((x1.getD x4.toNat ((0 : Int), (0 : Int), (0 : Int))).fst == (8 : Int))
         (cond (!x3)
          (some (Sum.inl (Bool.false, ())))
          (cond ((x1.getD x4.toNat ((0 : Int), (0 : Int), (0 : Int))).fst == (9 : Int))
           (cond (x3)
            (some (Sum.inl (Bool.false, ())))
            (match J78_11 n (x1) (x2) (x3) (x4) ((((x1.getD x4.toNat ((0 : Int), (0 : Int), (0 : Int))).fst, (x1.getD x4.toNat ((0 : Int), (0 : Int), (0 : Int))).snd.fst, (x1.getD x4.toNat ((0 : Int), (0 : Int), (0 : Int))).snd.snd), ())) with
             | none => none
             | some (Sum.inl v39) =>
              match J78_7 n (v39.fst) (v39.snd.fst) (v39.snd.snd.fst) (v39.snd.snd.snd.fst) with
              | none => none
              | some (Sum.inl v40) =>
               L78_0 n m (v40.fst) (v40.snd.fst) (v40.snd.snd.fst) (v40.snd.snd.snd.fst)))
           (match J78_11 n (x1) (x2) (x3) (x4) ((((x1.getD x4.toNat ((0 : Int), (0 : Int), (0 : Int))).fst, (x1.getD x4.toNat ((0 : Int), (0 : Int), (0 : Int))).snd.fst, (x1.getD x4.toNat ((0 : Int), (0 : Int), (0 : Int))).snd.snd), ())) with
            | none => none
            | some (Sum.inl v41) =>
             match J78_7 n (v41.fst) (v41.snd.fst) (v41.snd.snd.fst) (v41.snd.snd.snd.fst) with
             | none => none
             | some (Sum.inl v42) =>
              L78_0 n m (v42.fst) (v42.snd.fst) (v42.snd.snd.fst) (v42.snd.snd.snd.fst))))
         (cond ((x1.getD x4.toNat ((0 : Int), (0 : Int), (0 : Int))).fst == (9 : Int))
          (cond (x3)
           (some (Sum.inl (Bool.false, ())))
           (match J78_11 n (x1) (x2) (x3) (x4) ((((x1.getD x4.toNat ((0 : Int), (0 : Int), (0 : Int))).fst, (x1.getD x4.toNat ((0 : Int), (0 : Int), (0 : Int))).snd.fst, (x1.getD x4.toNat ((0 : Int), (0 : Int), (0 : Int))).snd.snd), ())) with
            | none => none
            | some (Sum.inl v43) =>
             match J78_7 n (v43.fst) (v43.snd.fst) (v43.snd.snd.fst) (v43.snd.snd.snd.fst) with
             | none => none
             | some (Sum.inl v44) =>
              L78_0 n m (v44.fst) (v44.snd.fst) (v44.snd.snd.fst) (v44.snd.snd.snd.fst)))
          (match J78_11 n (x1) (x2) (x3) (x4) ((((x1.getD x4.toNat ((0 : Int), (0 : Int), (0 : Int))).fst, (x1.getD x4.toNat ((0 : Int), (0 : Int), (0 : Int))).snd.fst, (x1.getD x4.toNat ((0 : Int), (0 : Int), (0 : Int))).snd.snd), ())) with
           | none => none
           | some (Sum.inl v45) =>
            match J78_7 n (v45.fst) (v45.snd.fst) (v45.snd.snd.fst) (v45.snd.snd.snd.fst) with
            | none => none
            | some (Sum.inl v46) =>
             L78_0 n m (v46.fst) (v46.snd.fst) (v46.snd.snd.fst) (v46.snd.snd.snd.fst)))))
       (cond ((x1.getD x4.toNat ((0 : Int), (0 : Int), (0 : Int))).fst == (8 : Int))
        (cond (!x3)
         (some (Sum.inl (Bool.false, ())))
         (cond ((x1.getD x4.toNat ((0 : Int), (0 : Int), (0 : Int))).fst == (9 : Int))
          (cond (x3)
           (some (Sum.inl (Bool.false, ())))
           (match J78_11 n (x1) (x2) (x3) (x4) ((((x1.getD x4.toNat ((0 : Int), (0 : Int), (0 : Int))).fst, (x1.getD x4.toNat ((0 : Int), (0 : Int), (0 : Int))).snd.fst, (x1.getD x4.toNat ((0 : Int), (0 : Int), (0 : Int))).snd.snd), ())) with
            | none => none
            | some (Sum.inl v47) =>
             match J78_7 n (v47.fst) (v47.snd.fst) (v47.snd.snd.fst) (v47.snd.snd.snd.fst) with
             | none => none
             | some (Sum.inl v48) =>
              L78_0 n m (v48.fst) (v48.snd.fst) (v48.snd.snd.fst) (v48.snd.snd.snd.fst)))
          (match J78_11 n (x1) (x2) (x3) (x4) ((((x1.getD x4.toNat ((0 : Int), (0 : Int), (0 : Int))).fst, (x1.getD x4.toNat ((0 : Int), (0 : Int), (0 : Int))).snd.fst, (x1.getD x4.toNat ((0 : Int), (0 : Int), (0 : Int))).snd.snd), ())) with
           | none => none
           | some (Sum.inl v49) =>
            match J78_7 n (v49.fst) (v49.snd.fst) (v49.snd.snd.fst) (v49.snd.snd.snd.fst) with
            | none => none
            | some (Sum.inl v50) =>
             L78_0 n m (v50.fst) (v50.snd.fst) (v50.snd.snd.fst) (v50.snd.snd.snd.fst))))
        (cond ((x1.getD x4.toNat ((0 : Int), (0 : Int), (0 : Int))).fst == (9 : Int))
         (cond (x3)
          (some (Sum.inl (Bool.false, ())))
          (match J78_11 n (x1) (x2) (x3) (x4) ((((x1.getD x4.toNat ((0 : Int), (0 : Int), (0 : Int))).fst, (x1.getD x4.toNat ((0 : Int), (0 : Int), (0 : Int))).snd.fst, (x1.getD x4.toNat ((0 : Int), (0 : Int), (0 : Int))).snd.snd), ())) with
           | none => none
           | some (Sum.inl v51) =>
            match J78_7 n (v51.fst) (v51.snd.fst) (v51.snd.snd.fst) (v51.snd.snd.snd.fst) with
            | none => none
            | some (Sum.inl v52) =>
             L78_0 n m (v52.fst) (v52.snd.fst) (v52.snd.snd.fst) (v52.snd.snd.snd.fst)))
         (match J78_11 n (x1) (x2) (x3) (x4) ((((x1.getD x4.toNat ((0 : Int), (0 : Int), (0 : Int))).fst, (x1.getD x4.toNat ((0 : Int), (0 : Int), (0 : Int))).snd.fst, (x1.getD x4.toNat ((0 : Int), (0 : Int), (0 : Int))).snd.snd), ())) with
          | none => none
          | some (Sum.inl v53) =>
           match J78_7 n (v53.fst) (v53.snd.fst) (v53.snd.snd.fst) (v53.snd.snd.snd.fst) with
           | none => none
           | some (Sum.inl v54) =>
            L78_0 n m (v54.fst) (v54.snd.fst) (v54.snd.snd.fst) (v54.snd.snd.snd.fst))))))
     else none
     else none)
    (some (Sum.inr (Sum.inl (x3, ()))))
def F78 (n : Nat) (a0 : List (Int × Int × Int)) : Option (rdens [.c false (.v false (.rs 59 yD))] [.c false (.v true .bool)]) :=
  cond (Decidable.decide ((↑a0.length : Int) > (7 : Int)))
  (some (Bool.false, ()))
  (match L78_0 n n (a0) (Bool.false) (Bool.false) ((0 : Int)) with
   | none => none
   | some (Sum.inl v55) =>
    some (v55.fst, ())
   | some (Sum.inr (Sum.inl v56)) =>
    some (!v56.fst, ()))
noncomputable def con78 (n : Nat) : Con := conOf [.c false (.v false (.rs 59 yD))] [.c false (.v true .bool)] fun x => F78 n x.1
noncomputable def tb78 (n : Nat) : Tb := ⟨tiOf Try.prog, conL [(120, con120 n), (79, con79 n)], n, [], 70, lpL [(0, ⟨[(0, (.c false (.v false (.rs 59 yD)))), (3, kB), (4, kB), (5, kI)], [(.ret, [(2, kB)]), ((.exit 0), [(4, kB)])], fun m v => L78_0 n m v.1 v.2.1 v.2.2.1 v.2.2.2.1⟩)], ctL [(12, ⟨[(0, (.c false (.v false (.rs 59 yD)))), (3, kB), (4, kB), (5, kI), (6, (.b 59 [(.v true yD)]))], [(.normal, [(0, (.c false (.v false (.rs 59 yD)))), (3, kB), (4, kB), (5, kI)])], fun v => J78_12 n v.1 v.2.1 v.2.2.1 v.2.2.2.1 v.2.2.2.2.1⟩), (11, ⟨[(0, (.c false (.v false (.rs 59 yD)))), (3, kB), (4, kB), (5, kI), (6, (.b 59 [(.v true yD)]))], [(.normal, [(0, (.c false (.v false (.rs 59 yD)))), (3, kB), (4, kB), (5, kI)])], fun v => J78_11 n v.1 v.2.1 v.2.2.1 v.2.2.2.1 v.2.2.2.2.1⟩), (7, ⟨[(0, (.c false (.v false (.rs 59 yD)))), (3, kB), (4, kB), (5, kI)], [(.normal, [(0, (.c false (.v false (.rs 59 yD)))), (3, kB), (4, kB), (5, kI)])], fun v => J78_7 n v.1 v.2.1 v.2.2.1 v.2.2.2.1⟩)], [], true⟩
noncomputable def code78 : Code := Try.f78.body.getD .skip
theorem tb78_ok (n : Nat) : (tb78 n).ok Try.prog := tbOk mixed (⟨con120_ok n, ⟨con79_ok n, trivial⟩⟩)
theorem lp78_0 (n : Nat) : LpAt (tb78 n) (loopBody code78 0) 0 := lpAt rfl (fun _ => by kernel_rfl) (fun _ _ => by kernel_rfl)
theorem blocks78 : blocks code78 = [(0, .loop (loopBody code78 0)), (1, blockBody code78 1), (2, blockBody code78 2)] := by kernel_rfl
theorem ct78_7 (n : Nat) : CtOk (tb78 n) (sec code78 10).2 ⟨[(0, (.c false (.v false (.rs 59 yD)))), (3, kB), (4, kB), (5, kI)], [(.normal, [(0, (.c false (.v false (.rs 59 yD)))), (3, kB), (4, kB), (5, kI)])], fun v => J78_7 n v.1 v.2.1 v.2.2.1 v.2.2.2.1⟩ := fun _ => by kernel_rfl
theorem ct78_11 (n : Nat) : CtOk (tb78 n) (sec code78 12).2 ⟨[(0, (.c false (.v false (.rs 59 yD)))), (3, kB), (4, kB), (5, kI), (6, (.b 59 [(.v true yD)]))], [(.normal, [(0, (.c false (.v false (.rs 59 yD)))), (3, kB), (4, kB), (5, kI)])], fun v => J78_11 n v.1 v.2.1 v.2.2.1 v.2.2.2.1 v.2.2.2.2.1⟩ := fun _ => by kernel_rfl
theorem ct78_12 (n : Nat) : CtOk (tb78 n) (sec code78 15).2 ⟨[(0, (.c false (.v false (.rs 59 yD)))), (3, kB), (4, kB), (5, kI), (6, (.b 59 [(.v true yD)]))], [(.normal, [(0, (.c false (.v false (.rs 59 yD)))), (3, kB), (4, kB), (5, kI)])], fun v => J78_12 n v.1 v.2.1 v.2.2.1 v.2.2.2.1 v.2.2.2.2.1⟩ := fun _ => by kernel_rfl
theorem secs78 : seconds code78 = [(some 1, (sec code78 0).2), (some 3, (sec code78 1).2), (none, (sec code78 2).2), (none, (sec code78 3).2), (some 4, (sec code78 4).2), (some 5, (sec code78 5).2), (some 17, (sec code78 6).2), (some 6, (sec code78 7).2), (some 8, (sec code78 8).2), (none, (sec code78 9).2), (some 7, (sec code78 10).2), (some 9, (sec code78 11).2), (some 11, (sec code78 12).2), (none, (sec code78 13).2), (none, (sec code78 14).2), (some 12, (sec code78 15).2), (some 13, (sec code78 16).2), (none, (sec code78 17).2), (none, (sec code78 18).2), (none, (sec code78 19).2)] := by kernel_rfl
theorem la78 (n : Nat) : LpAll (tb78 n) code78 := lpAll blocks78 (bl_loop (lp78_0 n) (bl_none rfl (bl_none rfl (bl_nil)))) secs78 (cs_none rfl (cs_none rfl (cs_none rfl (cs_none rfl (cs_none rfl (cs_none rfl (cs_none rfl (cs_none rfl (cs_none rfl (cs_none rfl (cs_one rfl (ct78_7 n) (cs_none rfl (cs_one rfl (ct78_11 n) (cs_none rfl (cs_none rfl (cs_one rfl (ct78_12 n) (cs_none rfl (cs_none rfl (cs_none rfl (cs_none rfl (cs_nil))))))))))))))))))))) (by kernel_rfl)
theorem ev78 (n : Nat) (x : pdens [.c false (.v false (.rs 59 yD))]) : evSig (tb78 n) Try.f78 [.c false (.v false (.rs 59 yD))] [.c false (.v true .bool)] x = F78 n x.1 := by kernel_rfl
theorem con78_ok (n : Nat) : Con.ok Try.prog 78 (con78 n) := conOf_ok (tb78_ok n) (body_la (by kernel_rfl : Try.f78.body = some code78) (la78 n)) Try.func78 (enters Try.func78 (by kernel_rfl) (by kernel_rfl)) rfl rfl (ev78 n)
/-! ### loop.example/fathomline/spec.ProgOk -/
def J36_13 (n : Nat) (x12 : List (List (Int × Int × Int)) × Unit) (x13 : Int) (x14 : Int) (x15 : Int) (x16 : Int) : Option (odens [(.normal, [(1, (.b 33 [(.v false yP)])), (3, kI), (4, kI), (5, kI), (6, kI)])]) :=
    some (Sum.inl ((x12.fst, ()), x13, x14, x15, Go.IntKind.i64.wrap (x16 + (1 : Int)), ()))
def L36_2 (n : Nat) : Nat → List (List (Int × Int × Int)) × Unit → Int → Int → Int → Int → Option (odens [((.exit 2), [(1, (.b 33 [(.v false yP)])), (3, kI), (4, kI), (5, kI)])])
  | 0, _, _, _, _, _ => none
  | m + 1, x6, x7, x8, x9, x10 =>
    if (0 : Int) ≤ x9 then
    if x9 < (↑(List.length x6.fst) : Int) then
    cond (Decidable.decide (x10 < (↑(List.length (List.getD x6.fst x9.toNat [])) : Int)))
    (if (0 : Int) ≤ x9 then
     if x9 < (↑(List.length x6.fst) : Int) then
     if (0 : Int) ≤ x10 then
     if x10 < (↑(List.length (List.getD x6.fst x9.toNat [])) : Int) then
     (F79 n (((List.getD (List.getD x6.fst x9.toNat []) x10.toNat ((0 : Int), (0 : Int), (0 : Int))).fst, (List.getD (List.getD x6.fst x9.toNat []) x10.toNat ((0 : Int), (0 : Int), (0 : Int))).snd.fst, (List.getD (List.getD x6.fst x9.toNat []) x10.toNat ((0 : Int), (0 : Int), (0 : Int))).snd.snd))).bind fun y11 =>
     cond (y11.fst)
     (match J36_13 n ((x6.fst, ())) (x7) (Go.IntKind.i64.wrap (x8 + (1 : Int))) (x9) (x10) with
      | none => none
      | some (Sum.inl v17) =>
       L36_2 n m ((v17.fst.fst, ())) (v17.snd.fst) (v17.snd.snd.fst) (v17.snd.snd.snd.fst) (v17.snd.snd.snd.snd.fst))
     (if (0 : Int) ≤ x9 then
      if x9 < (↑(List.length x6.fst) : Int) then
      if (0 : Int) ≤ x10 then
      if x10 < (↑(List.length (List.getD x6.fst x9.toNat [])) : Int) then
      (F80 n (((List.getD (List.getD x6.fst x9.toNat []) x10.toNat ((0 : Int), (0 : Int), (0 : Int))).fst, (List.getD (List.getD x6.fst x9.toNat []) x10.toNat ((0 : Int), (0 : Int), (0 : Int))).snd.fst, (List.getD (List.getD x6.fst x9.toNat []) x10.toNat ((0 : Int), (0 : Int), (0 : Int))).snd.snd))).bind fun y18 =>
      cond (y18.fst)
      (match J36_13 n ((x6.fst, ())) (x7) (Go.IntKind.i64.wrap (x8 + (1 : Int))) (x9) (x10) with
       | none => none
       | some (Sum.inl v19) =>
        L36_2 n m ((v19.fst.fst, ())) (v19.snd.fst) (v19.snd.snd.fst) (v19.snd.snd.snd.fst) (v19.snd.snd.snd.snd.fst))
      (match J36_13 n ((x6.fst, ())) (x7) (x8) (x9) (x10) with
       | none => none
       | some (Sum.inl v20) =>
        L36_2 n m ((v20.fst.fst, ())) (v20.snd.fst) (v20.snd.snd.fst) (v20.snd.snd.snd.fst) (v20.snd.snd.snd.snd.fst))
      else none
      else none
      else none
      else none)
     else none
     else none
     else none
     else none)
    (some (Sum.inl ((x6.fst, ()), x7, x8, x9, ())))
    else none
    else none
def L36_0 (n : Nat) : Nat → List (List (Int × Int × Int)) × Unit → Int → Int → Int → Option (odens [(.ret, [(2, kB)]), ((.exit 0), [(3, kI), (4, kI)])])
  | 0, _, _, _, _ => none
  | m + 1, x1, x2, x3, x4 =>
    cond (Decidable.decide (x4 < (↑(List.length x1.fst) : Int)))
    (if (0 : Int) ≤ x4 then
     if x4 < (↑(List.length x1.fst) : Int) then
     (F78 n (List.getD x1.fst x4.toNat [])).bind fun y5 =>
     cond (!y5.fst)
     (some (Sum.inl (Bool.false, ())))
     (if (0 : Int) ≤ x4 then
      if x4 < (↑(List.length x1.fst) : Int) then
      match L36_2 n n ((x1.fst, ())) (Go.IntKind.i64.wrap (x2 + (↑(List.length (List.getD x1.fst x4.toNat [])) : Int))) (x3) (x4) ((0 : Int)) with
      | none => none
      | some (Sum.inl v21) =>
       L36_0 n m ((v21.fst.fst, ())) (v21.snd.fst) (v21.snd.snd.fst) (Go.IntKind.i64.wrap (v21.snd.snd.snd.fst + (1 : Int)))
      else none
      else none)
     else none
     else none)
    (some (Sum.inr (Sum.inl (x2, x3, ()))))
def F36 (n : Nat) (a0 : List (List (Int × Int × Int))) : Option (rdens [.c true (.v false yP)] [.c false (.v true .bool)]) :=
  cond (Decidable.decide ((↑a0.length : Int) > (3 : Int)))
  (some (Bool.false, ()))
  (match L36_0 n n ((a0, ())) ((0 : Int)) ((0 : Int)) ((0 : Int)) with
   | none => none
   | some (Sum.inl v22) =>
    some (v22.fst, ())
   | some (Sum.inr (Sum.inl v23)) =>
    cond (Decidable.decide (v23.fst ≤ (14 : Int)))
    (some (Decidable.decide (v23.snd.fst ≤ (6 : Int)), ()))
    (some (Bool.false, ())))
noncomputable def con36 (n : Nat) : Con := conOf [.c true (.v false yP)] [.c false (.v true .bool)] fun x => F36 n x.1
noncomputable def tb36 (n : Nat) : Tb := ⟨tiOf Try.prog, conL [(78, con78 n), (79, con79 n), (80, con80 n)], n, [], 71, lpL [(2, ⟨[(1, (.b 33 [(.v false yP)])), (3, kI), (4, kI), (5, kI), (6, kI)], [((.exit 2), [(1, (.b 33 [(.v false yP)])), (3, kI), (4, kI), (5, kI)])], fun m v => L36_2 n m v.1 v.2.1 v.2.2.1 v.2.2.2.1 v.2.2.2.2.1⟩), (0, ⟨[(1, (.b 33 [(.v false yP)])), (3, kI), (4, kI), (5, kI)], [(.ret, [(2, kB)]), ((.exit 0), [(3, kI), (4, kI)])], fun m v => L36_0 n m v.1 v.2.1 v.2.2.1 v.2.2.2.1⟩)], ctL [(13, ⟨[(1, (.b 33 [(.v false yP)])), (3, kI), (4, kI), (5, kI), (6, kI)], [(.normal, [(1, (.b 33 [(.v false yP)])), (3, kI), (4, kI), (5, kI), (6, kI)])], fun v => J36_13 n v.1 v.2.1 v.2.2.1 v.2.2.2.1 v.2.2.2.2.1⟩)], [], true⟩
noncomputable def code36 : Code := Try.f36.body.getD .skip
theorem tb36_ok (n : Nat) : (tb36 n).ok Try.prog := tbOk mixed (⟨con78_ok n, ⟨con79_ok n, ⟨con80_ok n, trivial⟩⟩⟩)
theorem lp36_2 (n : Nat) : LpAt (tb36 n) (loopBody code36 2) 2 := lpAt rfl (fun _ => by kernel_rfl) (fun _ _ => by kernel_rfl)
theorem lp36_0 (n : Nat) : LpAt (tb36 n) (loopBody code36 0) 0 := lpAt rfl (fun _ => by kernel_rfl) (fun _ _ => by kernel_rfl)
theorem blocks36 : blocks code36 = [(0, .loop (loopBody code36 0)), (1, blockBody code36 1), (2, .loop (loopBody code36 2)), (3, blockBody code36 3)] := by kernel_rfl
theorem ct36_13 (n : Nat) : CtOk (tb36 n) (sec code36 18).2 ⟨[(1, (.b 33 [(.v false yP)])), (3, kI), (4, kI), (5, kI), (6, kI)], [(.normal, [(1, (.b 33 [(.v false yP)])), (3, kI), (4, kI), (5, kI), (6, kI)])], fun v => J36_13 n v.1 v.2.1 v.2.2.1 v.2.2.2.1 v.2.2.2.2.1⟩ := fun _ => by kernel_rfl
theorem secs36 : seconds code36 = [(some 1, (sec code36 0).2), (some 3, (sec code36 1).2), (none, (sec code36 2).2), (none, (sec code36 3).2), (some 4, (sec code36 4).2), (some 5, (sec code36 5).2), (some 16, (sec code36 6).2), (some 6, (sec code36 7).2), (some 8, (sec code36 8).2), (none, (sec code36 9).2), (some 7, (sec code36 10).2), (some 10, (sec code36 11).2), (none, (sec code36 12).2), (none, (sec code36 13).2), (some 11, (sec code36 14).2), (some 12, (sec code36 15).2), (some 14, (sec code36 16).2), (none, (sec code36 17).2), (some 13, (sec code36 18).2), (none, (sec code36 19).2), (none, (sec code36 20).2)] := by kernel_rfl
theorem la36 (n : Nat) : LpAll (tb36 n) code36 := lpAll blocks36 (bl_loop (lp36_0 n) (bl_none rfl (bl_loop (lp36_2 n) (bl_none rfl (bl_nil))))) secs36 (cs_none rfl (cs_none rfl (cs_none rfl (cs_none rfl (cs_none rfl (cs_none rfl (cs_none rfl (cs_none rfl (cs_none rfl (cs_none rfl (cs_none rfl (cs_none rfl (cs_none rfl (cs_none rfl (cs_none rfl (cs_none rfl (cs_none rfl (cs_none rfl (cs_one rfl (ct36_13 n) (cs_none rfl (cs_none rfl (cs_nil)))))))))))))))))))))) (by kernel_rfl)
theorem ev36 (n : Nat) (x : pdens [.c true (.v false yP)]) : evSig (tb36 n) Try.f36 [.c true (.v false yP)] [.c false (.v true .bool)] x = F36 n x.1 := by kernel_rfl
theorem con36_ok (n : Nat) : Con.ok Try.prog 36 (con36 n) := conOf_ok (tb36_ok n) (body_la (by kernel_rfl : Try.f36.body = some code36) (la36 n)) Try.func36 (enters Try.func36 (by kernel_rfl) (by kernel_rfl)) rfl rfl (ev36 n)
/-! ### (loop.example/fathomline/impl.Do).reads -/
def F121 (n : Nat) (a0 : Int × Int × Int) : Option (rdens [.c true (.v true yD)] [.c false (.v true .bool)]) :=
  cond (a0.fst == (2 : Int))
  (some (Bool.true, ()))
  (some (a0.fst == (5 : Int), ()))
noncomputable def con121 (n : Nat) : Con := conOf [.c true (.v true yD)] [.c false (.v true .bool)] fun x => F121 n x.1
noncomputable def tb121 (n : Nat) : Tb := ⟨tiOf Try.prog, conL [], n, [], 11, lpL [], ctL [], [], true⟩
noncomputable def code121 : Code := Try.f121.body.getD .skip
theorem tb121_ok (n : Nat) : (tb121 n).ok Try.prog := tbOk mixed (trivial)
theorem blocks121 : blocks code121 = [] := by kernel_rfl
theorem la121 (n : Nat) : LpAll (tb121 n) code121 := lpAll blocks121 (bl_nil) rfl (cs_no fun _ => rfl) (by kernel_rfl)
theorem ev121 (n : Nat) (x : pdens [.c true (.v true yD)]) : evSig (tb121 n) Try.f121 [.c true (.v true yD)] [.c false (.v true .bool)] x = F121 n x.1 := by kernel_rfl
theorem con121_ok (n : Nat) : Con.ok Try.prog 121 (con121 n) := conOf_ok (tb121_ok n) (body_la (by kernel_rfl : Try.f121.body = some code121) (la121 n)) Try.func121 (enters Try.func121 (by kernel_rfl) (by kernel_rfl)) rfl rfl (ev121 n)
/-! ### (loop.example/fathomline/impl.Do).writes -/
def F124 (n : Nat) (a0 : Int × Int × Int) : Option (rdens [.c true (.v true yD)] [.c false (.v true .bool)]) :=
  cond (a0.fst == (1 : Int))
  (some (Bool.true, ()))
  (cond (a0.fst == (3 : Int))
   (some (Bool.true, ()))
   (some (a0.fst == (6 : Int), ())))
noncomputable def con124 (n : Nat) : Con := conOf [.c true (.v true yD)] [.c false (.v true .bool)] fun x => F124 n x.1
noncomputable def tb124 (n : Nat) : Tb := ⟨tiOf Try.prog, conL [], n, [], 16, lpL [], ctL [], [], true⟩
noncomputable def code124 : Code := Try.f124.body.getD .skip
theorem tb124_ok (n : Nat) : (tb124 n).ok Try.prog := tbOk mixed (trivial)
theorem blocks124 : blocks code124 = [] := by kernel_rfl
theorem la124 (n : Nat) : LpAll (tb124 n) code124 := lpAll blocks124 (bl_nil) rfl (cs_no fun _ => rfl) (by kernel_rfl)
theorem ev124 (n : Nat) (x : pdens [.c true (.v true yD)]) : evSig (tb124 n) Try.f124 [.c true (.v true yD)] [.c false (.v true .bool)] x = F124 n x.1 := by kernel_rfl
theorem con124_ok (n : Nat) : Con.ok Try.prog 124 (con124 n) := conOf_ok (tb124_ok n) (body_la (by kernel_rfl : Try.f124.body = some code124) (la124 n)) Try.func124 (enters Try.func124 (by kernel_rfl) (by kernel_rfl)) rfl rfl (ev124 n)
/-! ### (loop.example/fathomline/impl.Do).uses -/
def F110 (n : Nat) (a0 : Int × Int × Int) : Option (rdens [.c true (.v true yD)] [.c false (.v true .bool)]) :=
  (F121 n ((a0.fst, a0.snd.fst, a0.snd.snd))).bind fun y1 =>
  cond (y1.fst)
  (some (Bool.true, ()))
  ((F124 n ((a0.fst, a0.snd.fst, a0.snd.snd))).bind fun y2 =>
   some (y2.fst, ()))
noncomputable def con110 (n : Nat) : Con := conOf [.c true (.v true yD)] [.c false (.v true .bool)] fun x => F110 n x.1
noncomputable def tb110 (n : Nat) : Tb := ⟨tiOf Try.prog, conL [(121, con121 n), (124, con124 n)], n, [], 9, lpL [], ctL [], [], true⟩
noncomputable def code110 : Code := Try.f110.body.getD .skip
theorem tb110_ok (n : Nat) : (tb110 n).ok Try.prog := tbOk mixed (⟨con121_ok n, ⟨con124_ok n, trivial⟩⟩)
theorem blocks110 : blocks code110 = [] := by kernel_rfl
theorem la110 (n : Nat) : LpAll (tb110 n) code110 := lpAll blocks110 (bl_nil) rfl (cs_no fun _ => rfl) (by kernel_rfl)
theorem ev110 (n : Nat) (x : pdens [.c true (.v true yD)]) : evSig (tb110 n) Try.f110 [.c true (.v true yD)] [.c false (.v true .bool)] x = F110 n x.1 := by kernel_rfl
theorem con110_ok (n : Nat) : Con.ok Try.prog 110 (con110 n) := conOf_ok (tb110_ok n) (body_la (by kernel_rfl : Try.f110.body = some code110) (la110 n)) Try.func110 (enters Try.func110 (by kernel_rfl) (by kernel_rfl)) rfl rfl (ev110 n)
/-! ### loop.example/fathomline/impl.in -/
def F86 (n : Nat) (a0 : Int) (a1 : Int) (a2 : Int) : Option (rdens [.c false (.v true (.int .i64)), .c false (.v true (.int .i64)), .c false (.v true (.int .i64))] [.c false (.v true .bool)]) :=
  cond (Decidable.decide (a0 ≥ a1))
  (some (Decidable.decide (a0 ≤ a2), ()))
  (some (Bool.false, ()))
noncomputable def con86 (n : Nat) : Con := conOf [.c false (.v true (.int .i64)), .c false (.v true (.int .i64)), .c false (.v true (.int .i64))] [.c false (.v true .bool)] fun x => F86 n x.1 x.2.1 x.2.2.1
noncomputable def tb86 (n : Nat) : Tb := ⟨tiOf Try.prog, conL [], n, [], 15, lpL [], ctL [], [], true⟩
noncomputable def code86 : Code := Try.f86.body.getD .skip
theorem tb86_ok (n : Nat) : (tb86 n).ok Try.prog := tbOk mixed (trivial)
theorem blocks86 : blocks code86 = [] := by kernel_rfl
theorem la86 (n : Nat) : LpAll (tb86 n) code86 := lpAll blocks86 (bl_nil) rfl (cs_no fun _ => rfl) (by kernel_rfl)
theorem ev86 (n : Nat) (x : pdens [.c false (.v true (.int .i64)), .c false (.v true (.int .i64)), .c false (.v true (.int .i64))]) : evSig (tb86 n) Try.f86 [.c false (.v true (.int .i64)), .c false (.v true (.int .i64)), .c false (.v true (.int .i64))] [.c false (.v true .bool)] x = F86 n x.1 x.2.1 x.2.2.1 := by kernel_rfl
theorem con86_ok (n : Nat) : Con.ok Try.prog 86 (con86 n) := conOf_ok (tb86_ok n) (body_la (by kernel_rfl : Try.f86.body = some code86) (la86 n)) Try.func86 (enters Try.func86 (by kernel_rfl) (by kernel_rfl)) rfl rfl (ev86 n)
/-! ### (loop.example/fathomline/impl.Do).valued -/
def F140 (n : Nat) (a0 : Int × Int × Int) : Option (rdens [.c true (.v true yD)] [.c false (.v true .bool)]) :=
  cond (a0.fst == (1 : Int))
  (some (Bool.true, ()))
  (some (a0.fst == (6 : Int), ()))
noncomputable def con140 (n : Nat) : Con := conOf [.c true (.v true yD)] [.c false (.v true .bool)] fun x => F140 n x.1
noncomputable def tb140 (n : Nat) : Tb := ⟨tiOf Try.prog, conL [], n, [], 11, lpL [], ctL [], [], true⟩
noncomputable def code140 : Code := Try.f140.body.getD .skip
theorem tb140_ok (n : Nat) : (tb140 n).ok Try.prog := tbOk mixed (trivial)
theorem blocks140 : blocks code140 = [] := by kernel_rfl
theorem la140 (n : Nat) : LpAll (tb140 n) code140 := lpAll blocks140 (bl_nil) rfl (cs_no fun _ => rfl) (by kernel_rfl)
theorem ev140 (n : Nat) (x : pdens [.c true (.v true yD)]) : evSig (tb140 n) Try.f140 [.c true (.v true yD)] [.c false (.v true .bool)] x = F140 n x.1 := by kernel_rfl
theorem con140_ok (n : Nat) : Con.ok Try.prog 140 (con140 n) := conOf_ok (tb140_ok n) (body_la (by kernel_rfl : Try.f140.body = some code140) (la140 n)) Try.func140 (enters Try.func140 (by kernel_rfl) (by kernel_rfl)) rfl rfl (ev140 n)
/-! ### (loop.example/fathomline/impl.Do).formed -/
def J134_5 (n : Nat) (x5 : (Int × Int × Int) × Unit) (x6 : Bool) (x7 : Bool) : Option (odens [(.ret, [(2, kB)])]) :=
    (F86 n (x5.fst.fst) ((1 : Int)) ((9 : Int))).bind fun y8 =>
    cond (y8.fst)
    (cond (x6)
     (some (Sum.inl (x7, ())))
     (some (Sum.inl (Bool.false, ()))))
    (some (Sum.inl (Bool.false, ())))
def J134_2 (n : Nat) (x1 : (Int × Int × Int) × Unit) (x2 : Bool) : Option (odens [(.ret, [(2, kB)])]) :=
    (F140 n ((x1.fst.fst, x1.fst.snd.fst, x1.fst.snd.snd))).bind fun y3 =>
    cond (y3.fst)
    ((F86 n (x1.fst.snd.snd) ((1 : Int)) ((3 : Int))).bind fun y4 =>
     match J134_5 n (((x1.fst.fst, x1.fst.snd.fst, x1.fst.snd.snd), ())) (x2) (y4.fst) with
     | none => none
     | some (Sum.inl v9) =>
      some (Sum.inl (v9.fst, ())))
    (match J134_5 n (((x1.fst.fst, x1.fst.snd.fst, x1.fst.snd.snd), ())) (x2) (x1.fst.snd.snd == (0 : Int)) with
     | none => none
     | some (Sum.inl v10) =>
      some (Sum.inl (v10.fst, ())))
def F134 (n : Nat) (a0 : Int × Int × Int) : Option (rdens [.c true (.v true yD)] [.c false (.v true .bool)]) :=
  cond (a0.snd.fst == (0 : Int))
  (match J134_2 n (((a0.fst, a0.snd.fst, a0.snd.snd), ())) (Bool.true) with
   | none => none
   | some (Sum.inl v11) =>
    some (v11.fst, ()))
  ((F110 n ((a0.fst, a0.snd.fst, a0.snd.snd))).bind fun y12 =>
   cond (y12.fst)
   ((F86 n (a0.snd.fst) ((0 : Int)) ((2 : Int))).bind fun y13 =>
    match J134_2 n (((a0.fst, a0.snd.fst, a0.snd.snd), ())) (y13.fst) with
    | none => none
    | some (Sum.inl v14) =>
     some (v14.fst, ()))
   (match J134_2 n (((a0.fst, a0.snd.fst, a0.snd.snd), ())) (Bool.false) with
    | none => none
    | some (Sum.inl v15) =>
     some (v15.fst, ())))
noncomputable def con134 (n : Nat) : Con := conOf [.c true (.v true yD)] [.c false (.v true .bool)] fun x => F134 n x.1
noncomputable def tb134 (n : Nat) : Tb := ⟨tiOf Try.prog, conL [(110, con110 n), (86, con86 n), (140, con140 n)], n, [], 34, lpL [], ctL [(5, ⟨[(1, (.b 59 [(.v true yD)])), (3, kB), (4, kB)], [(.ret, [(2, kB)])], fun v => J134_5 n v.1 v.2.1 v.2.2.1⟩), (2, ⟨[(1, (.b 59 [(.v true yD)])), (3, kB)], [(.ret, [(2, kB)])], fun v => J134_2 n v.1 v.2.1⟩)], [], true⟩
noncomputable def code134 : Code := Try.f134.body.getD .skip
theorem tb134_ok (n : Nat) : (tb134 n).ok Try.prog := tbOk mixed (⟨con110_ok n, ⟨con86_ok n, ⟨con140_ok n, trivial⟩⟩⟩)
theorem blocks134 : blocks code134 = [] := by kernel_rfl
theorem ct134_2 (n : Nat) : CtOk (tb134 n) (sec code134 1).2 ⟨[(1, (.b 59 [(.v true yD)])), (3, kB)], [(.ret, [(2, kB)])], fun v => J134_2 n v.1 v.2.1⟩ := fun _ => by kernel_rfl
theorem ct134_5 (n : Nat) : CtOk (tb134 n) (sec code134 3).2 ⟨[(1, (.b 59 [(.v true yD)])), (3, kB), (4, kB)], [(.ret, [(2, kB)])], fun v => J134_5 n v.1 v.2.1 v.2.2.1⟩ := fun _ => by kernel_rfl
theorem secs134 : seconds code134 = [(some 1, (sec code134 0).2), (some 2, (sec code134 1).2), (some 3, (sec code134 2).2), (some 5, (sec code134 3).2), (none, (sec code134 4).2), (none, (sec code134 5).2)] := by kernel_rfl
theorem la134 (n : Nat) : LpAll (tb134 n) code134 := lpAll blocks134 (bl_nil) secs134 (cs_none rfl (cs_one rfl (ct134_2 n) (cs_none rfl (cs_one rfl (ct134_5 n) (cs_none rfl (cs_none rfl (cs_nil))))))) (by kernel_rfl)
theorem ev134 (n : Nat) (x : pdens [.c true (.v true yD)]) : evSig (tb134 n) Try.f134 [.c true (.v true yD)] [.c false (.v true .bool)] x = F134 n x.1 := by kernel_rfl
theorem con134_ok (n : Nat) : Con.ok Try.prog 134 (con134 n) := conOf_ok (tb134_ok n) (body_la (by kernel_rfl : Try.f134.body = some code134) (la134 n)) Try.func134 (enters Try.func134 (by kernel_rfl) (by kernel_rfl)) rfl rfl (ev134 n)
/-! ### loop.example/fathomline/impl.threadOk -/
def J109_9 (n : Nat) (x23 : List (Int × Int × Int)) (x24 : Bool) (x25 : Bool) (x26 : (Int × Int × Int) × Unit) (x27 : List (Int × Int × Int)) (x28 : Int) (x29 : Int) : Option (odens [(.normal, [(0, (.c false (.v false (.rs 59 yD)))), (3, kB), (4, kB), (8, (.c false (.v false (.rs 59 yD)))), (9, kI), (10, kI)])]) :=
    cond (x26.fst.fst == (7 : Int))
    (some (Sum.inl (x23, x24, Bool.true, x27, x28, x29, ())))
    (cond (x25)
     (some (Sum.inl (x23, x24, x26.fst.fst != (8 : Int), x27, x28, x29, ())))
     (some (Sum.inl (x23, x24, Bool.false, x27, x28, x29, ()))))
def J109_8 (n : Nat) (x16 : List (Int × Int × Int)) (x17 : Bool) (x18 : Bool) (x19 : (Int × Int × Int) × Unit) (x20 : List (Int × Int × Int)) (x21 : Int) (x22 : Int) : Option (odens [(.normal, [(0, (.c false (.v false (.rs 59 yD)))), (3, kB), (4, kB), (8, (.c false (.v false (.rs 59 yD)))), (9, kI), (10, kI)])]) :=
    cond (x17)
    (match J109_9 n (x16) (Bool.true) (x18) (((x19.fst.fst, x19.fst.snd.fst, x19.fst.snd.snd), ())) (x20) (x21) (x22) with
     | none => none
     | some (Sum.inl v30) =>
      some (Sum.inl (v30.fst, v30.snd.fst, v30.snd.snd.fst, v30.snd.snd.snd.fst, v30.snd.snd.snd.snd.fst, v30.snd.snd.snd.snd.snd.fst, ())))
    ((F121 n ((x19.fst.fst, x19.fst.snd.fst, x19.fst.snd.snd))).bind fun y31 =>
     match J109_9 n (x16) (y31.fst) (x18) (((x19.fst.fst, x19.fst.snd.fst, x19.fst.snd.snd), ())) (x20) (x21) (x22) with
     | none => none
     | some (Sum.inl v32) =>
      some (Sum.inl (v32.fst, v32.snd.fst, v32.snd.snd.fst, v32.snd.snd.snd.fst, v32.snd.snd.snd.snd.fst, v32.snd.snd.snd.snd.snd.fst, ())))
def J109_6 (n : Nat) (x7 : List (Int × Int × Int)) (x8 : Bool) (x9 : Bool) (x10 : (Int × Int × Int) × Unit) (x11 : Bool) (x12 : List (Int × Int × Int)) (x13 : Int) (x14 : Int) : Option (odens [(.ret, [(2, kB)]), (.normal, [(0, (.c false (.v false (.rs 59 yD)))), (3, kB), (4, kB), (8, (.c false (.v false (.rs 59 yD)))), (9, kI), (10, kI)])]) :=
    (F134 n ((x10.fst.fst, x10.fst.snd.fst, x10.fst.snd.snd))).bind fun y15 =>
    cond (!y15.fst)
    (some (Sum.inl (Bool.false, ())))
    (cond (x11)
     (some (Sum.inl (Bool.false, ())))
     (match J109_8 n (x7) (x8) (x9) (((x10.fst.fst, x10.fst.snd.fst, x10.fst.snd.snd), ())) (x12) (x13) (x14) with
      | none => none
      | some (Sum.inl v33) =>
       some (Sum.inr (Sum.inl (v33.fst, v33.snd.fst, v33.snd.snd.fst, v33.snd.snd.snd.fst, v33.snd.snd.snd.snd.fst, v33.snd.snd.snd.snd.snd.fst, ())))))
def J109_10 (n : Nat) (x36 : List (Int × Int × Int)) (x37 : Bool) (x38 : Bool) (x39 : List (Int × Int × Int)) (x40 : Int) (x41 : Int) : Option (odens [(.normal, [(0, (.c false (.v false (.rs 59 yD)))), (3, kB), (4, kB), (8, (.c false (.v false (.rs 59 yD)))), (9, kI), (10, kI)])]) :=
    some (Sum.inl (x36, x37, x38, x39, x40, Go.IntKind.i64.wrap (x41 + (1 : Int)), ()))
def L109_0 (n : Nat) : Nat → List (Int × Int × Int) → Bool → Bool → List (Int × Int × Int) → Int → Int → Option (odens [(.ret, [(2, kB)]), ((.exit 0), [(0, (.c false (.v false (.rs 59 yD)))), (4, kB)])])
  | 0, _, _, _, _, _, _ => none
  | m + 1, x1, x2, x3, x4, x5, x6 =>
    cond (Decidable.decide (x6 < x5))
    (if (0 : Int) ≤ x6 then
     if x6 < (↑x4.length : Int) then
     cond ((x4.getD x6.toNat ((0 : Int), (0 : Int), (0 : Int))).fst == (3 : Int))
     (cond (!x2)
      (match J109_6 n (x1) (x2) (x3) ((((x4.getD x6.toNat ((0 : Int), (0 : Int), (0 : Int))).fst, (x4.getD x6.toNat ((0 : Int), (0 : Int), (0 : Int))).snd.fst, (x4.getD x6.toNat ((0 : Int), (0 : Int), (0 : Int))).snd.snd), ())) (Bool.true) (x4) (x5) (x6) with
       | none => none
       | some (Sum.inl v34) =>
        some (Sum.inl (v34.fst, ()))
       | some (Sum.inr (Sum.inl v35)) =>
        match J109_10 n (v35.fst) (v35.snd.fst) (v35.snd.snd.fst) (v35.snd.snd.snd.fst) (v35.snd.snd.snd.snd.fst) (v35.snd.snd.snd.snd.snd.fst) with
        | none => none
        | some (Sum.inl v42) =>
         L109_0 n m (v42.fst) (v42.snd.fst) (v42.snd.snd.fst) (v42.snd.snd.snd.fst) (v42.snd.snd.snd.snd.fst) (v42.snd.snd.snd.snd.snd.fst))
      (cond (x3)
       (cond ((x4.getD x6.toNat ((0 : Int), (0 : Int), (0 : Int))).fst == (7 : Int))
        (match J109_6 n (x1) (x2) (x3) ((((x4.getD x6.toNat ((0 : Int), (0 : Int), (0 : Int))).fst, (x4.getD x6.toNat ((0 : Int), (0 : Int), (0 : Int))).snd.fst, (x4.getD x6.toNat ((0 : Int), (0 : Int), (0 : Int))).snd.snd), ())) (Bool.true) (x4) (x5) (x6) with
         | none => none
         | some (Sum.inl v43) =>
          some (Sum.inl (v43.fst, ()))
         | some (Sum.inr (Sum.inl v44)) =>
          match J109_10 n (v44.fst) (v44.snd.fst) (v44.snd.snd.fst) (v44.snd.snd.snd.fst) (v44.snd.snd.snd.snd.fst) (v44.snd.snd.snd.snd.snd.fst) with
          | none => none
          | some (Sum.inl v45) =>
           L109_0 n m (v45.fst) (v45.snd.fst) (v45.snd.snd.fst) (v45.snd.snd.snd.fst) (v45.snd.snd.snd.snd.fst) (v45.snd.snd.snd.snd.snd.fst))
        (cond ((x4.getD x6.toNat ((0 : Int), (0 : Int), (0 : Int))).fst == (9 : Int))
         (match J109_6 n (x1) (x2) (x3) ((((x4.getD x6.toNat ((0 : Int), (0 : Int), (0 : Int))).fst, (x4.getD x6.toNat ((0 : Int), (0 : Int), (0 : Int))).snd.fst, (x4.getD x6.toNat ((0 : Int), (0 : Int), (0 : Int))).snd.snd), ())) (Bool.true) (x4) (x5) (x6) with
          | none => none
          | some (Sum.inl v46) =>
           some (Sum.inl (v46.fst, ()))
          | some (Sum.inr (Sum.inl v47)) =>
           match J109_10 n (v47.fst) (v47.snd.fst) (v47.snd.snd.fst) (v47.snd.snd.snd.fst) (v47.snd.snd.snd.snd.fst) (v47.snd.snd.snd.snd.snd.fst) with
           | none => none
           | some (Sum.inl v48) =>
            L109_0 n m (v48.fst) (v48.snd.fst) (v48.snd.snd.fst) (v48.snd.snd.snd.fst) (v48.snd.snd.snd.snd.fst) (v48.snd.snd.snd.snd.snd.fst))
         (cond (!x3)
          (match J109_6 n (x1) (x2) (x3) ((((x4.getD x6.toNat ((0 : Int), (0 : Int), (0 : Int))).fst, (x4.getD x6.toNat ((0 : Int), (0 : Int), (0 : Int))).snd.fst, (x4.getD x6.toNat ((0 : Int), (0 : Int), (0 : Int))).snd.snd), ())) ((x4.getD x6.toNat ((0 : Int), (0 : Int), (0 : Int))).fst == (8 : Int)) (x4) (x5) (x6) with
           | none => none
           | some (Sum.inl v49) =>
            some (Sum.inl (v49.fst, ()))
           | some (Sum.inr (Sum.inl v50)) =>
            match J109_10 n (v50.fst) (v50.snd.fst) (v50.snd.snd.fst) (v50.snd.snd.snd.fst) (v50.snd.snd.snd.snd.fst) (v50.snd.snd.snd.snd.snd.fst) with
            | none => none
            | some (Sum.inl v51) =>
             L109_0 n m (v51.fst) (v51.snd.fst) (v51.snd.snd.fst) (v51.snd.snd.snd.fst) (v51.snd.snd.snd.snd.fst) (v51.snd.snd.snd.snd.snd.fst))
          (match J109_6 n (x1) (x2) (x3) ((((x4.getD x6.toNat ((0 : Int), (0 : Int), (0 : Int))).fst, (x4.getD x6.toNat ((0 : Int), (0 : Int), (0 : Int))).snd.fst, (x4.getD x6.toNat ((0 : Int), (0 : Int), (0 : Int))).snd.snd), ())) (Bool.false) (x4) (x5) (x6) with
           | none => none
           | some (Sum.inl v52) =>
            some (Sum.inl (v52.fst, ()))
           | some (Sum.inr (Sum.inl v53)) =>
            match J109_10 n (v53.fst) (v53.snd.fst) (v53.snd.snd.fst) (v53.snd.snd.snd.fst) (v53.snd.snd.snd.snd.fst) (v53.snd.snd.snd.snd.snd.fst) with
            | none => none
            | some (Sum.inl v54) =>
             L109_0 n m (v54.fst) (v54.snd.fst) (v54.snd.snd.fst) (v54.snd.snd.snd.fst) (v54.snd.snd.snd.snd.fst) (v54.snd.snd.snd.snd.snd.fst)))))
       (cond (!x3)
        (match J109_6 n (x1) (x2) (x3) ((((x4.getD x6.toNat ((0 : Int), (0 : Int), (0 : Int))).fst, (x4.getD x6.toNat ((0 : Int), (0 : Int), (0 : Int))).snd.fst, (x4.getD x6.toNat ((0 : Int), (0 : Int), (0 : Int))).snd.snd), ())) ((x4.getD x6.toNat ((0 : Int), (0 : Int), (0 : Int))).fst == (8 : Int)) (x4) (x5) (x6) with
         | none => none
         | some (Sum.inl v55) =>
          some (Sum.inl (v55.fst, ()))
         | some (Sum.inr (Sum.inl v56)) =>
          match J109_10 n (v56.fst) (v56.snd.fst) (v56.snd.snd.fst) (v56.snd.snd.snd.fst) (v56.snd.snd.snd.snd.fst) (v56.snd.snd.snd.snd.snd.fst) with
          | none => none
          | some (Sum.inl v57) =>
           L109_0 n m (v57.fst) (v57.snd.fst) (v57.snd.snd.fst) (v57.snd.snd.snd.fst) (v57.snd.snd.snd.snd.fst) (v57.snd.snd.snd.snd.snd.fst))
        (match J109_6 n (x1) (x2) (x3) ((((x4.getD x6.toNat ((0 : Int), (0 : Int), (0 : Int))).fst, (x4.getD x6.toNat ((0 : Int), (0 : Int), (0 : Int))).snd.fst, (x4.getD x6.toNat ((0 : Int), (0 : Int), (0 : Int))).snd.snd), ())) (Bool.false) (x4) (x5) (x6) with
         | none => none
         | some (Sum.inl v58) =>
          some (Sum.inl (v58.fst, ()))
         | some (Sum.inr (Sum.inl v59)) =>
          match J109_10 n (v59.fst) (v59.snd.fst) (v59.snd.snd.fst) (v59.snd.snd.snd.fst) (v59.snd.snd.snd.snd.fst) (v59.snd.snd.snd.snd.snd.fst) with
          | none => none
          | some (Sum.inl v60) =>
           L109_0 n m (v60.fst) (v60.snd.fst) (v60.snd.snd.fst) (v60.snd.snd.snd.fst) (v60.snd.snd.snd.snd.fst) (v60.snd.snd.snd.snd.snd.fst)))))
     (cond (x3)
      (cond ((x4.getD x6.toNat ((0 : Int), (0 : Int), (0 : Int))).fst == (7 : Int))
       (match J109_6 n (x1) (x2) (x3) ((((x4.getD x6.toNat ((0 : Int), (0 : Int), (0 : Int))).fst, (x4.getD x6.toNat ((0 : Int), (0 : Int), (0 : Int))).snd.fst, (x4.getD x6.toNat ((0 : Int), (0 : Int), (0 : Int))).snd.snd), ())) (Bool.true) (x4) (x5) (x6) with
        | none => none
        | some (Sum.inl v61) =>
         some (Sum.inl (v61.fst, ()))
        | some (Sum.inr (Sum.inl v62)) =>
         match J109_10 n (v62.fst) (v62.snd.fst) (v62.snd.snd.fst) (v62.snd.snd.snd.fst) (v62.snd.snd.snd.snd.fst) (v62.snd.snd.snd.snd.snd.fst) with
         | none => none
         | some (Sum.inl v63) =>
          L109_0 n m (v63.fst) (v63.snd.fst) (v63.snd.snd.fst) (v63.snd.snd.snd.fst) (v63.snd.snd.snd.snd.fst) (v63.snd.snd.snd.snd.snd.fst))
       (cond ((x4.getD x6.toNat ((0 : Int), (0 : Int), (0 : Int))).fst == (9 : Int))
        (match J109_6 n (x1) (x2) (x3) ((((x4.getD x6.toNat ((0 : Int), (0 : Int), (0 : Int))).fst, (x4.getD x6.toNat ((0 : Int), (0 : Int), (0 : Int))).snd.fst, (x4.getD x6.toNat ((0 : Int), (0 : Int), (0 : Int))).snd.snd), ())) (Bool.true) (x4) (x5) (x6) with
         | none => none
         | some (Sum.inl v64) =>
          some (Sum.inl (v64.fst, ()))
         | some (Sum.inr (Sum.inl v65)) =>
          match J109_10 n (v65.fst) (v65.snd.fst) (v65.snd.snd.fst) (v65.snd.snd.snd.fst) (v65.snd.snd.snd.snd.fst) (v65.snd.snd.snd.snd.snd.fst) with
          | none => none
          | some (Sum.inl v66) =>
           L109_0 n m (v66.fst) (v66.snd.fst) (v66.snd.snd.fst) (v66.snd.snd.snd.fst) (v66.snd.snd.snd.snd.fst) (v66.snd.snd.snd.snd.snd.fst))
        (cond (!x3)
         (match J109_6 n (x1) (x2) (x3) ((((x4.getD x6.toNat ((0 : Int), (0 : Int), (0 : Int))).fst, (x4.getD x6.toNat ((0 : Int), (0 : Int), (0 : Int))).snd.fst, (x4.getD x6.toNat ((0 : Int), (0 : Int), (0 : Int))).snd.snd), ())) ((x4.getD x6.toNat ((0 : Int), (0 : Int), (0 : Int))).fst == (8 : Int)) (x4) (x5) (x6) with
          | none => none
          | some (Sum.inl v67) =>
           some (Sum.inl (v67.fst, ()))
          | some (Sum.inr (Sum.inl v68)) =>
           match J109_10 n (v68.fst) (v68.snd.fst) (v68.snd.snd.fst) (v68.snd.snd.snd.fst) (v68.snd.snd.snd.snd.fst) (v68.snd.snd.snd.snd.snd.fst) with
           | none => none
           | some (Sum.inl v69) =>
            L109_0 n m (v69.fst) (v69.snd.fst) (v69.snd.snd.fst) (v69.snd.snd.snd.fst) (v69.snd.snd.snd.snd.fst) (v69.snd.snd.snd.snd.snd.fst))
         (match J109_6 n (x1) (x2) (x3) ((((x4.getD x6.toNat ((0 : Int), (0 : Int), (0 : Int))).fst, (x4.getD x6.toNat ((0 : Int), (0 : Int), (0 : Int))).snd.fst, (x4.getD x6.toNat ((0 : Int), (0 : Int), (0 : Int))).snd.snd), ())) (Bool.false) (x4) (x5) (x6) with
          | none => none
          | some (Sum.inl v70) =>
           some (Sum.inl (v70.fst, ()))
          | some (Sum.inr (Sum.inl v71)) =>
           match J109_10 n (v71.fst) (v71.snd.fst) (v71.snd.snd.fst) (v71.snd.snd.snd.fst) (v71.snd.snd.snd.snd.fst) (v71.snd.snd.snd.snd.snd.fst) with
           | none => none
           | some (Sum.inl v72) =>
            L109_0 n m (v72.fst) (v72.snd.fst) (v72.snd.snd.fst) (v72.snd.snd.snd.fst) (v72.snd.snd.snd.snd.fst) (v72.snd.snd.snd.snd.snd.fst)))))
      (cond (!x3)
       (match J109_6 n (x1) (x2) (x3) ((((x4.getD x6.toNat ((0 : Int), (0 : Int), (0 : Int))).fst, (x4.getD x6.toNat ((0 : Int), (0 : Int), (0 : Int))).snd.fst, (x4.getD x6.toNat ((0 : Int), (0 : Int), (0 : Int))).snd.snd), ())) ((x4.getD x6.toNat ((0 : Int), (0 : Int), (0 : Int))).fst == (8 : Int)) (x4) (x5) (x6) with
        | none => none
        | some (Sum.inl v73) =>
         some (Sum.inl (v73.fst, ()))
        | some (Sum.inr (Sum.inl v74)) =>
         match J109_10 n (v74.fst) (v74.snd.fst) (v74.snd.snd.fst) (v74.snd.snd.snd.fst) (v74.snd.snd.snd.snd.fst) (v74.snd.snd.snd.snd.snd.fst) with
         | none => none
         | some (Sum.inl v75) =>
          L109_0 n m (v75.fst) (v75.snd.fst) (v75.snd.snd.fst) (v75.snd.snd.snd.fst) (v75.snd.snd.snd.snd.fst) (v75.snd.snd.snd.snd.snd.fst))
       (match J109_6 n (x1) (x2) (x3) ((((x4.getD x6.toNat ((0 : Int), (0 : Int), (0 : Int))).fst, (x4.getD x6.toNat ((0 : Int), (0 : Int), (0 : Int))).snd.fst, (x4.getD x6.toNat ((0 : Int), (0 : Int), (0 : Int))).snd.snd), ())) (Bool.false) (x4) (x5) (x6) with
        | none => none
        | some (Sum.inl v76) =>
         some (Sum.inl (v76.fst, ()))
        | some (Sum.inr (Sum.inl v77)) =>
         match J109_10 n (v77.fst) (v77.snd.fst) (v77.snd.snd.fst) (v77.snd.snd.snd.fst) (v77.snd.snd.snd.snd.fst) (v77.snd.snd.snd.snd.snd.fst) with
         | none => none
         | some (Sum.inl v78) =>
          L109_0 n m (v78.fst) (v78.snd.fst) (v78.snd.snd.fst) (v78.snd.snd.snd.fst) (v78.snd.snd.snd.snd.fst) (v78.snd.snd.snd.snd.snd.fst))))
     else none
     else none)
    (some (Sum.inr (Sum.inl (x1, x3, ()))))
def F109 (n : Nat) (a0 : List (Int × Int × Int)) : Option (rdens [.c false (.v false (.rs 59 yD))] [.c false (.v true .bool)]) :=
  match L109_0 n n (a0) (Bool.false) (Bool.false) (a0) ((↑a0.length : Int)) ((0 : Int)) with
  | none => none
  | some (Sum.inl v79) =>
   some (v79.fst, ())
  | some (Sum.inr (Sum.inl v80)) =>
   cond (!v80.snd.fst)
   (some (Decidable.decide ((↑(List.length v80.fst) : Int) ≤ (7 : Int)), ()))
   (some (Bool.false, ()))
noncomputable def con109 (n : Nat) : Con := conOf [.c false (.v false (.rs 59 yD))] [.c false (.v true .bool)] fun x => F109 n x.1
noncomputable def tb109 (n : Nat) : Tb := ⟨tiOf Try.prog, conL [(134, con134 n), (121, con121 n)], n, [], 73, lpL [(0, ⟨[(0, (.c false (.v false (.rs 59 yD)))), (3, kB), (4, kB), (8, (.c false (.v false (.rs 59 yD)))), (9, kI), (10, kI)], [(.ret, [(2, kB)]), ((.exit 0), [(0, (.c false (.v false (.rs 59 yD)))), (4, kB)])], fun m v => L109_0 n m v.1 v.2.1 v.2.2.1 v.2.2.2.1 v.2.2.2.2.1 v.2.2.2.2.2.1⟩)], ctL [(9, ⟨[(0, (.c false (.v false (.rs 59 yD)))), (3, kB), (4, kB), (6, (.b 59 [(.v true yD)])), (8, (.c false (.v false (.rs 59 yD)))), (9, kI), (10, kI)], [(.normal, [(0, (.c false (.v false (.rs 59 yD)))), (3, kB), (4, kB), (8, (.c false (.v false (.rs 59 yD)))), (9, kI), (10, kI)])], fun v => J109_9 n v.1 v.2.1 v.2.2.1 v.2.2.2.1 v.2.2.2.2.1 v.2.2.2.2.2.1 v.2.2.2.2.2.2.1⟩), (8, ⟨[(0, (.c false (.v false (.rs 59 yD)))), (3, kB), (4, kB), (6, (.b 59 [(.v true yD)])), (8, (.c false (.v false (.rs 59 yD)))), (9, kI), (10, kI)], [(.normal, [(0, (.c false (.v false (.rs 59 yD)))), (3, kB), (4, kB), (8, (.c false (.v false (.rs 59 yD)))), (9, kI), (10, kI)])], fun v => J109_8 n v.1 v.2.1 v.2.2.1 v.2.2.2.1 v.2.2.2.2.1 v.2.2.2.2.2.1 v.2.2.2.2.2.2.1⟩), (6, ⟨[(0, (.c false (.v false (.rs 59 yD)))), (3, kB), (4, kB), (6, (.b 59 [(.v true yD)])), (7, kB), (8, (.c false (.v false (.rs 59 yD)))), (9, kI), (10, kI)], [(.ret, [(2, kB)]), (.normal, [(0, (.c false (.v false (.rs 59 yD)))), (3, kB), (4, kB), (8, (.c false (.v false (.rs 59 yD)))), (9, kI), (10, kI)])], fun v => J109_6 n v.1 v.2.1 v.2.2.1 v.2.2.2.1 v.2.2.2.2.1 v.2.2.2.2.2.1 v.2.2.2.2.2.2.1 v.2.2.2.2.2.2.2.1⟩), (10, ⟨[(0, (.c false (.v false (.rs 59 yD)))), (3, kB), (4, kB), (8, (.c false (.v false (.rs 59 yD)))), (9, kI), (10, kI)], [(.normal, [(0, (.c false (.v false (.rs 59 yD)))), (3, kB), (4, kB), (8, (.c false (.v false (.rs 59 yD)))), (9, kI), (10, kI)])], fun v => J109_10 n v.1 v.2.1 v.2.2.1 v.2.2.2.1 v.2.2.2.2.1 v.2.2.2.2.2.1⟩)], [], true⟩
noncomputable def code109 : Code := Try.f109.body.getD .skip
theorem tb109_ok (n : Nat) : (tb109 n).ok Try.prog := tbOk mixed (⟨con134_ok n, ⟨con121_ok n, trivial⟩⟩)
theorem lp109_0 (n : Nat) : LpAt (tb109 n) (loopBody code109 0) 0 := lpAt rfl (fun _ => by kernel_rfl) (fun _ _ => by kernel_rfl)
theorem blocks109 : blocks code109 = [(0, .loop (loopBody code109 0)), (1, blockBody code109 1)] := by kernel_rfl
theorem ct109_10 (n : Nat) : CtOk (tb109 n) (sec code109 6).2 ⟨[(0, (.c false (.v false (.rs 59 yD)))), (3, kB), (4, kB), (8, (.c false (.v false (.rs 59 yD)))), (9, kI), (10, kI)], [(.normal, [(0, (.c false (.v false (.rs 59 yD)))), (3, kB), (4, kB), (8, (.c false (.v false (.rs 59 yD)))), (9, kI), (10, kI)])], fun v => J109_10 n v.1 v.2.1 v.2.2.1 v.2.2.2.1 v.2.2.2.2.1 v.2.2.2.2.2.1⟩ := fun _ => by kernel_rfl
theorem ct109_6 (n : Nat) : CtOk (tb109 n) (sec code109 8).2 ⟨[(0, (.c false (.v false (.rs 59 yD)))), (3, kB), (4, kB), (6, (.b 59 [(.v true yD)])), (7, kB), (8, (.c false (.v false (.rs 59 yD)))), (9, kI), (10, kI)], [(.ret, [(2, kB)]), (.normal, [(0, (.c false (.v false (.rs 59 yD)))), (3, kB), (4, kB), (8, (.c false (.v false (.rs 59 yD)))), (9, kI), (10, kI)])], fun v => J109_6 n v.1 v.2.1 v.2.2.1 v.2.2.2.1 v.2.2.2.2.1 v.2.2.2.2.2.1 v.2.2.2.2.2.2.1 v.2.2.2.2.2.2.2.1⟩ := fun _ => by kernel_rfl
theorem ct109_8 (n : Nat) : CtOk (tb109 n) (sec code109 9).2 ⟨[(0, (.c false (.v false (.rs 59 yD)))), (3, kB), (4, kB), (6, (.b 59 [(.v true yD)])), (8, (.c false (.v false (.rs 59 yD)))), (9, kI), (10, kI)], [(.normal, [(0, (.c false (.v false (.rs 59 yD)))), (3, kB), (4, kB), (8, (.c false (.v false (.rs 59 yD)))), (9, kI), (10, kI)])], fun v => J109_8 n v.1 v.2.1 v.2.2.1 v.2.2.2.1 v.2.2.2.2.1 v.2.2.2.2.2.1 v.2.2.2.2.2.2.1⟩ := fun _ => by kernel_rfl
theorem ct109_9 (n : Nat) : CtOk (tb109 n) (sec code109 12).2 ⟨[(0, (.c false (.v false (.rs 59 yD)))), (3, kB), (4, kB), (6, (.b 59 [(.v true yD)])), (8, (.c false (.v false (.rs 59 yD)))), (9, kI), (10, kI)], [(.normal, [(0, (.c false (.v false (.rs 59 yD)))), (3, kB), (4, kB), (8, (.c false (.v false (.rs 59 yD)))), (9, kI), (10, kI)])], fun v => J109_9 n v.1 v.2.1 v.2.2.1 v.2.2.2.1 v.2.2.2.2.1 v.2.2.2.2.2.1 v.2.2.2.2.2.2.1⟩ := fun _ => by kernel_rfl
theorem secs109 : seconds code109 = [(some 1, (sec code109 0).2), (some 2, (sec code109 1).2), (some 11, (sec code109 2).2), (some 3, (sec code109 3).2), (none, (sec code109 4).2), (some 4, (sec code109 5).2), (some 10, (sec code109 6).2), (some 5, (sec code109 7).2), (some 6, (sec code109 8).2), (some 8, (sec code109 9).2), (none, (sec code109 10).2), (none, (sec code109 11).2), (some 9, (sec code109 12).2), (none, (sec code109 13).2)] := by kernel_rfl
theorem la109 (n : Nat) : LpAll (tb109 n) code109 := lpAll blocks109 (bl_loop (lp109_0 n) (bl_none rfl (bl_nil))) secs109 (cs_none rfl (cs_none rfl (cs_none rfl (cs_none rfl (cs_none rfl (cs_none rfl (cs_one rfl (ct109_10 n) (cs_none rfl (cs_one rfl (ct109_6 n) (cs_one rfl (ct109_8 n) (cs_none rfl (cs_none rfl (cs_one rfl (ct109_9 n) (cs_none rfl (cs_nil))))))))))))))) (by kernel_rfl)
theorem ev109 (n : Nat) (x : pdens [.c false (.v false (.rs 59 yD))]) : evSig (tb109 n) Try.f109 [.c false (.v false (.rs 59 yD))] [.c false (.v true .bool)] x = F109 n x.1 := by kernel_rfl
theorem con109_ok (n : Nat) : Con.ok Try.prog 109 (con109 n) := conOf_ok (tb109_ok n) (body_la (by kernel_rfl : Try.f109.body = some code109) (la109 n)) Try.func109 (enters Try.func109 (by kernel_rfl) (by kernel_rfl)) rfl rfl (ev109 n)
/-! ### loop.example/fathomline/impl.ProgOk -/
def J69_15 (n : Nat) (x16 : Int) (x17 : Int) (x18 : List (List (Int × Int × Int))) (x19 : Int) (x20 : Int) (x21 : List (Int × Int × Int)) (x22 : Int) (x23 : Int) : Option (odens [(.normal, [(3, kI), (4, kI), (14, (.c false (.v false yP))), (15, kI), (16, kI), (27, (.c false (.v false (.rs 59 yD)))), (28, kI), (29, kI)])]) :=
    some (Sum.inl (x16, x17, x18, x19, x20, x21, x22, Go.IntKind.i64.wrap (x23 + (1 : Int)), ()))
def L69_2 (n : Nat) : Nat → Int → Int → List (List (Int × Int × Int)) → Int → Int → List (Int × Int × Int) → Int → Int → Option (odens [((.exit 2), [(3, kI), (4, kI), (14, (.c false (.v false yP))), (15, kI), (16, kI)])])
  | 0, _, _, _, _, _, _, _, _ => none
  | m + 1, x7, x8, x9, x10, x11, x12, x13, x14 =>
    cond (Decidable.decide (x14 < x13))
    (if (0 : Int) ≤ x14 then
     if x14 < (↑x12.length : Int) then
     (F110 n (((x12.getD x14.toNat ((0 : Int), (0 : Int), (0 : Int))).fst, (x12.getD x14.toNat ((0 : Int), (0 : Int), (0 : Int))).snd.fst, (x12.getD x14.toNat ((0 : Int), (0 : Int), (0 : Int))).snd.snd))).bind fun y15 =>
     cond (y15.fst)
     (match J69_15 n (x7) (Go.IntKind.i64.wrap (x8 + (1 : Int))) (x9) (x10) (x11) (x12) (x13) (x14) with
      | none => none
      | some (Sum.inl v24) =>
       L69_2 n m (v24.fst) (v24.snd.fst) (v24.snd.snd.fst) (v24.snd.snd.snd.fst) (v24.snd.snd.snd.snd.fst) (v24.snd.snd.snd.snd.snd.fst) (v24.snd.snd.snd.snd.snd.snd.fst) (v24.snd.snd.snd.snd.snd.snd.snd.fst))
     (match J69_15 n (x7) (x8) (x9) (x10) (x11) (x12) (x13) (x14) with
      | none => none
      | some (Sum.inl v25) =>
       L69_2 n m (v25.fst) (v25.snd.fst) (v25.snd.snd.fst) (v25.snd.snd.snd.fst) (v25.snd.snd.snd.snd.fst) (v25.snd.snd.snd.snd.snd.fst) (v25.snd.snd.snd.snd.snd.snd.fst) (v25.snd.snd.snd.snd.snd.snd.snd.fst))
     else none
     else none)
    (some (Sum.inl (x7, x8, x9, x10, x11, ())))
def L69_0 (n : Nat) : Nat → Int → Int → List (List (Int × Int × Int)) → Int → Int → Option (odens [(.ret, [(2, kB)]), ((.exit 0), [(3, kI), (4, kI)])])
  | 0, _, _, _, _, _ => none
  | m + 1, x1, x2, x3, x4, x5 =>
    cond (Decidable.decide (x5 < x4))
    (if (0 : Int) ≤ x5 then
     if x5 < (↑x3.length : Int) then
     (F109 n (x3.getD x5.toNat [])).bind fun y6 =>
     cond (!y6.fst)
     (some (Sum.inl (Bool.false, ())))
     (match L69_2 n n (Go.IntKind.i64.wrap (x1 + (↑(List.length (x3.getD x5.toNat [])) : Int))) (x2) (x3) (x4) (x5) (x3.getD x5.toNat []) ((↑(List.length (x3.getD x5.toNat [])) : Int)) ((0 : Int)) with
      | none => none
      | some (Sum.inl v26) =>
       L69_0 n m (v26.fst) (v26.snd.fst) (v26.snd.snd.fst) (v26.snd.snd.snd.fst) (Go.IntKind.i64.wrap (v26.snd.snd.snd.snd.fst + (1 : Int))))
     else none
     else none)
    (some (Sum.inr (Sum.inl (x1, x2, ()))))
def F69 (n : Nat) (a0 : List (List (Int × Int × Int))) : Option (rdens [.c true (.v false yP)] [.c false (.v true .bool)]) :=
  cond (Decidable.decide ((↑a0.length : Int) > (3 : Int)))
  (some (Bool.false, ()))
  (match L69_0 n n ((0 : Int)) ((0 : Int)) (a0) ((↑a0.length : Int)) ((0 : Int)) with
   | none => none
   | some (Sum.inl v27) =>
    some (v27.fst, ())
   | some (Sum.inr (Sum.inl v28)) =>
    cond (Decidable.decide (v28.fst ≤ (14 : Int)))
    (some (Decidable.decide (v28.snd.fst ≤ (6 : Int)), ()))
    (some (Bool.false, ())))
noncomputable def con69 (n : Nat) : Con := conOf [.c true (.v false yP)] [.c false (.v true .bool)] fun x => F69 n x.1
noncomputable def tb69 (n : Nat) : Tb := ⟨tiOf Try.prog, conL [(109, con109 n), (110, con110 n)], n, [], 45, lpL [(2, ⟨[(3, kI), (4, kI), (14, (.c false (.v false yP))), (15, kI), (16, kI), (27, (.c false (.v false (.rs 59 yD)))), (28, kI), (29, kI)], [((.exit 2), [(3, kI), (4, kI), (14, (.c false (.v false yP))), (15, kI), (16, kI)])], fun m v => L69_2 n m v.1 v.2.1 v.2.2.1 v.2.2.2.1 v.2.2.2.2.1 v.2.2.2.2.2.1 v.2.2.2.2.2.2.1 v.2.2.2.2.2.2.2.1⟩), (0, ⟨[(3, kI), (4, kI), (14, (.c false (.v false yP))), (15, kI), (16, kI)], [(.ret, [(2, kB)]), ((.exit 0), [(3, kI), (4, kI)])], fun m v => L69_0 n m v.1 v.2.1 v.2.2.1 v.2.2.2.1 v.2.2.2.2.1⟩)], ctL [(15, ⟨[(3, kI), (4, kI), (14, (.c false (.v false yP))), (15, kI), (16, kI), (27, (.c false (.v false (.rs 59 yD)))), (28, kI), (29, kI)], [(.normal, [(3, kI), (4, kI), (14, (.c false (.v false yP))), (15, kI), (16, kI), (27, (.c false (.v false (.rs 59 yD)))), (28, kI), (29, kI)])], fun v => J69_15 n v.1 v.2.1 v.2.2.1 v.2.2.2.1 v.2.2.2.2.1 v.2.2.2.2.2.1 v.2.2.2.2.2.2.1 v.2.2.2.2.2.2.2.1⟩)], [], true⟩
noncomputable def code69 : Code := Try.f69.body.getD .skip
theorem tb69_ok (n : Nat) : (tb69 n).ok Try.prog := tbOk mixed (⟨con109_ok n, ⟨con110_ok n, trivial⟩⟩)
theorem lp69_2 (n : Nat) : LpAt (tb69 n) (loopBody code69 2) 2 := lpAt rfl (fun _ => by kernel_rfl) (fun _ _ => by kernel_rfl)
theorem lp69_0 (n : Nat) : LpAt (tb69 n) (loopBody code69 0) 0 := lpAt rfl (fun _ => by kernel_rfl) (fun _ _ => by kernel_rfl)
theorem blocks69 : blocks code69 = [(0, .loop (loopBody code69 0)), (1, blockBody code69 1), (2, .loop (loopBody code69 2)), (3, blockBody code69 3)] := by kernel_rfl
theorem ct69_15 (n : Nat) : CtOk (tb69 n) (sec code69 18).2 ⟨[(3, kI), (4, kI), (14, (.c false (.v false yP))), (15, kI), (16, kI), (27, (.c false (.v false (.rs 59 yD)))), (28, kI), (29, kI)], [(.normal, [(3, kI), (4, kI), (14, (.c false (.v false yP))), (15, kI), (16, kI), (27, (.c false (.v false (.rs 59 yD)))), (28, kI), (29, kI)])], fun v => J69_15 n v.1 v.2.1 v.2.2.1 v.2.2.2.1 v.2.2.2.2.1 v.2.2.2.2.2.1 v.2.2.2.2.2.2.1 v.2.2.2.2.2.2.2.1⟩ := fun _ => by kernel_rfl
theorem secs69 : seconds code69 = [(some 1, (sec code69 0).2), (some 3, (sec code69 1).2), (none, (sec code69 2).2), (none, (sec code69 3).2), (some 4, (sec code69 4).2), (some 17, (sec code69 5).2), (some 5, (sec code69 6).2), (none, (sec code69 7).2), (some 6, (sec code69 8).2), (some 16, (sec code69 9).2), (some 7, (sec code69 10).2), (some 9, (sec code69 11).2), (none, (sec code69 12).2), (none, (sec code69 13).2), (some 10, (sec code69 14).2), (some 11, (sec code69 15).2), (none, (sec code69 16).2), (some 12, (sec code69 17).2), (some 15, (sec code69 18).2), (some 13, (sec code69 19).2), (none, (sec code69 20).2), (none, (sec code69 21).2)] := by kernel_rfl
theorem la69 (n : Nat) : LpAll (tb69 n) code69 := lpAll blocks69 (bl_loop (lp69_0 n) (bl_none rfl (bl_loop (lp69_2 n) (bl_none rfl (bl_nil))))) secs69 (cs_none rfl (cs_none rfl (cs_none rfl (cs_none rfl (cs_none rfl (cs_none rfl (cs_none rfl (cs_none rfl (cs_none rfl (cs_none rfl (cs_none rfl (cs_none rfl (cs_none rfl (cs_none rfl (cs_none rfl (cs_none rfl (cs_none rfl (cs_none rfl (cs_one rfl (ct69_15 n) (cs_none rfl (cs_none rfl (cs_none rfl (cs_nil))))))))))))))))))))))) (by kernel_rfl)
theorem ev69 (n : Nat) (x : pdens [.c true (.v false yP)]) : evSig (tb69 n) Try.f69 [.c true (.v false yP)] [.c false (.v true .bool)] x = F69 n x.1 := by kernel_rfl
theorem con69_ok (n : Nat) : Con.ok Try.prog 69 (con69 n) := conOf_ok (tb69_ok n) (body_la (by kernel_rfl : Try.f69.body = some code69) (la69 n)) Try.func69 (enters Try.func69 (by kernel_rfl) (by kernel_rfl)) rfl rfl (ev69 n)
end Go.Proofs.Ytdacfaincamliaa.Ev
