/- Plain functions that the loaded code comes to, and that it does. Conditions: none. -/
import Derived.Test.YtaehbfaldofmbaaGD
import Derived.Test.YtaehbfaldofmbaaGE
namespace Go.Proofs.Ytaehbfaldofmbaa.Ev
open Go Go.Proofs
/-! ### loop.example/fathomline/spec.DrawExecEvents -/
def F47 (n : Nat) (a0 : List Int) : Option (rdens [.c false (.v true (.rs 5 (.int .u8)))] [.c true (.v true (.rs 50 (.rs 52 (.pair (.int .i64) (.pair (.int .i64) (.int .i64))))))]) :=
  (F88 n (a0)).bind fun y1 =>
  (F93 n (((y1.fst.fst.fst, y1.fst.fst.snd), ()))).bind fun y2 =>
  some (y2.fst, ())
noncomputable def con47 (n : Nat) : Con := conOf [.c false (.v true (.rs 5 (.int .u8)))] [.c true (.v true (.rs 50 (.rs 52 (.pair (.int .i64) (.pair (.int .i64) (.int .i64))))))] fun x => F47 n x.1
noncomputable def tb47 (n : Nat) : Tb := ⟨tiOf Try.prog, conL [(88, con88 n), (93, con93 n)], n, [], 6, lpL [], ctL [], []⟩
noncomputable def code47 : Code := Try.f47.body.getD .skip
theorem tb47_ok (n : Nat) : (tb47 n).ok Try.prog := tbOk mixed (⟨con88_ok n, ⟨con93_ok n, trivial⟩⟩)
theorem blocks47 : blocks code47 = [] := by kernel_rfl
theorem la47 (n : Nat) : LpAll (tb47 n) code47 := lpAll blocks47 (bl_nil) rfl (cs_no fun _ => rfl) (by kernel_rfl)
theorem ev47 (n : Nat) (x : pdens [.c false (.v true (.rs 5 (.int .u8)))]) : evSig (tb47 n) Try.f47 [.c false (.v true (.rs 5 (.int .u8)))] [.c true (.v true (.rs 50 (.rs 52 (.pair (.int .i64) (.pair (.int .i64) (.int .i64))))))] x = F47 n x.1 := by kernel_rfl
theorem con47_ok (n : Nat) : Con.ok Try.prog 47 (con47 n) := conOf_ok (tb47_ok n) (body_la (by kernel_rfl : Try.f47.body = some code47) (la47 n)) Try.func47 (enters Try.func47 (by kernel_rfl) (by kernel_rfl)) rfl rfl (ev47 n)
/-! ### loop.example/fathomline/laws.FnExecEvents -/
def J12_20 (n : Nat) (x26 : List (List (Int × Int × Int)) × Unit) (x27 : List (Int × Int × Bool)) (x28 : Int) (x29 : Int) (x30 : Int) : Option (odens [(.normal, [(3, (.b 44 [(.v true (.rs 50 (.rs 52 (.pair (.int .i64) (.pair (.int .i64) (.int .i64))))))])), (4, (.c false (.r 62 (.pair (.int .i64) (.pair (.int .i64) .bool))))), (5, (.c false (.v true (.int .i64)))), (6, (.c false (.v true (.int .i64)))), (7, (.c false (.v true (.int .i64))))])]) :=
    some (Sum.inl ((x26.fst, ()), x27, Go.IntKind.i64.wrap (x28 + (1 : Int)), x29, x30, ()))
def J12_16 (n : Nat) (x21 : List (List (Int × Int × Int)) × Unit) (x22 : List (Int × Int × Bool)) (x23 : Int) (x24 : Int) (x25 : Int) : Option (odens [(.ret, [(2, (.c false (.v true .bool)))]), (.normal, [(3, (.b 44 [(.v true (.rs 50 (.rs 52 (.pair (.int .i64) (.pair (.int .i64) (.int .i64))))))])), (4, (.c false (.r 62 (.pair (.int .i64) (.pair (.int .i64) .bool))))), (5, (.c false (.v true (.int .i64)))), (6, (.c false (.v true (.int .i64)))), (7, (.c false (.v true (.int .i64))))])]) :=
    if (0 : Int) ≤ x24 then
    if x24 < (↑(List.length x21.fst) : Int) then
    if (0 : Int) ≤ x25 then
    if x25 < (↑(List.length (List.getD x21.fst x24.toNat [])) : Int) then
    cond ((List.getD (List.getD x21.fst x24.toNat []) x25.toNat ((0 : Int), (0 : Int), (0 : Int))).fst == (9 : Int))
    (cond (Decidable.decide (Go.IntKind.i64.wrap (x23 + (1 : Int)) ≥ (↑x22.length : Int)))
     (some (Sum.inl (Bool.false, ())))
     (if (0 : Int) ≤ Go.IntKind.i64.wrap (x23 + (1 : Int)) then
      if Go.IntKind.i64.wrap (x23 + (1 : Int)) < (↑x22.length : Int) then
      if (Go.IntKind.i64.wrap (x23 + (1 : Int))).toNat < x22.length then
      cond (!((x22.getD (Go.IntKind.i64.wrap (x23 + (1 : Int))).toNat ((0 : Int), (0 : Int), Bool.false)).fst == x24 && ((x22.getD (Go.IntKind.i64.wrap (x23 + (1 : Int))).toNat ((0 : Int), (0 : Int), Bool.false)).snd.fst == x25 && (x22.getD (Go.IntKind.i64.wrap (x23 + (1 : Int))).toNat ((0 : Int), (0 : Int), Bool.false)).snd.snd == Bool.true)))
      (some (Sum.inl (Bool.false, ())))
      (match J12_20 n ((x21.fst, ())) (x22) (Go.IntKind.i64.wrap (x23 + (1 : Int))) (x24) (x25) with
       | none => none
       | some (Sum.inl v31) =>
        some (Sum.inr (Sum.inl ((v31.fst.fst, ()), v31.snd.fst, v31.snd.snd.fst, v31.snd.snd.snd.fst, v31.snd.snd.snd.snd.fst, ()))))
      else none
      else none
      else none))
    (some (Sum.inr (Sum.inl ((x21.fst, ()), x22, Go.IntKind.i64.wrap (x23 + (1 : Int)), x24, x25, ()))))
    else none
    else none
    else none
    else none
def J12_13 (n : Nat) (x34 : List (List (Int × Int × Int)) × Unit) (x35 : List (Int × Int × Bool)) (x36 : Int) (x37 : Int) (x38 : Int) : Option (odens [(.normal, [(3, (.b 44 [(.v true (.rs 50 (.rs 52 (.pair (.int .i64) (.pair (.int .i64) (.int .i64))))))])), (4, (.c false (.r 62 (.pair (.int .i64) (.pair (.int .i64) .bool))))), (5, (.c false (.v true (.int .i64)))), (6, (.c false (.v true (.int .i64)))), (7, (.c false (.v true (.int .i64))))])]) :=
    some (Sum.inl ((x34.fst, ()), x35, x36, x37, Go.IntKind.i64.wrap (x38 + (1 : Int)), ()))
def L12_2 (n : Nat) : Nat → List (List (Int × Int × Int)) × Unit → List (Int × Int × Bool) → Int → Int → Int → Option (odens [(.ret, [(2, (.c false (.v true .bool)))]), ((.exit 2), [(3, (.b 44 [(.v true (.rs 50 (.rs 52 (.pair (.int .i64) (.pair (.int .i64) (.int .i64))))))])), (4, (.c false (.r 62 (.pair (.int .i64) (.pair (.int .i64) .bool))))), (5, (.c false (.v true (.int .i64)))), (6, (.c false (.v true (.int .i64))))])])
  | 0, _, _, _, _, _ => none
  | m + 1, x16, x17, x18, x19, x20 =>
    if (0 : Int) ≤ x19 then
    if x19 < (↑(List.length x16.fst) : Int) then
    cond (Decidable.decide (x20 < (↑(List.length (List.getD x16.fst x19.toNat [])) : Int)))
    (cond (Decidable.decide (x18 ≥ (↑x17.length : Int)))
     (some (Sum.inl (Bool.false, ())))
     (if (0 : Int) ≤ x18 then
      if x18 < (↑x17.length : Int) then
      if x18.toNat < x17.length then
      cond (!((x17.getD x18.toNat ((0 : Int), (0 : Int), Bool.false)).fst == x19 && ((x17.getD x18.toNat ((0 : Int), (0 : Int), Bool.false)).snd.fst == x20 && (x17.getD x18.toNat ((0 : Int), (0 : Int), Bool.false)).snd.snd == Bool.false)))
      (some (Sum.inl (Bool.false, ())))
      (match J12_16 n ((x16.fst, ())) (x17) (x18) (x19) (x20) with
       | none => none
       | some (Sum.inl v32) =>
        some (Sum.inl (v32.fst, ()))
       | some (Sum.inr (Sum.inl v33)) =>
        match J12_13 n ((v33.fst.fst, ())) (v33.snd.fst) (v33.snd.snd.fst) (v33.snd.snd.snd.fst) (v33.snd.snd.snd.snd.fst) with
        | none => none
        | some (Sum.inl v39) =>
         L12_2 n m ((v39.fst.fst, ())) (v39.snd.fst) (v39.snd.snd.fst) (v39.snd.snd.snd.fst) (v39.snd.snd.snd.snd.fst))
      else none
      else none
      else none))
    (some (Sum.inr (Sum.inl ((x16.fst, ()), x17, x18, x19, ()))))
    else none
    else none
def L12_0 (n : Nat) : Nat → List (List (Int × Int × Int)) × Unit → List (Int × Int × Bool) → Int → Int → Option (odens [(.ret, [(2, (.c false (.v true .bool)))]), ((.exit 0), [(4, (.c false (.r 62 (.pair (.int .i64) (.pair (.int .i64) .bool))))), (5, (.c false (.v true (.int .i64))))])])
  | 0, _, _, _, _ => none
  | m + 1, x12, x13, x14, x15 =>
    cond (Decidable.decide (x15 < (↑(List.length x12.fst) : Int)))
    (match L12_2 n n ((x12.fst, ())) (x13) (x14) (x15) ((0 : Int)) with
     | none => none
     | some (Sum.inl v40) =>
      some (Sum.inl (v40.fst, ()))
     | some (Sum.inr (Sum.inl v41)) =>
      L12_0 n m ((v41.fst.fst, ())) (v41.snd.fst) (v41.snd.snd.fst) (Go.IntKind.i64.wrap (v41.snd.snd.snd.fst + (1 : Int))))
    (some (Sum.inr (Sum.inl (x13, x14, ()))))
def J12_7 (n : Nat) (x10 : List (List (Int × Int × Int)) × Unit) (x11 : List (Int × Int × Bool)) : Option (odens [(.ret, [(2, (.c false (.v true .bool)))])]) :=
    match L12_0 n n ((x10.fst, ())) (x11) ((0 : Int)) ((0 : Int)) with
    | none => none
    | some (Sum.inl v42) =>
     some (Sum.inl (v42.fst, ()))
    | some (Sum.inr (Sum.inl v43)) =>
     some (Sum.inl (v43.snd.fst == (↑(List.length v43.fst) : Int), ()))
def F12 (n : Nat) (a0 : List Int) : Option (rdens [.c false (.v true (.rs 5 (.int .u8)))] [.c false (.v true .bool)]) :=
  cond (Decidable.decide ((↑a0.length : Int) > (1048576 : Int)))
  (some (Bool.true, ()))
  ((F47 n (a0)).bind fun y1 =>
   (F48 n (y1.fst)).bind fun y2 =>
   (F50 n (y1.fst)).bind fun y3 =>
   (F49 n (y2.fst) (y3.fst)).bind fun y4 =>
   cond (!y4.fst)
   ((F50 n (y1.fst)).bind fun y5 =>
    (F49 n (y2.fst) (y5.fst)).bind fun y6 =>
    some (y6.fst, ()))
   ((F35 n (y1.fst)).bind fun y7 =>
    cond (!y7.fst)
    ((F50 n (y1.fst)).bind fun y8 =>
     (F49 n (y2.fst) (y8.fst)).bind fun y9 =>
     some (y9.fst, ()))
    (match J12_7 n ((y1.fst, ())) (y2.fst) with
     | none => none
     | some (Sum.inl v44) =>
      some (v44.fst, ()))))
noncomputable def con12 (n : Nat) : Con := conOf [.c false (.v true (.rs 5 (.int .u8)))] [.c false (.v true .bool)] fun x => F12 n x.1
noncomputable def tb12 (n : Nat) : Tb := ⟨tiOf Try.prog, conL [(47, con47 n), (48, con48 n), (50, con50 n), (49, con49 n), (35, con35 n)], n, [], 92, lpL [(2, ⟨[(3, (.b 44 [(.v true (.rs 50 (.rs 52 (.pair (.int .i64) (.pair (.int .i64) (.int .i64))))))])), (4, (.c false (.r 62 (.pair (.int .i64) (.pair (.int .i64) .bool))))), (5, (.c false (.v true (.int .i64)))), (6, (.c false (.v true (.int .i64)))), (7, (.c false (.v true (.int .i64))))], [(.ret, [(2, (.c false (.v true .bool)))]), ((.exit 2), [(3, (.b 44 [(.v true (.rs 50 (.rs 52 (.pair (.int .i64) (.pair (.int .i64) (.int .i64))))))])), (4, (.c false (.r 62 (.pair (.int .i64) (.pair (.int .i64) .bool))))), (5, (.c false (.v true (.int .i64)))), (6, (.c false (.v true (.int .i64))))])], fun m v => L12_2 n m v.1 v.2.1 v.2.2.1 v.2.2.2.1 v.2.2.2.2.1⟩), (0, ⟨[(3, (.b 44 [(.v true (.rs 50 (.rs 52 (.pair (.int .i64) (.pair (.int .i64) (.int .i64))))))])), (4, (.c false (.r 62 (.pair (.int .i64) (.pair (.int .i64) .bool))))), (5, (.c false (.v true (.int .i64)))), (6, (.c false (.v true (.int .i64))))], [(.ret, [(2, (.c false (.v true .bool)))]), ((.exit 0), [(4, (.c false (.r 62 (.pair (.int .i64) (.pair (.int .i64) .bool))))), (5, (.c false (.v true (.int .i64))))])], fun m v => L12_0 n m v.1 v.2.1 v.2.2.1 v.2.2.2.1⟩)], ctL [(20, ⟨[(3, (.b 44 [(.v true (.rs 50 (.rs 52 (.pair (.int .i64) (.pair (.int .i64) (.int .i64))))))])), (4, (.c false (.r 62 (.pair (.int .i64) (.pair (.int .i64) .bool))))), (5, (.c false (.v true (.int .i64)))), (6, (.c false (.v true (.int .i64)))), (7, (.c false (.v true (.int .i64))))], [(.normal, [(3, (.b 44 [(.v true (.rs 50 (.rs 52 (.pair (.int .i64) (.pair (.int .i64) (.int .i64))))))])), (4, (.c false (.r 62 (.pair (.int .i64) (.pair (.int .i64) .bool))))), (5, (.c false (.v true (.int .i64)))), (6, (.c false (.v true (.int .i64)))), (7, (.c false (.v true (.int .i64))))])], fun v => J12_20 n v.1 v.2.1 v.2.2.1 v.2.2.2.1 v.2.2.2.2.1⟩), (16, ⟨[(3, (.b 44 [(.v true (.rs 50 (.rs 52 (.pair (.int .i64) (.pair (.int .i64) (.int .i64))))))])), (4, (.c false (.r 62 (.pair (.int .i64) (.pair (.int .i64) .bool))))), (5, (.c false (.v true (.int .i64)))), (6, (.c false (.v true (.int .i64)))), (7, (.c false (.v true (.int .i64))))], [(.ret, [(2, (.c false (.v true .bool)))]), (.normal, [(3, (.b 44 [(.v true (.rs 50 (.rs 52 (.pair (.int .i64) (.pair (.int .i64) (.int .i64))))))])), (4, (.c false (.r 62 (.pair (.int .i64) (.pair (.int .i64) .bool))))), (5, (.c false (.v true (.int .i64)))), (6, (.c false (.v true (.int .i64)))), (7, (.c false (.v true (.int .i64))))])], fun v => J12_16 n v.1 v.2.1 v.2.2.1 v.2.2.2.1 v.2.2.2.2.1⟩), (13, ⟨[(3, (.b 44 [(.v true (.rs 50 (.rs 52 (.pair (.int .i64) (.pair (.int .i64) (.int .i64))))))])), (4, (.c false (.r 62 (.pair (.int .i64) (.pair (.int .i64) .bool))))), (5, (.c false (.v true (.int .i64)))), (6, (.c false (.v true (.int .i64)))), (7, (.c false (.v true (.int .i64))))], [(.normal, [(3, (.b 44 [(.v true (.rs 50 (.rs 52 (.pair (.int .i64) (.pair (.int .i64) (.int .i64))))))])), (4, (.c false (.r 62 (.pair (.int .i64) (.pair (.int .i64) .bool))))), (5, (.c false (.v true (.int .i64)))), (6, (.c false (.v true (.int .i64)))), (7, (.c false (.v true (.int .i64))))])], fun v => J12_13 n v.1 v.2.1 v.2.2.1 v.2.2.2.1 v.2.2.2.2.1⟩), (7, ⟨[(3, (.b 44 [(.v true (.rs 50 (.rs 52 (.pair (.int .i64) (.pair (.int .i64) (.int .i64))))))])), (4, (.c false (.r 62 (.pair (.int .i64) (.pair (.int .i64) .bool)))))], [(.ret, [(2, (.c false (.v true .bool)))])], fun v => J12_7 n v.1 v.2.1⟩)], []⟩
noncomputable def code12 : Code := Try.f12.body.getD .skip
theorem tb12_ok (n : Nat) : (tb12 n).ok Try.prog := tbOk mixed (⟨con47_ok n, ⟨con48_ok n, ⟨con50_ok n, ⟨con49_ok n, ⟨con35_ok n, trivial⟩⟩⟩⟩⟩)
theorem lp12_2 (n : Nat) : LpAt (tb12 n) (loopBody code12 2) 2 := lpAt rfl (fun _ => by kernel_rfl) (fun _ _ => by kernel_rfl)
theorem lp12_0 (n : Nat) : LpAt (tb12 n) (loopBody code12 0) 0 := lpAt rfl (fun _ => by kernel_rfl) (fun _ _ => by kernel_rfl)
theorem blocks12 : blocks code12 = [(0, .loop (loopBody code12 0)), (1, blockBody code12 1), (2, .loop (loopBody code12 2)), (3, blockBody code12 3)] := by kernel_rfl
theorem ct12_7 (n : Nat) : CtOk (tb12 n) (sec code12 6).2 ⟨[(3, (.b 44 [(.v true (.rs 50 (.rs 52 (.pair (.int .i64) (.pair (.int .i64) (.int .i64))))))])), (4, (.c false (.r 62 (.pair (.int .i64) (.pair (.int .i64) .bool)))))], [(.ret, [(2, (.c false (.v true .bool)))])], fun v => J12_7 n v.1 v.2.1⟩ := fun _ => by kernel_rfl
theorem ct12_13 (n : Nat) : CtOk (tb12 n) (sec code12 18).2 ⟨[(3, (.b 44 [(.v true (.rs 50 (.rs 52 (.pair (.int .i64) (.pair (.int .i64) (.int .i64))))))])), (4, (.c false (.r 62 (.pair (.int .i64) (.pair (.int .i64) .bool))))), (5, (.c false (.v true (.int .i64)))), (6, (.c false (.v true (.int .i64)))), (7, (.c false (.v true (.int .i64))))], [(.normal, [(3, (.b 44 [(.v true (.rs 50 (.rs 52 (.pair (.int .i64) (.pair (.int .i64) (.int .i64))))))])), (4, (.c false (.r 62 (.pair (.int .i64) (.pair (.int .i64) .bool))))), (5, (.c false (.v true (.int .i64)))), (6, (.c false (.v true (.int .i64)))), (7, (.c false (.v true (.int .i64))))])], fun v => J12_13 n v.1 v.2.1 v.2.2.1 v.2.2.2.1 v.2.2.2.2.1⟩ := fun _ => by kernel_rfl
theorem ct12_16 (n : Nat) : CtOk (tb12 n) (sec code12 19).2 ⟨[(3, (.b 44 [(.v true (.rs 50 (.rs 52 (.pair (.int .i64) (.pair (.int .i64) (.int .i64))))))])), (4, (.c false (.r 62 (.pair (.int .i64) (.pair (.int .i64) .bool))))), (5, (.c false (.v true (.int .i64)))), (6, (.c false (.v true (.int .i64)))), (7, (.c false (.v true (.int .i64))))], [(.ret, [(2, (.c false (.v true .bool)))]), (.normal, [(3, (.b 44 [(.v true (.rs 50 (.rs 52 (.pair (.int .i64) (.pair (.int .i64) (.int .i64))))))])), (4, (.c false (.r 62 (.pair (.int .i64) (.pair (.int .i64) .bool))))), (5, (.c false (.v true (.int .i64)))), (6, (.c false (.v true (.int .i64)))), (7, (.c false (.v true (.int .i64))))])], fun v => J12_16 n v.1 v.2.1 v.2.2.1 v.2.2.2.1 v.2.2.2.2.1⟩ := fun _ => by kernel_rfl
theorem ct12_20 (n : Nat) : CtOk (tb12 n) (sec code12 24).2 ⟨[(3, (.b 44 [(.v true (.rs 50 (.rs 52 (.pair (.int .i64) (.pair (.int .i64) (.int .i64))))))])), (4, (.c false (.r 62 (.pair (.int .i64) (.pair (.int .i64) .bool))))), (5, (.c false (.v true (.int .i64)))), (6, (.c false (.v true (.int .i64)))), (7, (.c false (.v true (.int .i64))))], [(.normal, [(3, (.b 44 [(.v true (.rs 50 (.rs 52 (.pair (.int .i64) (.pair (.int .i64) (.int .i64))))))])), (4, (.c false (.r 62 (.pair (.int .i64) (.pair (.int .i64) .bool))))), (5, (.c false (.v true (.int .i64)))), (6, (.c false (.v true (.int .i64)))), (7, (.c false (.v true (.int .i64))))])], fun v => J12_20 n v.1 v.2.1 v.2.2.1 v.2.2.2.1 v.2.2.2.2.1⟩ := fun _ => by kernel_rfl
theorem secs12 : seconds code12 = [(some 1, (sec code12 0).2), (some 3, (sec code12 1).2), (none, (sec code12 2).2), (none, (sec code12 3).2), (some 4, (sec code12 4).2), (some 5, (sec code12 5).2), (some 7, (sec code12 6).2), (none, (sec code12 7).2), (none, (sec code12 8).2), (some 8, (sec code12 9).2), (some 21, (sec code12 10).2), (some 9, (sec code12 11).2), (some 11, (sec code12 12).2), (none, (sec code12 13).2), (some 10, (sec code12 14).2), (some 12, (sec code12 15).2), (some 14, (sec code12 16).2), (none, (sec code12 17).2), (some 13, (sec code12 18).2), (some 16, (sec code12 19).2), (none, (sec code12 20).2), (none, (sec code12 21).2), (some 17, (sec code12 22).2), (none, (sec code12 23).2), (some 20, (sec code12 24).2), (none, (sec code12 25).2), (none, (sec code12 26).2), (none, (sec code12 27).2)] := by kernel_rfl
theorem la12 (n : Nat) : LpAll (tb12 n) code12 := lpAll blocks12 (bl_loop (lp12_0 n) (bl_none rfl (bl_loop (lp12_2 n) (bl_none rfl (bl_nil))))) secs12 (cs_none rfl (cs_none rfl (cs_none rfl (cs_none rfl (cs_none rfl (cs_none rfl (cs_one rfl (ct12_7 n) (cs_none rfl (cs_none rfl (cs_none rfl (cs_none rfl (cs_none rfl (cs_none rfl (cs_none rfl (cs_none rfl (cs_none rfl (cs_none rfl (cs_none rfl (cs_one rfl (ct12_13 n) (cs_one rfl (ct12_16 n) (cs_none rfl (cs_none rfl (cs_none rfl (cs_none rfl (cs_one rfl (ct12_20 n) (cs_none rfl (cs_none rfl (cs_none rfl (cs_nil))))))))))))))))))))))))))))) (by kernel_rfl)
theorem ev12 (n : Nat) (x : pdens [.c false (.v true (.rs 5 (.int .u8)))]) : evSig (tb12 n) Try.f12 [.c false (.v true (.rs 5 (.int .u8)))] [.c false (.v true .bool)] x = F12 n x.1 := by kernel_rfl
theorem con12_ok (n : Nat) : Con.ok Try.prog 12 (con12 n) := conOf_ok (tb12_ok n) (body_la (by kernel_rfl : Try.f12.body = some code12) (la12 n)) Try.func12 (enters Try.func12 (by kernel_rfl) (by kernel_rfl)) rfl rfl (ev12 n)
end Go.Proofs.Ytaehbfaldofmbaa.Ev
