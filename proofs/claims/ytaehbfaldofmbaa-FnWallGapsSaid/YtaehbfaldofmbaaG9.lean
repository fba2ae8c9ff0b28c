/- Plain functions that the loaded code comes to, and that it does. Conditions: none. -/
import Derived.Test.YtaehbfaldofmbaaGD
import Derived.Test.YtaehbfaldofmbaaGW
namespace Go.Proofs.Ytaehbfaldofmbaa.Ev
open Go Go.Proofs
/-! ### loop.example/fathomline/spec.DrawWallGaps -/
def F44 (n : Nat) (a0 : List Int) : Option (rdens [.c false (.v true (.rs 5 (.int .u8)))] [.c true (.v true (.rs 50 (.rs 52 (.pair (.int .i64) (.pair (.int .i64) (.int .i64))))))]) :=
  (F88 n (a0)).bind fun y1 =>
  (F93 n (((y1.fst.fst.fst, y1.fst.fst.snd), ()))).bind fun y2 =>
  some (y2.fst, ())
noncomputable def con44 (n : Nat) : Con := conOf [.c false (.v true (.rs 5 (.int .u8)))] [.c true (.v true (.rs 50 (.rs 52 (.pair (.int .i64) (.pair (.int .i64) (.int .i64))))))] fun x => F44 n x.1
noncomputable def tb44 (n : Nat) : Tb := ⟨tiOf Try.prog, conL [(88, con88 n), (93, con93 n)], n, [], 6, lpL [], ctL [], []⟩
noncomputable def code44 : Code := Try.f44.body.getD .skip
theorem tb44_ok (n : Nat) : (tb44 n).ok Try.prog := tbOk mixed (⟨con88_ok n, ⟨con93_ok n, trivial⟩⟩)
theorem blocks44 : blocks code44 = [] := by kernel_rfl
theorem la44 (n : Nat) : LpAll (tb44 n) code44 := lpAll blocks44 (bl_nil) rfl (cs_no fun _ => rfl) (by kernel_rfl)
theorem ev44 (n : Nat) (x : pdens [.c false (.v true (.rs 5 (.int .u8)))]) : evSig (tb44 n) Try.f44 [.c false (.v true (.rs 5 (.int .u8)))] [.c true (.v true (.rs 50 (.rs 52 (.pair (.int .i64) (.pair (.int .i64) (.int .i64))))))] x = F44 n x.1 := by kernel_rfl
theorem con44_ok (n : Nat) : Con.ok Try.prog 44 (con44 n) := conOf_ok (tb44_ok n) (body_la (by kernel_rfl : Try.f44.body = some code44) (la44 n)) Try.func44 (enters Try.func44 (by kernel_rfl) (by kernel_rfl)) rfl rfl (ev44 n)
/-! ### loop.example/fathomline/laws.FnWallGaps -/
def J9_11 (n : Nat) (x13 : List (List (Int × Int × Int)) × Unit) (x14 : Int) (x15 : Int) (x16 : Int) (x17 : Int) : Option (odens [(.normal, [(3, (.b 44 [(.v true (.rs 50 (.rs 52 (.pair (.int .i64) (.pair (.int .i64) (.int .i64))))))])), (4, (.c false (.v true (.int .i64)))), (5, (.c false (.v true (.int .i64)))), (6, (.c false (.v true (.int .i64)))), (7, (.c false (.v true (.int .i64))))])]) :=
    some (Sum.inl ((x13.fst, ()), x14, x15, x16, Go.IntKind.i64.wrap (x17 + (1 : Int)), ()))
def L9_0 (n : Nat) : Nat → List (List (Int × Int × Int)) × Unit → Int → Int → Int → Int → Option (odens [((.exit 0), [(4, (.c false (.v true (.int .i64)))), (5, (.c false (.v true (.int .i64)))), (6, (.c false (.v true (.int .i64))))])])
  | 0, _, _, _, _, _ => none
  | m + 1, x8, x9, x10, x11, x12 =>
    cond (Decidable.decide (x12 < (↑(List.length x8.fst) : Int)))
    (if (0 : Int) ≤ x12 then
     if x12 < (↑(List.length x8.fst) : Int) then
     if (0 : Int) ≤ x12 then
     if x12 < (↑(List.length x8.fst) : Int) then
     cond (Decidable.decide ((↑(List.length (List.getD x8.fst x12.toNat [])) : Int) > (0 : Int)))
     (match J9_11 n ((x8.fst, ())) (x9) (Go.IntKind.i64.wrap (x10 + (↑(List.length (List.getD x8.fst x12.toNat [])) : Int))) (Go.IntKind.i64.wrap (x11 + (1 : Int))) (x12) with
      | none => none
      | some (Sum.inl v18) =>
       L9_0 n m ((v18.fst.fst, ())) (v18.snd.fst) (v18.snd.snd.fst) (v18.snd.snd.snd.fst) (v18.snd.snd.snd.snd.fst))
     (match J9_11 n ((x8.fst, ())) (x9) (Go.IntKind.i64.wrap (x10 + (↑(List.length (List.getD x8.fst x12.toNat [])) : Int))) (x11) (x12) with
      | none => none
      | some (Sum.inl v19) =>
       L9_0 n m ((v19.fst.fst, ())) (v19.snd.fst) (v19.snd.snd.fst) (v19.snd.snd.snd.fst) (v19.snd.snd.snd.snd.fst))
     else none
     else none
     else none
     else none)
    (some (Sum.inl (x9, x10, x11, ())))
def J9_7 (n : Nat) (x6 : List (List (Int × Int × Int)) × Unit) (x7 : Int) : Option (odens [(.ret, [(2, (.c false (.v true .bool)))])]) :=
    match L9_0 n n ((x6.fst, ())) (x7) ((0 : Int)) ((0 : Int)) ((0 : Int)) with
    | none => none
    | some (Sum.inl v20) =>
     some (Sum.inl (v20.fst == Go.IntKind.i64.wrap (v20.snd.fst - v20.snd.snd.fst), ()))
def F9 (n : Nat) (a0 : List Int) : Option (rdens [.c false (.v true (.rs 5 (.int .u8)))] [.c false (.v true .bool)]) :=
  cond (Decidable.decide ((↑a0.length : Int) > (1048576 : Int)))
  (some (Bool.true, ()))
  ((F44 n (a0)).bind fun y1 =>
   (F41 n (y1.fst)).bind fun y2 =>
   (F40 n (y1.fst)).bind fun y3 =>
   cond (y2.fst != y3.fst)
   ((F40 n (y1.fst)).bind fun y4 =>
    some (y2.fst == y4.fst, ()))
   (cond (Decidable.decide (y2.fst < (0 : Int)))
    ((F40 n (y1.fst)).bind fun y5 =>
     some (y2.fst == y5.fst, ()))
    (match J9_7 n ((y1.fst, ())) (y2.fst) with
     | none => none
     | some (Sum.inl v21) =>
      some (v21.fst, ()))))
noncomputable def con9 (n : Nat) : Con := conOf [.c false (.v true (.rs 5 (.int .u8)))] [.c false (.v true .bool)] fun x => F9 n x.1
noncomputable def tb9 (n : Nat) : Tb := ⟨tiOf Try.prog, conL [(44, con44 n), (41, con41 n), (40, con40 n)], n, [], 56, lpL [(0, ⟨[(3, (.b 44 [(.v true (.rs 50 (.rs 52 (.pair (.int .i64) (.pair (.int .i64) (.int .i64))))))])), (4, (.c false (.v true (.int .i64)))), (5, (.c false (.v true (.int .i64)))), (6, (.c false (.v true (.int .i64)))), (7, (.c false (.v true (.int .i64))))], [((.exit 0), [(4, (.c false (.v true (.int .i64)))), (5, (.c false (.v true (.int .i64)))), (6, (.c false (.v true (.int .i64))))])], fun m v => L9_0 n m v.1 v.2.1 v.2.2.1 v.2.2.2.1 v.2.2.2.2.1⟩)], ctL [(11, ⟨[(3, (.b 44 [(.v true (.rs 50 (.rs 52 (.pair (.int .i64) (.pair (.int .i64) (.int .i64))))))])), (4, (.c false (.v true (.int .i64)))), (5, (.c false (.v true (.int .i64)))), (6, (.c false (.v true (.int .i64)))), (7, (.c false (.v true (.int .i64))))], [(.normal, [(3, (.b 44 [(.v true (.rs 50 (.rs 52 (.pair (.int .i64) (.pair (.int .i64) (.int .i64))))))])), (4, (.c false (.v true (.int .i64)))), (5, (.c false (.v true (.int .i64)))), (6, (.c false (.v true (.int .i64)))), (7, (.c false (.v true (.int .i64))))])], fun v => J9_11 n v.1 v.2.1 v.2.2.1 v.2.2.2.1 v.2.2.2.2.1⟩), (7, ⟨[(3, (.b 44 [(.v true (.rs 50 (.rs 52 (.pair (.int .i64) (.pair (.int .i64) (.int .i64))))))])), (4, (.c false (.v true (.int .i64))))], [(.ret, [(2, (.c false (.v true .bool)))])], fun v => J9_7 n v.1 v.2.1⟩)], []⟩
noncomputable def code9 : Code := Try.f9.body.getD .skip
theorem tb9_ok (n : Nat) : (tb9 n).ok Try.prog := tbOk mixed (⟨con44_ok n, ⟨con41_ok n, ⟨con40_ok n, trivial⟩⟩⟩)
theorem lp9_0 (n : Nat) : LpAt (tb9 n) (loopBody code9 0) 0 := lpAt rfl (fun _ => by kernel_rfl) (fun _ _ => by kernel_rfl)
theorem blocks9 : blocks code9 = [(0, .loop (loopBody code9 0)), (1, blockBody code9 1)] := by kernel_rfl
theorem ct9_7 (n : Nat) : CtOk (tb9 n) (sec code9 6).2 ⟨[(3, (.b 44 [(.v true (.rs 50 (.rs 52 (.pair (.int .i64) (.pair (.int .i64) (.int .i64))))))])), (4, (.c false (.v true (.int .i64))))], [(.ret, [(2, (.c false (.v true .bool)))])], fun v => J9_7 n v.1 v.2.1⟩ := fun _ => by kernel_rfl
theorem ct9_11 (n : Nat) : CtOk (tb9 n) (sec code9 15).2 ⟨[(3, (.b 44 [(.v true (.rs 50 (.rs 52 (.pair (.int .i64) (.pair (.int .i64) (.int .i64))))))])), (4, (.c false (.v true (.int .i64)))), (5, (.c false (.v true (.int .i64)))), (6, (.c false (.v true (.int .i64)))), (7, (.c false (.v true (.int .i64))))], [(.normal, [(3, (.b 44 [(.v true (.rs 50 (.rs 52 (.pair (.int .i64) (.pair (.int .i64) (.int .i64))))))])), (4, (.c false (.v true (.int .i64)))), (5, (.c false (.v true (.int .i64)))), (6, (.c false (.v true (.int .i64)))), (7, (.c false (.v true (.int .i64))))])], fun v => J9_11 n v.1 v.2.1 v.2.2.1 v.2.2.2.1 v.2.2.2.2.1⟩ := fun _ => by kernel_rfl
theorem secs9 : seconds code9 = [(some 1, (sec code9 0).2), (some 3, (sec code9 1).2), (none, (sec code9 2).2), (none, (sec code9 3).2), (some 4, (sec code9 4).2), (some 5, (sec code9 5).2), (some 7, (sec code9 6).2), (none, (sec code9 7).2), (none, (sec code9 8).2), (some 8, (sec code9 9).2), (some 9, (sec code9 10).2), (some 15, (sec code9 11).2), (some 10, (sec code9 12).2), (some 12, (sec code9 13).2), (none, (sec code9 14).2), (some 11, (sec code9 15).2), (some 13, (sec code9 16).2), (none, (sec code9 17).2), (none, (sec code9 18).2)] := by kernel_rfl
theorem la9 (n : Nat) : LpAll (tb9 n) code9 := lpAll blocks9 (bl_loop (lp9_0 n) (bl_none rfl (bl_nil))) secs9 (cs_none rfl (cs_none rfl (cs_none rfl (cs_none rfl (cs_none rfl (cs_none rfl (cs_one rfl (ct9_7 n) (cs_none rfl (cs_none rfl (cs_none rfl (cs_none rfl (cs_none rfl (cs_none rfl (cs_none rfl (cs_none rfl (cs_one rfl (ct9_11 n) (cs_none rfl (cs_none rfl (cs_none rfl (cs_nil)))))))))))))))))))) (by kernel_rfl)
theorem ev9 (n : Nat) (x : pdens [.c false (.v true (.rs 5 (.int .u8)))]) : evSig (tb9 n) Try.f9 [.c false (.v true (.rs 5 (.int .u8)))] [.c false (.v true .bool)] x = F9 n x.1 := by kernel_rfl
theorem con9_ok (n : Nat) : Con.ok Try.prog 9 (con9 n) := conOf_ok (tb9_ok n) (body_la (by kernel_rfl : Try.f9.body = some code9) (la9 n)) Try.func9 (enters Try.func9 (by kernel_rfl) (by kernel_rfl)) rfl rfl (ev9 n)
end Go.Proofs.Ytaehbfaldofmbaa.Ev
