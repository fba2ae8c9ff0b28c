/- Plain functions that the loaded code comes to, and that it does. Conditions: none. -/
import Derived.Test.YtaehbfaldofmbaaGD
import Derived.Test.YtaehbfaldofmbaaGR
namespace Go.Proofs.Ytaehbfaldofmbaa.Ev
open Go Go.Proofs
/-! ### loop.example/fathomline/spec.DrawProgReads -/
def F45 (n : Nat) (a0 : List Int) : Option (rdens [.c false (.v true (.rs 5 (.int .u8)))] [.c true (.v true (.rs 50 (.rs 52 (.pair (.int .i64) (.pair (.int .i64) (.int .i64))))))]) :=
  (F88 n (a0)).bind fun y1 =>
  (F93 n (((y1.fst.fst.fst, y1.fst.fst.snd), ()))).bind fun y2 =>
  some (y2.fst, ())
noncomputable def con45 (n : Nat) : Con := conOf [.c false (.v true (.rs 5 (.int .u8)))] [.c true (.v true (.rs 50 (.rs 52 (.pair (.int .i64) (.pair (.int .i64) (.int .i64))))))] fun x => F45 n x.1
noncomputable def tb45 (n : Nat) : Tb := ⟨tiOf Try.prog, conL [(88, con88 n), (93, con93 n)], n, [], 6, lpL [], ctL [], []⟩
noncomputable def code45 : Code := Try.f45.body.getD .skip
theorem tb45_ok (n : Nat) : (tb45 n).ok Try.prog := tbOk mixed (⟨con88_ok n, ⟨con93_ok n, trivial⟩⟩)
theorem blocks45 : blocks code45 = [] := by kernel_rfl
theorem la45 (n : Nat) : LpAll (tb45 n) code45 := lpAll blocks45 (bl_nil) rfl (cs_no fun _ => rfl) (by kernel_rfl)
theorem ev45 (n : Nat) (x : pdens [.c false (.v true (.rs 5 (.int .u8)))]) : evSig (tb45 n) Try.f45 [.c false (.v true (.rs 5 (.int .u8)))] [.c true (.v true (.rs 50 (.rs 52 (.pair (.int .i64) (.pair (.int .i64) (.int .i64))))))] x = F45 n x.1 := by kernel_rfl
theorem con45_ok (n : Nat) : Con.ok Try.prog 45 (con45 n) := conOf_ok (tb45_ok n) (body_la (by kernel_rfl : Try.f45.body = some code45) (la45 n)) Try.func45 (enters Try.func45 (by kernel_rfl) (by kernel_rfl)) rfl rfl (ev45 n)
/-! ### loop.example/fathomline/laws.FnProgReads -/
def L10_0 (n : Nat) : Nat → List (List (Int × Int × Int)) × Unit → Int → Int → Int → Option (odens [((.exit 0), [(4, (.c false (.v true (.int .i64)))), (5, (.c false (.v true (.int .i64))))])])
  | 0, _, _, _, _ => none
  | m + 1, x8, x9, x10, x11 =>
    cond (Decidable.decide (x11 < (↑(List.length x8.fst) : Int)))
    (if (0 : Int) ≤ Go.IntKind.i64.wrap (x11 + (1 : Int)) then
     if Go.IntKind.i64.wrap (x11 + (1 : Int)) ≤ (↑(List.length x8.fst) : Int) then
     if (0 : Int) ≤ x11 then
     if x11.toNat ≤ (Go.IntKind.i64.wrap (x11 + (1 : Int))).toNat then
     (F43 n (List.drop x11.toNat (List.take (Go.IntKind.i64.wrap (x11 + (1 : Int))).toNat x8.fst))).bind fun y12 =>
     L10_0 n m ((x8.fst, ())) (x9) (Go.IntKind.i64.wrap (x10 + y12.fst)) (Go.IntKind.i64.wrap (x11 + (1 : Int)))
     else none
     else none
     else none
     else none)
    (some (Sum.inl (x9, x10, ())))
def J10_7 (n : Nat) (x6 : List (List (Int × Int × Int)) × Unit) (x7 : Int) : Option (odens [(.ret, [(2, (.c false (.v true .bool)))])]) :=
    match L10_0 n n ((x6.fst, ())) (x7) ((0 : Int)) ((0 : Int)) with
    | none => none
    | some (Sum.inl v13) =>
     cond (v13.snd.fst == v13.fst)
     (some (Sum.inl (Decidable.decide (v13.fst ≤ (6 : Int)), ())))
     (some (Sum.inl (Bool.false, ())))
def F10 (n : Nat) (a0 : List Int) : Option (rdens [.c false (.v true (.rs 5 (.int .u8)))] [.c false (.v true .bool)]) :=
  cond (Decidable.decide ((↑a0.length : Int) > (1048576 : Int)))
  (some (Bool.true, ()))
  ((F45 n (a0)).bind fun y1 =>
   (F43 n (y1.fst)).bind fun y2 =>
   (F42 n (y1.fst)).bind fun y3 =>
   cond (y2.fst != y3.fst)
   ((F42 n (y1.fst)).bind fun y4 =>
    some (y2.fst == y4.fst, ()))
   (cond (Decidable.decide (y2.fst < (0 : Int)))
    ((F42 n (y1.fst)).bind fun y5 =>
     some (y2.fst == y5.fst, ()))
    (match J10_7 n ((y1.fst, ())) (y2.fst) with
     | none => none
     | some (Sum.inl v14) =>
      some (v14.fst, ()))))
noncomputable def con10 (n : Nat) : Con := conOf [.c false (.v true (.rs 5 (.int .u8)))] [.c false (.v true .bool)] fun x => F10 n x.1
noncomputable def tb10 (n : Nat) : Tb := ⟨tiOf Try.prog, conL [(45, con45 n), (43, con43 n), (42, con42 n)], n, [], 50, lpL [(0, ⟨[(3, (.b 44 [(.v true (.rs 50 (.rs 52 (.pair (.int .i64) (.pair (.int .i64) (.int .i64))))))])), (4, (.c false (.v true (.int .i64)))), (5, (.c false (.v true (.int .i64)))), (6, (.c false (.v true (.int .i64))))], [((.exit 0), [(4, (.c false (.v true (.int .i64)))), (5, (.c false (.v true (.int .i64))))])], fun m v => L10_0 n m v.1 v.2.1 v.2.2.1 v.2.2.2.1⟩)], ctL [(7, ⟨[(3, (.b 44 [(.v true (.rs 50 (.rs 52 (.pair (.int .i64) (.pair (.int .i64) (.int .i64))))))])), (4, (.c false (.v true (.int .i64))))], [(.ret, [(2, (.c false (.v true .bool)))])], fun v => J10_7 n v.1 v.2.1⟩)], []⟩
noncomputable def code10 : Code := Try.f10.body.getD .skip
theorem tb10_ok (n : Nat) : (tb10 n).ok Try.prog := tbOk mixed (⟨con45_ok n, ⟨con43_ok n, ⟨con42_ok n, trivial⟩⟩⟩)
theorem lp10_0 (n : Nat) : LpAt (tb10 n) (loopBody code10 0) 0 := lpAt rfl (fun _ => by kernel_rfl) (fun _ _ => by kernel_rfl)
theorem blocks10 : blocks code10 = [(0, .loop (loopBody code10 0)), (1, blockBody code10 1)] := by kernel_rfl
theorem ct10_7 (n : Nat) : CtOk (tb10 n) (sec code10 6).2 ⟨[(3, (.b 44 [(.v true (.rs 50 (.rs 52 (.pair (.int .i64) (.pair (.int .i64) (.int .i64))))))])), (4, (.c false (.v true (.int .i64))))], [(.ret, [(2, (.c false (.v true .bool)))])], fun v => J10_7 n v.1 v.2.1⟩ := fun _ => by kernel_rfl
theorem secs10 : seconds code10 = [(some 1, (sec code10 0).2), (some 3, (sec code10 1).2), (none, (sec code10 2).2), (none, (sec code10 3).2), (some 4, (sec code10 4).2), (some 5, (sec code10 5).2), (some 7, (sec code10 6).2), (none, (sec code10 7).2), (none, (sec code10 8).2), (some 8, (sec code10 9).2), (some 12, (sec code10 10).2), (some 9, (sec code10 11).2), (some 11, (sec code10 12).2), (none, (sec code10 13).2), (some 10, (sec code10 14).2), (none, (sec code10 15).2)] := by kernel_rfl
theorem la10 (n : Nat) : LpAll (tb10 n) code10 := lpAll blocks10 (bl_loop (lp10_0 n) (bl_none rfl (bl_nil))) secs10 (cs_none rfl (cs_none rfl (cs_none rfl (cs_none rfl (cs_none rfl (cs_none rfl (cs_one rfl (ct10_7 n) (cs_none rfl (cs_none rfl (cs_none rfl (cs_none rfl (cs_none rfl (cs_none rfl (cs_none rfl (cs_none rfl (cs_none rfl (cs_nil))))))))))))))))) (by kernel_rfl)
theorem ev10 (n : Nat) (x : pdens [.c false (.v true (.rs 5 (.int .u8)))]) : evSig (tb10 n) Try.f10 [.c false (.v true (.rs 5 (.int .u8)))] [.c false (.v true .bool)] x = F10 n x.1 := by kernel_rfl
theorem con10_ok (n : Nat) : Con.ok Try.prog 10 (con10 n) := conOf_ok (tb10_ok n) (body_la (by kernel_rfl : Try.f10.body = some code10) (la10 n)) Try.func10 (enters Try.func10 (by kernel_rfl) (by kernel_rfl)) rfl rfl (ev10 n)
end Go.Proofs.Ytaehbfaldofmbaa.Ev
