/- Plain functions that the loaded code comes to, and that it does. Conditions: none. -/
import Derived.Test.YtaehbfaldofmbaaGD
namespace Go.Proofs.Ytaehbfaldofmbaa.Ev
open Go Go.Proofs
/-! ### loop.example/fathomline/spec.DrawProgOk -/
def F39 (n : Nat) (a0 : List Int) : Option (rdens [.c false (.v true (.rs 5 (.int .u8)))] [.c true (.v true (.rs 50 (.rs 52 (.pair (.int .i64) (.pair (.int .i64) (.int .i64))))))]) :=
  (F88 n (a0)).bind fun y1 =>
  (F89 n (((y1.fst.fst.fst, y1.fst.fst.snd), ()))).bind fun y2 =>
  (F90 n (((y2.snd.fst.fst.fst, y2.snd.fst.fst.snd), ())) ((2 : Int))).bind fun y3 =>
  cond (y3.fst == (0 : Int))
  ((F91 n (((y3.snd.fst.fst.fst, y3.snd.fst.fst.snd), ())) (y2.fst)).bind fun y4 =>
   some (y4.fst, ()))
  (some (y2.fst, ()))
noncomputable def con39 (n : Nat) : Con := conOf [.c false (.v true (.rs 5 (.int .u8)))] [.c true (.v true (.rs 50 (.rs 52 (.pair (.int .i64) (.pair (.int .i64) (.int .i64))))))] fun x => F39 n x.1
noncomputable def tb39 (n : Nat) : Tb := ⟨tiOf Try.prog, conL [(88, con88 n), (89, con89 n), (90, con90 n), (91, con91 n)], n, [], 16, lpL [], ctL [], []⟩
noncomputable def code39 : Code := Try.f39.body.getD .skip
theorem tb39_ok (n : Nat) : (tb39 n).ok Try.prog := tbOk mixed (⟨con88_ok n, ⟨con89_ok n, ⟨con90_ok n, ⟨con91_ok n, trivial⟩⟩⟩⟩)
theorem blocks39 : blocks code39 = [] := by kernel_rfl
theorem la39 (n : Nat) : LpAll (tb39 n) code39 := lpAll blocks39 (bl_nil) rfl (cs_no fun _ => rfl) (by kernel_rfl)
theorem ev39 (n : Nat) (x : pdens [.c false (.v true (.rs 5 (.int .u8)))]) : evSig (tb39 n) Try.f39 [.c false (.v true (.rs 5 (.int .u8)))] [.c true (.v true (.rs 50 (.rs 52 (.pair (.int .i64) (.pair (.int .i64) (.int .i64))))))] x = F39 n x.1 := by kernel_rfl
theorem con39_ok (n : Nat) : Con.ok Try.prog 39 (con39 n) := conOf_ok (tb39_ok n) (body_la (by kernel_rfl : Try.f39.body = some code39) (la39 n)) Try.func39 (enters Try.func39 (by kernel_rfl) (by kernel_rfl)) rfl rfl (ev39 n)
/-! ### loop.example/fathomline/laws.FnProgLess -/
def J6_14 (n : Nat) (x9 : List (Int × Int × Int)) (x10 : List (List (Int × Int × Int)) × Unit) : Option (odens [(.ret, [(2, (.c false (.v true .bool)))])]) :=
    if (0 : Int) ≤ Go.IntKind.i64.wrap ((↑x9.length : Int) - (1 : Int)) then
    if Go.IntKind.i64.wrap ((↑x9.length : Int) - (1 : Int)) ≤ (↑x9.length : Int) then
    if (List.length x10.fst + [List.drop (0 : Nat) (List.take (Go.IntKind.i64.wrap ((↑x9.length : Int) - (1 : Int))).toNat x9)].length) * (24 : Nat) ≤ (140737488355328 : Nat) then
    (F37 n (x10.fst ++ [List.drop (0 : Nat) (List.take (Go.IntKind.i64.wrap ((↑x9.length : Int) - (1 : Int))).toNat x9)])).bind fun y11 =>
    some (Sum.inl (y11.fst, ()))
    else none
    else none
    else none
def J6_7 (n : Nat) (x7 : List (List (Int × Int × Int)) × Unit) : Option (odens [(.ret, [(2, (.c false (.v true .bool)))])]) :=
    if (0 : Int) ≤ Go.IntKind.i64.wrap ((↑(List.length x7.fst) : Int) - (1 : Int)) then
    if Go.IntKind.i64.wrap ((↑(List.length x7.fst) : Int) - (1 : Int)) < (↑(List.length x7.fst) : Int) then
    if (0 : Int) ≤ Go.IntKind.i64.wrap ((↑(List.length x7.fst) : Int) - (1 : Int)) then
    if Go.IntKind.i64.wrap ((↑(List.length x7.fst) : Int) - (1 : Int)) ≤ (↑(List.length x7.fst) : Int) then
    if ((0 : Nat) + (List.drop (0 : Nat) (List.take (Go.IntKind.i64.wrap ((↑(List.length x7.fst) : Int) - (1 : Int))).toNat x7.fst)).length) * (24 : Nat) ≤ (140737488355328 : Nat) then
    (F37 n (List.drop (0 : Nat) (List.take (Go.IntKind.i64.wrap ((↑(List.length x7.fst) : Int) - (1 : Int))).toNat x7.fst))).bind fun y8 =>
    cond (!y8.fst)
    (some (Sum.inl (Bool.false, ())))
    (cond ((↑(List.length (List.getD x7.fst (Go.IntKind.i64.wrap ((↑(List.length x7.fst) : Int) - (1 : Int))).toNat [])) : Int) == (0 : Int))
     (some (Sum.inl (Bool.true, ())))
     (if (0 : Int) ≤ Go.IntKind.i64.wrap ((↑(List.length (List.getD x7.fst (Go.IntKind.i64.wrap ((↑(List.length x7.fst) : Int) - (1 : Int))).toNat [])) : Int) - (1 : Int)) then
      if Go.IntKind.i64.wrap ((↑(List.length (List.getD x7.fst (Go.IntKind.i64.wrap ((↑(List.length x7.fst) : Int) - (1 : Int))).toNat [])) : Int) - (1 : Int)) < (↑(List.length (List.getD x7.fst (Go.IntKind.i64.wrap ((↑(List.length x7.fst) : Int) - (1 : Int))).toNat [])) : Int) then
      cond ((List.getD (List.getD x7.fst (Go.IntKind.i64.wrap ((↑(List.length x7.fst) : Int) - (1 : Int))).toNat []) (Go.IntKind.i64.wrap ((↑(List.length (List.getD x7.fst (Go.IntKind.i64.wrap ((↑(List.length x7.fst) : Int) - (1 : Int))).toNat [])) : Int) - (1 : Int))).toNat ((0 : Int), (0 : Int), (0 : Int))).fst == (8 : Int))
      (some (Sum.inl (Bool.true, ())))
      (match J6_14 n (List.getD x7.fst (Go.IntKind.i64.wrap ((↑(List.length x7.fst) : Int) - (1 : Int))).toNat []) ((List.drop (0 : Nat) (List.take (Go.IntKind.i64.wrap ((↑(List.length x7.fst) : Int) - (1 : Int))).toNat x7.fst), ())) with
       | none => none
       | some (Sum.inl v12) =>
        some (Sum.inl (v12.fst, ())))
      else none
      else none))
    else none
    else none
    else none
    else none
    else none
def F6 (n : Nat) (a0 : List Int) : Option (rdens [.c false (.v true (.rs 5 (.int .u8)))] [.c false (.v true .bool)]) :=
  cond (Decidable.decide ((↑a0.length : Int) > (1048576 : Int)))
  (some (Bool.true, ()))
  ((F39 n (a0)).bind fun y1 =>
   (F37 n (y1.fst)).bind fun y2 =>
   (F35 n (y1.fst)).bind fun y3 =>
   cond (!y2.fst == y3.fst)
   ((F35 n (y1.fst)).bind fun y4 =>
    some (y2.fst == y4.fst, ()))
   (cond (!y2.fst)
    ((F35 n (y1.fst)).bind fun y5 =>
     some (y2.fst == y5.fst, ()))
    (cond ((↑(List.length y1.fst) : Int) == (0 : Int))
     ((F35 n (y1.fst)).bind fun y6 =>
      some (y2.fst == y6.fst, ()))
     (match J6_7 n ((y1.fst, ())) with
      | none => none
      | some (Sum.inl v13) =>
       some (v13.fst, ())))))
noncomputable def con6 (n : Nat) : Con := conOf [.c false (.v true (.rs 5 (.int .u8)))] [.c false (.v true .bool)] fun x => F6 n x.1
noncomputable def tb6 (n : Nat) : Tb := ⟨tiOf Try.prog, conL [(39, con39 n), (37, con37 n), (35, con35 n)], n, [], 78, lpL [], ctL [(14, ⟨[(6, (.c false (.v true (.rs 52 (.pair (.int .i64) (.pair (.int .i64) (.int .i64))))))), (7, (.b 44 [(.r 50 (.rs 52 (.pair (.int .i64) (.pair (.int .i64) (.int .i64)))))]))], [(.ret, [(2, (.c false (.v true .bool)))])], fun v => J6_14 n v.1 v.2.1⟩), (7, ⟨[(3, (.b 44 [(.v true (.rs 50 (.rs 52 (.pair (.int .i64) (.pair (.int .i64) (.int .i64))))))]))], [(.ret, [(2, (.c false (.v true .bool)))])], fun v => J6_7 n v.1⟩)], []⟩
noncomputable def code6 : Code := Try.f6.body.getD .skip
theorem tb6_ok (n : Nat) : (tb6 n).ok Try.prog := tbOk mixed (⟨con39_ok n, ⟨con37_ok n, ⟨con35_ok n, trivial⟩⟩⟩)
theorem blocks6 : blocks code6 = [] := by kernel_rfl
theorem ct6_7 (n : Nat) : CtOk (tb6 n) (sec code6 6).2 ⟨[(3, (.b 44 [(.v true (.rs 50 (.rs 52 (.pair (.int .i64) (.pair (.int .i64) (.int .i64))))))]))], [(.ret, [(2, (.c false (.v true .bool)))])], fun v => J6_7 n v.1⟩ := fun _ => by kernel_rfl
theorem ct6_14 (n : Nat) : CtOk (tb6 n) (sec code6 15).2 ⟨[(6, (.c false (.v true (.rs 52 (.pair (.int .i64) (.pair (.int .i64) (.int .i64))))))), (7, (.b 44 [(.r 50 (.rs 52 (.pair (.int .i64) (.pair (.int .i64) (.int .i64)))))]))], [(.ret, [(2, (.c false (.v true .bool)))])], fun v => J6_14 n v.1 v.2.1⟩ := fun _ => by kernel_rfl
theorem secs6 : seconds code6 = [(some 1, (sec code6 0).2), (some 3, (sec code6 1).2), (none, (sec code6 2).2), (none, (sec code6 3).2), (some 4, (sec code6 4).2), (some 5, (sec code6 5).2), (some 7, (sec code6 6).2), (none, (sec code6 7).2), (none, (sec code6 8).2), (some 8, (sec code6 9).2), (some 9, (sec code6 10).2), (some 10, (sec code6 11).2), (some 12, (sec code6 12).2), (none, (sec code6 13).2), (none, (sec code6 14).2), (some 14, (sec code6 15).2), (none, (sec code6 16).2), (none, (sec code6 17).2), (some 15, (sec code6 18).2), (none, (sec code6 19).2)] := by kernel_rfl
theorem la6 (n : Nat) : LpAll (tb6 n) code6 := lpAll blocks6 (bl_nil) secs6 (cs_none rfl (cs_none rfl (cs_none rfl (cs_none rfl (cs_none rfl (cs_none rfl (cs_one rfl (ct6_7 n) (cs_none rfl (cs_none rfl (cs_none rfl (cs_none rfl (cs_none rfl (cs_none rfl (cs_none rfl (cs_none rfl (cs_one rfl (ct6_14 n) (cs_none rfl (cs_none rfl (cs_none rfl (cs_none rfl (cs_nil))))))))))))))))))))) (by kernel_rfl)
theorem ev6 (n : Nat) (x : pdens [.c false (.v true (.rs 5 (.int .u8)))]) : evSig (tb6 n) Try.f6 [.c false (.v true (.rs 5 (.int .u8)))] [.c false (.v true .bool)] x = F6 n x.1 := by kernel_rfl
theorem con6_ok (n : Nat) : Con.ok Try.prog 6 (con6 n) := conOf_ok (tb6_ok n) (body_la (by kernel_rfl : Try.f6.body = some code6) (la6 n)) Try.func6 (enters Try.func6 (by kernel_rfl) (by kernel_rfl)) rfl rfl (ev6 n)
end Go.Proofs.Ytaehbfaldofmbaa.Ev
