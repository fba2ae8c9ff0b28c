/- Plain functions that the loaded code comes to, and that it does. Conditions: none. -/
import Derived.Test.YtdacfaincamliaaGA
namespace Go.Proofs.Ytdacfaincamliaa.Ev
open Go Go.Proofs
/-! ### loop.example/fathomline/spec.l6Open -/
def J74_3 (n : Nat) (x1 : List Int) : Option (odens [(.ret, [(2, (.b 145 [(.v true (.pair (.rs 5 (.int .u8)) (.int .i64)))]))])]) :=
    some (Sum.inl (((x1, (0 : Int)), ()), ()))
def F74 (n : Nat) (a0 : List Int) : Option (rdens [.c false (.v true (.rs 5 (.int .u8)))] [.b 145 [.v true (.pair (.rs 5 (.int .u8)) (.int .i64))]]) :=
  cond (Decidable.decide ((↑a0.length : Int) > (2000 : Int)))
  (if (2000 : Int) ≤ (↑a0.length : Int) then
   match J74_3 n (List.drop (0 : Nat) (List.take (Int.toNat (2000 : Int)) a0)) with
   | none => none
   | some (Sum.inl v2) =>
    some (((v2.fst.fst.fst, v2.fst.fst.snd), ()), ())
   else none)
  (match J74_3 n (a0) with
   | none => none
   | some (Sum.inl v3) =>
    some (((v3.fst.fst.fst, v3.fst.fst.snd), ()), ()))
noncomputable def con74 (n : Nat) : Con := conOf [.c false (.v true (.rs 5 (.int .u8)))] [.b 145 [.v true (.pair (.rs 5 (.int .u8)) (.int .i64))]] fun x => F74 n x.1
noncomputable def tb74 (n : Nat) : Tb := ⟨tiOf Try.prog, conL [], n, [], 11, lpL [], ctL [(3, ⟨[(0, (.c false (.v true (.rs 5 (.int .u8)))))], [(.ret, [(2, (.b 145 [(.v true (.pair (.rs 5 (.int .u8)) (.int .i64)))]))])], fun v => J74_3 n v.1⟩)], [], true⟩
noncomputable def code74 : Code := Try.f74.body.getD .skip
theorem tb74_ok (n : Nat) : (tb74 n).ok Try.prog := tbOk mixed (trivial)
theorem blocks74 : blocks code74 = [] := by kernel_rfl
theorem ct74_3 (n : Nat) : CtOk (tb74 n) (sec code74 1).2 ⟨[(0, (.c false (.v true (.rs 5 (.int .u8)))))], [(.ret, [(2, (.b 145 [(.v true (.pair (.rs 5 (.int .u8)) (.int .i64)))]))])], fun v => J74_3 n v.1⟩ := fun _ => by kernel_rfl
theorem secs74 : seconds code74 = [(some 1, (sec code74 0).2), (some 3, (sec code74 1).2), (none, (sec code74 2).2), (none, (sec code74 3).2)] := by kernel_rfl
theorem la74 (n : Nat) : LpAll (tb74 n) code74 := lpAll blocks74 (bl_nil) secs74 (cs_none rfl (cs_one rfl (ct74_3 n) (cs_none rfl (cs_none rfl (cs_nil))))) (by kernel_rfl)
theorem ev74 (n : Nat) (x : pdens [.c false (.v true (.rs 5 (.int .u8)))]) : evSig (tb74 n) Try.f74 [.c false (.v true (.rs 5 (.int .u8)))] [.b 145 [.v true (.pair (.rs 5 (.int .u8)) (.int .i64))]] x = F74 n x.1 := by kernel_rfl
theorem con74_ok (n : Nat) : Con.ok Try.prog 74 (con74 n) := conOf_ok (tb74_ok n) (body_la (by kernel_rfl : Try.f74.body = some code74) (la74 n)) Try.func74 (enters Try.func74 (by kernel_rfl) (by kernel_rfl)) rfl rfl (ev74 n)
/-! ### (*loop.example/fathomline/spec.l6Rd).pick -/
def J114_4 (n : Nat) (x1 : (List Int × Int) × Unit) (x2 : Int) : Option (odens [(.ret, [(0, (.b 145 [(.v true (.pair (.rs 5 (.int .u8)) (.int .i64)))])), (4, kI)])]) :=
    cond (Decidable.decide (Go.IntKind.i64.wrap (x1.fst.snd - (1 : Int)) < (↑(List.length x1.fst.fst) : Int)))
    (if (0 : Int) ≤ Go.IntKind.i64.wrap (x1.fst.snd - (1 : Int)) then
     if Go.IntKind.i64.wrap (x1.fst.snd - (1 : Int)) < (↑(List.length x1.fst.fst) : Int) then
     if x2 = (0 : Int) then none else
     some (Sum.inl (((x1.fst.fst, x1.fst.snd), ()), (Go.IntKind.i64.wrap (List.getD x1.fst.fst (Go.IntKind.i64.wrap (x1.fst.snd - (1 : Int))).toNat (0 : Int))).tmod x2, ()))
     else none
     else none)
    (if (↑(List.length x1.fst.fst) : Int) = (0 : Int) then none else
     if (0 : Int) ≤ (Go.IntKind.i64.wrap (x1.fst.snd - (1 : Int))).tmod (↑(List.length x1.fst.fst) : Int) then
     if (Go.IntKind.i64.wrap (x1.fst.snd - (1 : Int))).tmod (↑(List.length x1.fst.fst) : Int) < (↑(List.length x1.fst.fst) : Int) then
     if (↑(List.length x1.fst.fst) : Int) = (0 : Int) then none else
     if (0 : Int) ≤ (Go.IntKind.i64.wrap (Go.IntKind.i64.wrap (Go.IntKind.i64.wrap (x1.fst.snd - (1 : Int)) * (7 : Int)) + (3 : Int))).tmod (↑(List.length x1.fst.fst) : Int) then
     if (Go.IntKind.i64.wrap (Go.IntKind.i64.wrap (Go.IntKind.i64.wrap (x1.fst.snd - (1 : Int)) * (7 : Int)) + (3 : Int))).tmod (↑(List.length x1.fst.fst) : Int) < (↑(List.length x1.fst.fst) : Int) then
     if (↑(List.length x1.fst.fst) : Int) = (0 : Int) then none else
     if x2 = (0 : Int) then none else
     some (Sum.inl (((x1.fst.fst, x1.fst.snd), ()), (Go.IntKind.i64.wrap (↑(BitVec.ofInt Go.IntKind.i64.bits (Go.IntKind.i64.wrap (Go.IntKind.i64.wrap (Go.IntKind.i64.wrap (Go.IntKind.i64.wrap (Go.IntKind.i64.wrap (List.getD x1.fst.fst ((Go.IntKind.i64.wrap (x1.fst.snd - (1 : Int))).tmod (↑(List.length x1.fst.fst) : Int)).toNat (0 : Int)) * (131 : Int)) + Go.IntKind.i64.wrap (Go.IntKind.i64.wrap (List.getD x1.fst.fst ((Go.IntKind.i64.wrap (Go.IntKind.i64.wrap (Go.IntKind.i64.wrap (x1.fst.snd - (1 : Int)) * (7 : Int)) + (3 : Int))).tmod (↑(List.length x1.fst.fst) : Int)).toNat (0 : Int)) * (1117 : Int))) + Go.IntKind.i64.wrap (Go.IntKind.i64.wrap (x1.fst.snd - (1 : Int)) * (29 : Int))) + Go.IntKind.i64.wrap (Go.IntKind.i64.wrap ((Go.IntKind.i64.wrap (x1.fst.snd - (1 : Int))).tdiv (↑(List.length x1.fst.fst) : Int)) * (53 : Int)))) ^^^ BitVec.ofInt Go.IntKind.i64.bits (Go.IntKind.i64.wrap ((Go.IntKind.i64.wrap (Go.IntKind.i64.wrap (Go.IntKind.i64.wrap (Go.IntKind.i64.wrap (Go.IntKind.i64.wrap (List.getD x1.fst.fst ((Go.IntKind.i64.wrap (x1.fst.snd - (1 : Int))).tmod (↑(List.length x1.fst.fst) : Int)).toNat (0 : Int)) * (131 : Int)) + Go.IntKind.i64.wrap (Go.IntKind.i64.wrap (List.getD x1.fst.fst ((Go.IntKind.i64.wrap (Go.IntKind.i64.wrap (Go.IntKind.i64.wrap (x1.fst.snd - (1 : Int)) * (7 : Int)) + (3 : Int))).tmod (↑(List.length x1.fst.fst) : Int)).toNat (0 : Int)) * (1117 : Int))) + Go.IntKind.i64.wrap (Go.IntKind.i64.wrap (x1.fst.snd - (1 : Int)) * (29 : Int))) + Go.IntKind.i64.wrap (Go.IntKind.i64.wrap ((Go.IntKind.i64.wrap (x1.fst.snd - (1 : Int))).tdiv (↑(List.length x1.fst.fst) : Int)) * (53 : Int)))).tdiv (64 : Int)))).toNat : Int)).tmod x2, ()))
     else none
     else none
     else none
     else none)
def F114 (n : Nat) (a0 : (List Int × Int) × Unit) (a1 : Int) : Option (rdens [.b 145 [.v true (.pair (.rs 5 (.int .u8)) (.int .i64))], .c false (.v true (.int .i64))] [.c false (.v true (.int .i64))]) :=
  cond (Decidable.decide (a1 < (1 : Int)))
  (some ((0 : Int), ((a0.fst.fst, Go.IntKind.i64.wrap (a0.fst.snd + (1 : Int))), ()), ()))
  (cond ((↑(List.length a0.fst.fst) : Int) == (0 : Int))
   (some ((0 : Int), ((a0.fst.fst, Go.IntKind.i64.wrap (a0.fst.snd + (1 : Int))), ()), ()))
   (match J114_4 n (((a0.fst.fst, Go.IntKind.i64.wrap (a0.fst.snd + (1 : Int))), ())) (a1) with
    | none => none
    | some (Sum.inl v3) =>
     some (v3.snd.fst, ((v3.fst.fst.fst, v3.fst.fst.snd), ()), ())))
noncomputable def con114 (n : Nat) : Con := conOf [.b 145 [.v true (.pair (.rs 5 (.int .u8)) (.int .i64))], .c false (.v true (.int .i64))] [.c false (.v true (.int .i64))] fun x => F114 n x.1 x.2.1
noncomputable def tb114 (n : Nat) : Tb := ⟨tiOf Try.prog, conL [], n, [], 99, lpL [], ctL [(4, ⟨[(0, (.b 145 [(.v true (.pair (.rs 5 (.int .u8)) (.int .i64)))])), (1, kI)], [(.ret, [(0, (.b 145 [(.v true (.pair (.rs 5 (.int .u8)) (.int .i64)))])), (4, kI)])], fun v => J114_4 n v.1 v.2.1⟩)], [0], true⟩
noncomputable def code114 : Code := Try.f114.body.getD .skip
theorem tb114_ok (n : Nat) : (tb114 n).ok Try.prog := tbOk mixed (trivial)
theorem blocks114 : blocks code114 = [] := by kernel_rfl
theorem ct114_4 (n : Nat) : CtOk (tb114 n) (sec code114 2).2 ⟨[(0, (.b 145 [(.v true (.pair (.rs 5 (.int .u8)) (.int .i64)))])), (1, kI)], [(.ret, [(0, (.b 145 [(.v true (.pair (.rs 5 (.int .u8)) (.int .i64)))])), (4, kI)])], fun v => J114_4 n v.1 v.2.1⟩ := fun _ => by kernel_rfl
theorem secs114 : seconds code114 = [(some 1, (sec code114 0).2), (some 2, (sec code114 1).2), (some 4, (sec code114 2).2), (none, (sec code114 3).2), (none, (sec code114 4).2), (some 5, (sec code114 5).2), (some 7, (sec code114 6).2), (none, (sec code114 7).2), (none, (sec code114 8).2), (some 8, (sec code114 9).2), (some 9, (sec code114 10).2), (none, (sec code114 11).2)] := by kernel_rfl
theorem la114 (n : Nat) : LpAll (tb114 n) code114 := lpAll blocks114 (bl_nil) secs114 (cs_none rfl (cs_none rfl (cs_one rfl (ct114_4 n) (cs_none rfl (cs_none rfl (cs_none rfl (cs_none rfl (cs_none rfl (cs_none rfl (cs_none rfl (cs_none rfl (cs_none rfl (cs_nil))))))))))))) (by kernel_rfl)
theorem ev114 (n : Nat) (x : pdens [.b 145 [.v true (.pair (.rs 5 (.int .u8)) (.int .i64))], .c false (.v true (.int .i64))]) : evSig (tb114 n) Try.f114 [.b 145 [.v true (.pair (.rs 5 (.int .u8)) (.int .i64))], .c false (.v true (.int .i64))] [.c false (.v true (.int .i64))] x = F114 n x.1 x.2.1 := by kernel_rfl
theorem con114_ok (n : Nat) : Con.ok Try.prog 114 (con114 n) := conOf_ok (tb114_ok n) (body_la (by kernel_rfl : Try.f114.body = some code114) (la114 n)) Try.func114 (enters Try.func114 (by kernel_rfl) (by kernel_rfl)) rfl rfl (ev114 n)
/-! ### loop.example/fathomline/spec.l71Do -/
def J144_6 (n : Nat) (x8 : (List Int × Int) × Unit) (x9 : (Int × Int × Int) × Unit) (x10 : (Int × Int × Int) × Unit) : Option (odens [(.ret, [(0, (.b 145 [(.v true (.pair (.rs 5 (.int .u8)) (.int .i64)))])), (4, (.b 59 [(.v true yD)]))])]) :=
    some (Sum.inl (((x8.fst.fst, x8.fst.snd), ()), ((x10.fst.fst, x10.fst.snd.fst, x10.fst.snd.snd), ()), ()))
def J144_4 (n : Nat) (x4 : (List Int × Int) × Unit) (x5 : (Int × Int × Int) × Unit) (x6 : (Int × Int × Int) × Unit) : Option (odens [(.ret, [(0, (.b 145 [(.v true (.pair (.rs 5 (.int .u8)) (.int .i64)))])), (4, (.b 59 [(.v true yD)]))])]) :=
    cond (x6.fst.fst == (1 : Int))
    ((F114 n (((x4.fst.fst, x4.fst.snd), ())) ((3 : Int))).bind fun y7 =>
     match J144_6 n (((y7.snd.fst.fst.fst, y7.snd.fst.fst.snd), ())) (((x5.fst.fst, x5.fst.snd.fst, x5.fst.snd.snd), ())) (((x6.fst.fst, x6.fst.snd.fst, Go.IntKind.i64.wrap ((1 : Int) + y7.fst)), ())) with
     | none => none
     | some (Sum.inl v11) =>
      some (Sum.inl (((v11.fst.fst.fst, v11.fst.fst.snd), ()), ((v11.snd.fst.fst.fst, v11.snd.fst.fst.snd.fst, v11.snd.fst.fst.snd.snd), ()), ())))
    (cond (x6.fst.fst == (6 : Int))
     ((F114 n (((x4.fst.fst, x4.fst.snd), ())) ((3 : Int))).bind fun y12 =>
      match J144_6 n (((y12.snd.fst.fst.fst, y12.snd.fst.fst.snd), ())) (((x5.fst.fst, x5.fst.snd.fst, x5.fst.snd.snd), ())) (((x6.fst.fst, x6.fst.snd.fst, Go.IntKind.i64.wrap ((1 : Int) + y12.fst)), ())) with
      | none => none
      | some (Sum.inl v13) =>
       some (Sum.inl (((v13.fst.fst.fst, v13.fst.fst.snd), ()), ((v13.snd.fst.fst.fst, v13.snd.fst.fst.snd.fst, v13.snd.fst.fst.snd.snd), ()), ())))
     (match J144_6 n (((x4.fst.fst, x4.fst.snd), ())) (((x5.fst.fst, x5.fst.snd.fst, x5.fst.snd.snd), ())) (((x6.fst.fst, x6.fst.snd.fst, x6.fst.snd.snd), ())) with
      | none => none
      | some (Sum.inl v14) =>
       some (Sum.inl (((v14.fst.fst.fst, v14.fst.fst.snd), ()), ((v14.snd.fst.fst.fst, v14.snd.fst.fst.snd.fst, v14.snd.fst.fst.snd.snd), ()), ()))))
def F144 (n : Nat) (a0 : (List Int × Int) × Unit) (a1 : Int) : Option (rdens [.b 145 [.v true (.pair (.rs 5 (.int .u8)) (.int .i64))], .c false (.v true (.int .i64))] [.c true (.v true yD)]) :=
  (F114 n (((a0.fst.fst, a0.fst.snd), ())) ((10 : Int))).bind fun y1 =>
  if (0 : Int) ≤ y1.fst then
  if y1.fst < (↑[(1 : Int), (1 : Int), (1 : Int), (2 : Int), (2 : Int), (2 : Int), (3 : Int), (4 : Int), (5 : Int), (6 : Int)].length : Int) then
  if Int.toNat y1.fst < [(1 : Int), (1 : Int), (1 : Int), (2 : Int), (2 : Int), (2 : Int), (3 : Int), (4 : Int), (5 : Int), (6 : Int)].length then
  (F79 n (([(1 : Int), (1 : Int), (1 : Int), (2 : Int), (2 : Int), (2 : Int), (3 : Int), (4 : Int), (5 : Int), (6 : Int)].getD (Int.toNat y1.fst) (0 : Int), (0 : Int), (0 : Int)))).bind fun y2 =>
  cond (y2.fst)
  ((F114 n (((y1.snd.fst.fst.fst, y1.snd.fst.fst.snd), ())) (a1)).bind fun y3 =>
   match J144_4 n (((y3.snd.fst.fst.fst, y3.snd.fst.fst.snd), ())) ((((0 : Int), (0 : Int), (0 : Int)), ())) ((([(1 : Int), (1 : Int), (1 : Int), (2 : Int), (2 : Int), (2 : Int), (3 : Int), (4 : Int), (5 : Int), (6 : Int)].getD (Int.toNat y1.fst) (0 : Int), y3.fst, (0 : Int)), ())) with
   | none => none
   | some (Sum.inl v15) =>
    some ((v15.snd.fst.fst.fst, v15.snd.fst.fst.snd.fst, v15.snd.fst.fst.snd.snd), ((v15.fst.fst.fst, v15.fst.fst.snd), ()), ()))
  ((F80 n (([(1 : Int), (1 : Int), (1 : Int), (2 : Int), (2 : Int), (2 : Int), (3 : Int), (4 : Int), (5 : Int), (6 : Int)].getD (Int.toNat y1.fst) (0 : Int), (0 : Int), (0 : Int)))).bind fun y16 =>
   cond (y16.fst)
   ((F114 n (((y1.snd.fst.fst.fst, y1.snd.fst.fst.snd), ())) (a1)).bind fun y17 =>
    match J144_4 n (((y17.snd.fst.fst.fst, y17.snd.fst.fst.snd), ())) ((((0 : Int), (0 : Int), (0 : Int)), ())) ((([(1 : Int), (1 : Int), (1 : Int), (2 : Int), (2 : Int), (2 : Int), (3 : Int), (4 : Int), (5 : Int), (6 : Int)].getD (Int.toNat y1.fst) (0 : Int), y17.fst, (0 : Int)), ())) with
    | none => none
    | some (Sum.inl v18) =>
     some ((v18.snd.fst.fst.fst, v18.snd.fst.fst.snd.fst, v18.snd.fst.fst.snd.snd), ((v18.fst.fst.fst, v18.fst.fst.snd), ()), ()))
   (match J144_4 n (((y1.snd.fst.fst.fst, y1.snd.fst.fst.snd), ())) ((((0 : Int), (0 : Int), (0 : Int)), ())) ((([(1 : Int), (1 : Int), (1 : Int), (2 : Int), (2 : Int), (2 : Int), (3 : Int), (4 : Int), (5 : Int), (6 : Int)].getD (Int.toNat y1.fst) (0 : Int), (0 : Int), (0 : Int)), ())) with
    | none => none
    | some (Sum.inl v19) =>
     some ((v19.snd.fst.fst.fst, v19.snd.fst.fst.snd.fst, v19.snd.fst.fst.snd.snd), ((v19.fst.fst.fst, v19.fst.fst.snd), ()), ())))
  else none
  else none
  else none
noncomputable def con144 (n : Nat) : Con := conOf [.b 145 [.v true (.pair (.rs 5 (.int .u8)) (.int .i64))], .c false (.v true (.int .i64))] [.c true (.v true yD)] fun x => F144 n x.1 x.2.1
noncomputable def tb144 (n : Nat) : Tb := ⟨tiOf Try.prog, conL [(114, con114 n), (79, con79 n), (80, con80 n)], n, [], 35, lpL [], ctL [(6, ⟨[(0, (.b 145 [(.v true (.pair (.rs 5 (.int .u8)) (.int .i64)))])), (4, (.b 59 [(.v true yD)])), (5, (.b 59 [(.v true yD)]))], [(.ret, [(0, (.b 145 [(.v true (.pair (.rs 5 (.int .u8)) (.int .i64)))])), (4, (.b 59 [(.v true yD)]))])], fun v => J144_6 n v.1 v.2.1 v.2.2.1⟩), (4, ⟨[(0, (.b 145 [(.v true (.pair (.rs 5 (.int .u8)) (.int .i64)))])), (4, (.b 59 [(.v true yD)])), (5, (.b 59 [(.v true yD)]))], [(.ret, [(0, (.b 145 [(.v true (.pair (.rs 5 (.int .u8)) (.int .i64)))])), (4, (.b 59 [(.v true yD)]))])], fun v => J144_4 n v.1 v.2.1 v.2.2.1⟩)], [0], true⟩
noncomputable def code144 : Code := Try.f144.body.getD .skip
theorem tb144_ok (n : Nat) : (tb144 n).ok Try.prog := tbOk mixed (⟨con114_ok n, ⟨con79_ok n, ⟨con80_ok n, trivial⟩⟩⟩)
theorem blocks144 : blocks code144 = [] := by kernel_rfl
theorem ct144_4 (n : Nat) : CtOk (tb144 n) (sec code144 2).2 ⟨[(0, (.b 145 [(.v true (.pair (.rs 5 (.int .u8)) (.int .i64)))])), (4, (.b 59 [(.v true yD)])), (5, (.b 59 [(.v true yD)]))], [(.ret, [(0, (.b 145 [(.v true (.pair (.rs 5 (.int .u8)) (.int .i64)))])), (4, (.b 59 [(.v true yD)]))])], fun v => J144_4 n v.1 v.2.1 v.2.2.1⟩ := fun _ => by kernel_rfl
theorem ct144_6 (n : Nat) : CtOk (tb144 n) (sec code144 4).2 ⟨[(0, (.b 145 [(.v true (.pair (.rs 5 (.int .u8)) (.int .i64)))])), (4, (.b 59 [(.v true yD)])), (5, (.b 59 [(.v true yD)]))], [(.ret, [(0, (.b 145 [(.v true (.pair (.rs 5 (.int .u8)) (.int .i64)))])), (4, (.b 59 [(.v true yD)]))])], fun v => J144_6 n v.1 v.2.1 v.2.2.1⟩ := fun _ => by kernel_rfl
theorem secs144 : seconds code144 = [(some 1, (sec code144 0).2), (some 2, (sec code144 1).2), (some 4, (sec code144 2).2), (none, (sec code144 3).2), (some 6, (sec code144 4).2), (none, (sec code144 5).2), (none, (sec code144 6).2)] := by kernel_rfl
theorem la144 (n : Nat) : LpAll (tb144 n) code144 := lpAll blocks144 (bl_nil) secs144 (cs_none rfl (cs_none rfl (cs_one rfl (ct144_4 n) (cs_none rfl (cs_one rfl (ct144_6 n) (cs_none rfl (cs_none rfl (cs_nil)))))))) (by kernel_rfl)
theorem ev144 (n : Nat) (x : pdens [.b 145 [.v true (.pair (.rs 5 (.int .u8)) (.int .i64))], .c false (.v true (.int .i64))]) : evSig (tb144 n) Try.f144 [.b 145 [.v true (.pair (.rs 5 (.int .u8)) (.int .i64))], .c false (.v true (.int .i64))] [.c true (.v true yD)] x = F144 n x.1 x.2.1 := by kernel_rfl
theorem con144_ok (n : Nat) : Con.ok Try.prog 144 (con144 n) := conOf_ok (tb144_ok n) (body_la (by kernel_rfl : Try.f144.body = some code144) (la144 n)) Try.func144 (enters Try.func144 (by kernel_rfl) (by kernel_rfl)) rfl rfl (ev144 n)
/-! ### loop.example/fathomline/spec.l71Thread -/
def L145_0 (n : Nat) : Nat → (List Int × Int) × Unit → Int → List (Int × Int × Int) → Int → Option (odens [((.exit 0), [(0, (.b 145 [(.v true (.pair (.rs 5 (.int .u8)) (.int .i64)))])), (7, (.c false (.r 59 yD)))])])
  | 0, _, _, _, _ => none
  | m + 1, x2, x3, x4, x5 =>
    cond (Decidable.decide (x5 > (0 : Int)))
    ((F144 n (((x2.fst.fst, x2.fst.snd), ())) (x3)).bind fun y6 =>
     if (x4.length + [(y6.fst.fst, y6.fst.snd.fst, y6.fst.snd.snd)].length) * (24 : Nat) ≤ (140737488355328 : Nat) then
     L145_0 n m (((y6.snd.fst.fst.fst, y6.snd.fst.fst.snd), ())) (x3) (x4 ++ [(y6.fst.fst, y6.fst.snd.fst, y6.fst.snd.snd)]) (Go.IntKind.i64.wrap (x5 - (1 : Int)))
     else none)
    (some (Sum.inl (((x2.fst.fst, x2.fst.snd), ()), x4, ())))
def F145 (n : Nat) (a0 : (List Int × Int) × Unit) (a1 : Int) (a2 : Int) : Option (rdens [.b 145 [.v true (.pair (.rs 5 (.int .u8)) (.int .i64))], .c false (.v true (.int .i64)), .c false (.v true (.int .i64))] [.c false (.r 59 yD)]) :=
  (F114 n (((a0.fst.fst, a0.fst.snd), ())) (Go.IntKind.i64.wrap (a1 + (1 : Int)))).bind fun y1 =>
  match L145_0 n n (((y1.snd.fst.fst.fst, y1.snd.fst.fst.snd), ())) (a2) ([]) (y1.fst) with
  | none => none
  | some (Sum.inl v7) =>
   some (v7.snd.fst, ((v7.fst.fst.fst, v7.fst.fst.snd), ()), ())
noncomputable def con145 (n : Nat) : Con := conOf [.b 145 [.v true (.pair (.rs 5 (.int .u8)) (.int .i64))], .c false (.v true (.int .i64)), .c false (.v true (.int .i64))] [.c false (.r 59 yD)] fun x => F145 n x.1 x.2.1 x.2.2.1
noncomputable def tb145 (n : Nat) : Tb := ⟨tiOf Try.prog, conL [(114, con114 n), (144, con144 n)], n, [], 25, lpL [(0, ⟨[(0, (.b 145 [(.v true (.pair (.rs 5 (.int .u8)) (.int .i64)))])), (2, kI), (7, (.c false (.r 59 yD))), (8, kI)], [((.exit 0), [(0, (.b 145 [(.v true (.pair (.rs 5 (.int .u8)) (.int .i64)))])), (7, (.c false (.r 59 yD)))])], fun m v => L145_0 n m v.1 v.2.1 v.2.2.1 v.2.2.2.1⟩)], ctL [], [0], true⟩
noncomputable def code145 : Code := Try.f145.body.getD .skip
theorem tb145_ok (n : Nat) : (tb145 n).ok Try.prog := tbOk mixed (⟨con114_ok n, ⟨con144_ok n, trivial⟩⟩)
theorem lp145_0 (n : Nat) : LpAt (tb145 n) (loopBody code145 0) 0 := lpAt rfl (fun _ => by kernel_rfl) (fun _ _ => by kernel_rfl)
theorem blocks145 : blocks code145 = [(0, .loop (loopBody code145 0)), (1, blockBody code145 1)] := by kernel_rfl
theorem la145 (n : Nat) : LpAll (tb145 n) code145 := lpAll blocks145 (bl_loop (lp145_0 n) (bl_none rfl (bl_nil))) rfl (cs_no fun _ => rfl) (by kernel_rfl)
theorem ev145 (n : Nat) (x : pdens [.b 145 [.v true (.pair (.rs 5 (.int .u8)) (.int .i64))], .c false (.v true (.int .i64)), .c false (.v true (.int .i64))]) : evSig (tb145 n) Try.f145 [.b 145 [.v true (.pair (.rs 5 (.int .u8)) (.int .i64))], .c false (.v true (.int .i64)), .c false (.v true (.int .i64))] [.c false (.r 59 yD)] x = F145 n x.1 x.2.1 x.2.2.1 := by kernel_rfl
theorem con145_ok (n : Nat) : Con.ok Try.prog 145 (con145 n) := conOf_ok (tb145_ok n) (body_la (by kernel_rfl : Try.f145.body = some code145) (la145 n)) Try.func145 (enters Try.func145 (by kernel_rfl) (by kernel_rfl)) rfl rfl (ev145 n)
/-! ### loop.example/fathomline/spec.l71Reader -/
def J142_4 (n : Nat) (x5 : (List Int × Int) × Unit) (x6 : List (Int × Int × Int)) : Option (odens [(.ret, [(0, (.b 145 [(.v true (.pair (.rs 5 (.int .u8)) (.int .i64)))])), (4, (.c false (.r 59 yD)))])]) :=
    some (Sum.inl (((x5.fst.fst, x5.fst.snd), ()), x6, ()))
def F142 (n : Nat) (a0 : (List Int × Int) × Unit) (a1 : Int) : Option (rdens [.b 145 [.v true (.pair (.rs 5 (.int .u8)) (.int .i64))], .c false (.v true (.int .i64))] [.c false (.r 59 yD)]) :=
  (F114 n (((a0.fst.fst, a0.fst.snd), ())) (a1)).bind fun y1 =>
  (F114 n (((y1.snd.fst.fst.fst, y1.snd.fst.fst.snd), ())) (a1)).bind fun y2 =>
  (F114 n (((y2.snd.fst.fst.fst, y2.snd.fst.fst.snd), ())) ((3 : Int))).bind fun y3 =>
  cond (y3.fst == (0 : Int))
  ((F144 n (((y3.snd.fst.fst.fst, y3.snd.fst.fst.snd), ())) (a1)).bind fun y4 =>
   match J142_4 n (((y4.snd.fst.fst.fst, y4.snd.fst.fst.snd), ())) ([((7 : Int), (0 : Int), (0 : Int)), ((2 : Int), y1.fst, (0 : Int)), ((2 : Int), y2.fst, (0 : Int)), ((8 : Int), (0 : Int), (0 : Int))].set (Int.toNat (2 : Int)) (y4.fst.fst, y4.fst.snd.fst, y4.fst.snd.snd)) with
   | none => none
   | some (Sum.inl v7) =>
    some (v7.snd.fst, ((v7.fst.fst.fst, v7.fst.fst.snd), ()), ()))
  (match J142_4 n (((y3.snd.fst.fst.fst, y3.snd.fst.fst.snd), ())) ([((7 : Int), (0 : Int), (0 : Int)), ((2 : Int), y1.fst, (0 : Int)), ((2 : Int), y2.fst, (0 : Int)), ((8 : Int), (0 : Int), (0 : Int))]) with
   | none => none
   | some (Sum.inl v8) =>
    some (v8.snd.fst, ((v8.fst.fst.fst, v8.fst.fst.snd), ()), ()))
noncomputable def con142 (n : Nat) : Con := conOf [.b 145 [.v true (.pair (.rs 5 (.int .u8)) (.int .i64))], .c false (.v true (.int .i64))] [.c false (.r 59 yD)] fun x => F142 n x.1 x.2.1
noncomputable def tb142 (n : Nat) : Tb := ⟨tiOf Try.prog, conL [(114, con114 n), (144, con144 n)], n, [], 26, lpL [], ctL [(4, ⟨[(0, (.b 145 [(.v true (.pair (.rs 5 (.int .u8)) (.int .i64)))])), (5, (.c false (.r 59 yD)))], [(.ret, [(0, (.b 145 [(.v true (.pair (.rs 5 (.int .u8)) (.int .i64)))])), (4, (.c false (.r 59 yD)))])], fun v => J142_4 n v.1 v.2.1⟩)], [0], true⟩
noncomputable def code142 : Code := Try.f142.body.getD .skip
theorem tb142_ok (n : Nat) : (tb142 n).ok Try.prog := tbOk mixed (⟨con114_ok n, ⟨con144_ok n, trivial⟩⟩)
theorem blocks142 : blocks code142 = [] := by kernel_rfl
theorem ct142_4 (n : Nat) : CtOk (tb142 n) (sec code142 2).2 ⟨[(0, (.b 145 [(.v true (.pair (.rs 5 (.int .u8)) (.int .i64)))])), (5, (.c false (.r 59 yD)))], [(.ret, [(0, (.b 145 [(.v true (.pair (.rs 5 (.int .u8)) (.int .i64)))])), (4, (.c false (.r 59 yD)))])], fun v => J142_4 n v.1 v.2.1⟩ := fun _ => by kernel_rfl
theorem secs142 : seconds code142 = [(some 1, (sec code142 0).2), (some 2, (sec code142 1).2), (some 4, (sec code142 2).2), (none, (sec code142 3).2), (none, (sec code142 4).2)] := by kernel_rfl
theorem la142 (n : Nat) : LpAll (tb142 n) code142 := lpAll blocks142 (bl_nil) secs142 (cs_none rfl (cs_none rfl (cs_one rfl (ct142_4 n) (cs_none rfl (cs_none rfl (cs_nil)))))) (by kernel_rfl)
theorem ev142 (n : Nat) (x : pdens [.b 145 [.v true (.pair (.rs 5 (.int .u8)) (.int .i64))], .c false (.v true (.int .i64))]) : evSig (tb142 n) Try.f142 [.b 145 [.v true (.pair (.rs 5 (.int .u8)) (.int .i64))], .c false (.v true (.int .i64))] [.c false (.r 59 yD)] x = F142 n x.1 x.2.1 := by kernel_rfl
theorem con142_ok (n : Nat) : Con.ok Try.prog 142 (con142 n) := conOf_ok (tb142_ok n) (body_la (by kernel_rfl : Try.f142.body = some code142) (la142 n)) Try.func142 (enters Try.func142 (by kernel_rfl) (by kernel_rfl)) rfl rfl (ev142 n)
/-! ### loop.example/fathomline/spec.l71Waiter -/
def F143 (n : Nat) (a0 : (List Int × Int) × Unit) (a1 : Int) : Option (rdens [.b 145 [.v true (.pair (.rs 5 (.int .u8)) (.int .i64))], .c false (.v true (.int .i64))] [.c false (.r 59 yD)]) :=
  (F114 n (((a0.fst.fst, a0.fst.snd), ())) (a1)).bind fun y1 =>
  (F114 n (((y1.snd.fst.fst.fst, y1.snd.fst.fst.snd), ())) ((2 : Int))).bind fun y2 =>
  (F114 n (((y2.snd.fst.fst.fst, y2.snd.fst.fst.snd), ())) ((2 : Int))).bind fun y3 =>
  if (0 : Int) ≤ y3.fst then
  if y3.fst < (↑[(1 : Int), (6 : Int)].length : Int) then
  (F114 n (((y3.snd.fst.fst.fst, y3.snd.fst.fst.snd), ())) (a1)).bind fun y4 =>
  (F114 n (((y4.snd.fst.fst.fst, y4.snd.fst.fst.snd), ())) ((2 : Int))).bind fun y5 =>
  some ([((1 : Int), y1.fst, Go.IntKind.i64.wrap ((1 : Int) + y2.fst)), ((9 : Int), (0 : Int), (0 : Int)), ([(1 : Int), (6 : Int)].getD (Int.toNat y3.fst) (0 : Int), y4.fst, Go.IntKind.i64.wrap ((1 : Int) + y5.fst))], ((y5.snd.fst.fst.fst, y5.snd.fst.fst.snd), ()), ())
  else none
  else none
noncomputable def con143 (n : Nat) : Con := conOf [.b 145 [.v true (.pair (.rs 5 (.int .u8)) (.int .i64))], .c false (.v true (.int .i64))] [.c false (.r 59 yD)] fun x => F143 n x.1 x.2.1
noncomputable def tb143 (n : Nat) : Tb := ⟨tiOf Try.prog, conL [(114, con114 n)], n, [], 26, lpL [], ctL [], [0], true⟩
noncomputable def code143 : Code := Try.f143.body.getD .skip
theorem tb143_ok (n : Nat) : (tb143 n).ok Try.prog := tbOk mixed (⟨con114_ok n, trivial⟩)
theorem blocks143 : blocks code143 = [] := by kernel_rfl
theorem la143 (n : Nat) : LpAll (tb143 n) code143 := lpAll blocks143 (bl_nil) rfl (cs_no fun _ => rfl) (by kernel_rfl)
theorem ev143 (n : Nat) (x : pdens [.b 145 [.v true (.pair (.rs 5 (.int .u8)) (.int .i64))], .c false (.v true (.int .i64))]) : evSig (tb143 n) Try.f143 [.b 145 [.v true (.pair (.rs 5 (.int .u8)) (.int .i64))], .c false (.v true (.int .i64))] [.c false (.r 59 yD)] x = F143 n x.1 x.2.1 := by kernel_rfl
theorem con143_ok (n : Nat) : Con.ok Try.prog 143 (con143 n) := conOf_ok (tb143_ok n) (body_la (by kernel_rfl : Try.f143.body = some code143) (la143 n)) Try.func143 (enters Try.func143 (by kernel_rfl) (by kernel_rfl)) rfl rfl (ev143 n)
/-! ### loop.example/fathomline/spec.l71Steps -/
def L146_0 (n : Nat) : Nat → List (List (Int × Int × Int)) × Unit → Int → Int → Option (odens [((.exit 0), [(3, kI)])])
  | 0, _, _, _ => none
  | m + 1, x1, x2, x3 =>
    cond (Decidable.decide (x3 < (↑(List.length x1.fst) : Int)))
    (if (0 : Int) ≤ x3 then
     if x3 < (↑(List.length x1.fst) : Int) then
     L146_0 n m ((x1.fst, ())) (Go.IntKind.i64.wrap (x2 + (↑(List.length (List.getD x1.fst x3.toNat [])) : Int))) (Go.IntKind.i64.wrap (x3 + (1 : Int)))
     else none
     else none)
    (some (Sum.inl (x2, ())))
def F146 (n : Nat) (a0 : List (List (Int × Int × Int))) : Option (rdens [.c true (.v false yP)] [.c false (.v true (.int .i64))]) :=
  match L146_0 n n ((a0, ())) ((0 : Int)) ((0 : Int)) with
  | none => none
  | some (Sum.inl v4) =>
   some (v4.fst, ())
noncomputable def con146 (n : Nat) : Con := conOf [.c true (.v false yP)] [.c false (.v true (.int .i64))] fun x => F146 n x.1
noncomputable def tb146 (n : Nat) : Tb := ⟨tiOf Try.prog, conL [], n, [], 21, lpL [(0, ⟨[(1, (.b 33 [(.v false yP)])), (3, kI), (4, kI)], [((.exit 0), [(3, kI)])], fun m v => L146_0 n m v.1 v.2.1 v.2.2.1⟩)], ctL [], [], true⟩
noncomputable def code146 : Code := Try.f146.body.getD .skip
theorem tb146_ok (n : Nat) : (tb146 n).ok Try.prog := tbOk mixed (trivial)
theorem lp146_0 (n : Nat) : LpAt (tb146 n) (loopBody code146 0) 0 := lpAt rfl (fun _ => by kernel_rfl) (fun _ _ => by kernel_rfl)
theorem blocks146 : blocks code146 = [(0, .loop (loopBody code146 0)), (1, blockBody code146 1)] := by kernel_rfl
theorem la146 (n : Nat) : LpAll (tb146 n) code146 := lpAll blocks146 (bl_loop (lp146_0 n) (bl_none rfl (bl_nil))) rfl (cs_no fun _ => rfl) (by kernel_rfl)
theorem ev146 (n : Nat) (x : pdens [.c true (.v false yP)]) : evSig (tb146 n) Try.f146 [.c true (.v false yP)] [.c false (.v true (.int .i64))] x = F146 n x.1 := by kernel_rfl
theorem con146_ok (n : Nat) : Con.ok Try.prog 146 (con146 n) := conOf_ok (tb146_ok n) (body_la (by kernel_rfl : Try.f146.body = some code146) (la146 n)) Try.func146 (enters Try.func146 (by kernel_rfl) (by kernel_rfl)) rfl rfl (ev146 n)
/-! ### loop.example/fathomline/spec.l71Prog -/
def J113_15 (n : Nat) (x10 : (List Int × Int) × Unit) (x11 : List (List (Int × Int × Int)) × Unit) (x12 : Int) (x13 : List (List (Int × Int × Int)) × Unit) : Option (odens [(.ret, [(0, (.b 145 [(.v true (.pair (.rs 5 (.int .u8)) (.int .i64)))])), (2, (.b 33 [(.o yP)]))]), (.normal, [(0, (.b 145 [(.v true (.pair (.rs 5 (.int .u8)) (.int .i64)))])), (2, (.b 33 [(.o yP)])), (3, kI)])]) :=
    (F36 n (x13.fst)).bind fun y14 =>
    cond (y14.fst)
    ((F146 n (x13.fst)).bind fun y15 =>
     cond (Decidable.decide (y15.fst ≤ (8 : Int)))
     (some (Sum.inl (((x10.fst.fst, x10.fst.snd), ()), (x13.fst, ()), ())))
     (some (Sum.inr (Sum.inl (((x10.fst.fst, x10.fst.snd), ()), (x11.fst, ()), x12, ())))))
    (some (Sum.inr (Sum.inl (((x10.fst.fst, x10.fst.snd), ()), (x11.fst, ()), x12, ()))))
def J113_3 (n : Nat) (x18 : (List Int × Int) × Unit) (x19 : List (List (Int × Int × Int)) × Unit) (x20 : Int) : Option (odens [(.normal, [(0, (.b 145 [(.v true (.pair (.rs 5 (.int .u8)) (.int .i64)))])), (2, (.b 33 [(.o yP)])), (3, kI)])]) :=
    some (Sum.inl (((x18.fst.fst, x18.fst.snd), ()), (x19.fst, ()), Go.IntKind.i64.wrap (x20 + (1 : Int)), ()))
def L113_2 (n : Nat) : Nat → (List Int × Int) × Unit → List (List (Int × Int × Int)) × Unit → Int → List (List (Int × Int × Int)) × Unit → Int → Int → Int → Option (odens [((.exit 2), [(0, (.b 145 [(.v true (.pair (.rs 5 (.int .u8)) (.int .i64)))])), (2, (.b 33 [(.o yP)])), (3, kI), (4, (.b 33 [(.o yP)]))])])
  | 0, _, _, _, _, _, _, _ => none
  | m + 1, x26, x27, x28, x29, x30, x31, x32 =>
    cond (Decidable.decide (x32 < x31))
    (if x31 = (0 : Int) then none else
     (F114 n (((x26.fst.fst, x26.fst.snd), ())) ((2 : Int))).bind fun y33 =>
     (F145 n (((y33.snd.fst.fst.fst, y33.snd.fst.fst.snd), ())) (Go.IntKind.i64.wrap (Go.IntKind.i64.wrap (Int.tdiv (6 : Int) x31) + y33.fst)) (x30)).bind fun y34 =>
     if (List.length x29.fst + [y34.fst].length) * (24 : Nat) ≤ (140737488355328 : Nat) then
     L113_2 n m (((y34.snd.fst.fst.fst, y34.snd.fst.fst.snd), ())) ((x27.fst, ())) (x28) ((x29.fst ++ [y34.fst], ())) (x30) (x31) (Go.IntKind.i64.wrap (x32 + (1 : Int)))
     else none)
    (some (Sum.inl (((x26.fst.fst, x26.fst.snd), ()), (x27.fst, ()), x28, (x29.fst, ()), ())))
def L113_0 (n : Nat) : Nat → (List Int × Int) × Unit → List (List (Int × Int × Int)) × Unit → Int → Option (odens [(.ret, [(0, (.b 145 [(.v true (.pair (.rs 5 (.int .u8)) (.int .i64)))])), (2, (.b 33 [(.o yP)]))]), ((.exit 0), [(0, (.b 145 [(.v true (.pair (.rs 5 (.int .u8)) (.int .i64)))])), (2, (.b 33 [(.o yP)]))])])
  | 0, _, _, _ => none
  | m + 1, x1, x2, x3 =>
    cond (Decidable.decide (x3 < (12 : Int)))
    ((F114 n (((x1.fst.fst, x1.fst.snd), ())) ((2 : Int))).bind fun y4 =>
     (F114 n (((y4.snd.fst.fst.fst, y4.snd.fst.fst.snd), ())) ((4 : Int))).bind fun y5 =>
     cond (y5.fst == (0 : Int))
     ((F142 n (((y5.snd.fst.fst.fst, y5.snd.fst.fst.snd), ())) ((2 : Int))).bind fun y6 =>
      (F143 n (((y6.snd.fst.fst.fst, y6.snd.fst.fst.snd), ())) ((2 : Int))).bind fun y7 =>
      (F114 n (((y7.snd.fst.fst.fst, y7.snd.fst.fst.snd), ())) ((3 : Int))).bind fun y8 =>
      cond (y8.fst == (0 : Int))
      ((F144 n (((y8.snd.fst.fst.fst, y8.snd.fst.fst.snd), ())) ((2 : Int))).bind fun y9 =>
       if (List.length y6.fst + [(y9.fst.fst, y9.fst.snd.fst, y9.fst.snd.snd)].length) * (24 : Nat) ≤ (140737488355328 : Nat) then
       match J113_15 n (((y9.snd.fst.fst.fst, y9.snd.fst.fst.snd), ())) ((x2.fst, ())) (x3) (([y6.fst ++ [(y9.fst.fst, y9.fst.snd.fst, y9.fst.snd.snd)], y7.fst], ())) with
       | none => none
       | some (Sum.inl v16) =>
        some (Sum.inl (((v16.fst.fst.fst, v16.fst.fst.snd), ()), (v16.snd.fst.fst, ()), ()))
       | some (Sum.inr (Sum.inl v17)) =>
        match J113_3 n (((v17.fst.fst.fst, v17.fst.fst.snd), ())) ((v17.snd.fst.fst, ())) (v17.snd.snd.fst) with
        | none => none
        | some (Sum.inl v21) =>
         L113_0 n m (((v21.fst.fst.fst, v21.fst.fst.snd), ())) ((v21.snd.fst.fst, ())) (v21.snd.snd.fst)
       else none)
      (match J113_15 n (((y8.snd.fst.fst.fst, y8.snd.fst.fst.snd), ())) ((x2.fst, ())) (x3) (([y6.fst, y7.fst], ())) with
       | none => none
       | some (Sum.inl v22) =>
        some (Sum.inl (((v22.fst.fst.fst, v22.fst.fst.snd), ()), (v22.snd.fst.fst, ()), ()))
       | some (Sum.inr (Sum.inl v23)) =>
        match J113_3 n (((v23.fst.fst.fst, v23.fst.fst.snd), ())) ((v23.snd.fst.fst, ())) (v23.snd.snd.fst) with
        | none => none
        | some (Sum.inl v24) =>
         L113_0 n m (((v24.fst.fst.fst, v24.fst.fst.snd), ())) ((v24.snd.fst.fst, ())) (v24.snd.snd.fst)))
     ((F114 n (((y5.snd.fst.fst.fst, y5.snd.fst.fst.snd), ())) ((2 : Int))).bind fun y25 =>
      match L113_2 n n (((y25.snd.fst.fst.fst, y25.snd.fst.fst.snd), ())) ((x2.fst, ())) (x3) (([], ())) (Go.IntKind.i64.wrap ((1 : Int) + y4.fst)) (Go.IntKind.i64.wrap ((2 : Int) + y25.fst)) ((0 : Int)) with
      | none => none
      | some (Sum.inl v35) =>
       match J113_15 n (((v35.fst.fst.fst, v35.fst.fst.snd), ())) ((v35.snd.fst.fst, ())) (v35.snd.snd.fst) ((v35.snd.snd.snd.fst.fst, ())) with
       | none => none
       | some (Sum.inl v36) =>
        some (Sum.inl (((v36.fst.fst.fst, v36.fst.fst.snd), ()), (v36.snd.fst.fst, ()), ()))
       | some (Sum.inr (Sum.inl v37)) =>
        match J113_3 n (((v37.fst.fst.fst, v37.fst.fst.snd), ())) ((v37.snd.fst.fst, ())) (v37.snd.snd.fst) with
        | none => none
        | some (Sum.inl v38) =>
         L113_0 n m (((v38.fst.fst.fst, v38.fst.fst.snd), ())) ((v38.snd.fst.fst, ())) (v38.snd.snd.fst)))
    (some (Sum.inr (Sum.inl (((x1.fst.fst, x1.fst.snd), ()), (x2.fst, ()), ()))))
def F113 (n : Nat) (a0 : (List Int × Int) × Unit) : Option (rdens [.b 145 [.v true (.pair (.rs 5 (.int .u8)) (.int .i64))]] [.c true (.o yP)]) :=
  match L113_0 n n (((a0.fst.fst, a0.fst.snd), ())) (([], ())) ((0 : Int)) with
  | none => none
  | some (Sum.inl v39) =>
   some (v39.snd.fst.fst, ((v39.fst.fst.fst, v39.fst.fst.snd), ()), ())
  | some (Sum.inr (Sum.inl v40)) =>
   some ([[((1 : Int), (0 : Int), (1 : Int))], [((2 : Int), (0 : Int), (0 : Int))]], ((v40.fst.fst.fst, v40.fst.fst.snd), ()), ())
noncomputable def con113 (n : Nat) : Con := conOf [.b 145 [.v true (.pair (.rs 5 (.int .u8)) (.int .i64))]] [.c true (.o yP)] fun x => F113 n x.1
noncomputable def tb113 (n : Nat) : Tb := ⟨tiOf Try.prog, conL [(114, con114 n), (142, con142 n), (143, con143 n), (144, con144 n), (145, con145 n), (36, con36 n), (146, con146 n)], n, [], 74, lpL [(2, ⟨[(0, (.b 145 [(.v true (.pair (.rs 5 (.int .u8)) (.int .i64)))])), (2, (.b 33 [(.o yP)])), (3, kI), (4, (.b 33 [(.o yP)])), (5, kI), (6, kI), (7, kI)], [((.exit 2), [(0, (.b 145 [(.v true (.pair (.rs 5 (.int .u8)) (.int .i64)))])), (2, (.b 33 [(.o yP)])), (3, kI), (4, (.b 33 [(.o yP)]))])], fun m v => L113_2 n m v.1 v.2.1 v.2.2.1 v.2.2.2.1 v.2.2.2.2.1 v.2.2.2.2.2.1 v.2.2.2.2.2.2.1⟩), (0, ⟨[(0, (.b 145 [(.v true (.pair (.rs 5 (.int .u8)) (.int .i64)))])), (2, (.b 33 [(.o yP)])), (3, kI)], [(.ret, [(0, (.b 145 [(.v true (.pair (.rs 5 (.int .u8)) (.int .i64)))])), (2, (.b 33 [(.o yP)]))]), ((.exit 0), [(0, (.b 145 [(.v true (.pair (.rs 5 (.int .u8)) (.int .i64)))])), (2, (.b 33 [(.o yP)]))])], fun m v => L113_0 n m v.1 v.2.1 v.2.2.1⟩)], ctL [(15, ⟨[(0, (.b 145 [(.v true (.pair (.rs 5 (.int .u8)) (.int .i64)))])), (2, (.b 33 [(.o yP)])), (3, kI), (4, (.b 33 [(.o yP)]))], [(.ret, [(0, (.b 145 [(.v true (.pair (.rs 5 (.int .u8)) (.int .i64)))])), (2, (.b 33 [(.o yP)]))]), (.normal, [(0, (.b 145 [(.v true (.pair (.rs 5 (.int .u8)) (.int .i64)))])), (2, (.b 33 [(.o yP)])), (3, kI)])], fun v => J113_15 n v.1 v.2.1 v.2.2.1 v.2.2.2.1⟩), (3, ⟨[(0, (.b 145 [(.v true (.pair (.rs 5 (.int .u8)) (.int .i64)))])), (2, (.b 33 [(.o yP)])), (3, kI)], [(.normal, [(0, (.b 145 [(.v true (.pair (.rs 5 (.int .u8)) (.int .i64)))])), (2, (.b 33 [(.o yP)])), (3, kI)])], fun v => J113_3 n v.1 v.2.1 v.2.2.1⟩)], [0], true⟩
noncomputable def code113 : Code := Try.f113.body.getD .skip
theorem tb113_ok (n : Nat) : (tb113 n).ok Try.prog := tbOk mixed (⟨con114_ok n, ⟨con142_ok n, ⟨con143_ok n, ⟨con144_ok n, ⟨con145_ok n, ⟨con36_ok n, ⟨con146_ok n, trivial⟩⟩⟩⟩⟩⟩⟩)
theorem lp113_2 (n : Nat) : LpAt (tb113 n) (loopBody code113 2) 2 := lpAt rfl (fun _ => by kernel_rfl) (fun _ _ => by kernel_rfl)
theorem lp113_0 (n : Nat) : LpAt (tb113 n) (loopBody code113 0) 0 := lpAt rfl (fun _ => by kernel_rfl) (fun _ _ => by kernel_rfl)
theorem blocks113 : blocks code113 = [(0, .loop (loopBody code113 0)), (1, blockBody code113 1), (2, .loop (loopBody code113 2)), (3, blockBody code113 3)] := by kernel_rfl
theorem ct113_3 (n : Nat) : CtOk (tb113 n) (sec code113 5).2 ⟨[(0, (.b 145 [(.v true (.pair (.rs 5 (.int .u8)) (.int .i64)))])), (2, (.b 33 [(.o yP)])), (3, kI)], [(.normal, [(0, (.b 145 [(.v true (.pair (.rs 5 (.int .u8)) (.int .i64)))])), (2, (.b 33 [(.o yP)])), (3, kI)])], fun v => J113_3 n v.1 v.2.1 v.2.2.1⟩ := fun _ => by kernel_rfl
theorem ct113_15 (n : Nat) : CtOk (tb113 n) (sec code113 8).2 ⟨[(0, (.b 145 [(.v true (.pair (.rs 5 (.int .u8)) (.int .i64)))])), (2, (.b 33 [(.o yP)])), (3, kI), (4, (.b 33 [(.o yP)]))], [(.ret, [(0, (.b 145 [(.v true (.pair (.rs 5 (.int .u8)) (.int .i64)))])), (2, (.b 33 [(.o yP)]))]), (.normal, [(0, (.b 145 [(.v true (.pair (.rs 5 (.int .u8)) (.int .i64)))])), (2, (.b 33 [(.o yP)])), (3, kI)])], fun v => J113_15 n v.1 v.2.1 v.2.2.1 v.2.2.2.1⟩ := fun _ => by kernel_rfl
theorem secs113 : seconds code113 = [(some 1, (sec code113 0).2), (some 17, (sec code113 1).2), (some 2, (sec code113 2).2), (some 4, (sec code113 3).2), (none, (sec code113 4).2), (some 3, (sec code113 5).2), (some 5, (sec code113 6).2), (some 6, (sec code113 7).2), (some 15, (sec code113 8).2), (none, (sec code113 9).2), (some 8, (sec code113 10).2), (none, (sec code113 11).2), (some 11, (sec code113 12).2), (some 12, (sec code113 13).2), (some 14, (sec code113 14).2), (none, (sec code113 15).2), (some 13, (sec code113 16).2), (none, (sec code113 17).2), (none, (sec code113 18).2), (none, (sec code113 19).2)] := by kernel_rfl
theorem la113 (n : Nat) : LpAll (tb113 n) code113 := lpAll blocks113 (bl_loop (lp113_0 n) (bl_none rfl (bl_loop (lp113_2 n) (bl_none rfl (bl_nil))))) secs113 (cs_none rfl (cs_none rfl (cs_none rfl (cs_none rfl (cs_none rfl (cs_one rfl (ct113_3 n) (cs_none rfl (cs_none rfl (cs_one rfl (ct113_15 n) (cs_none rfl (cs_none rfl (cs_none rfl (cs_none rfl (cs_none rfl (cs_none rfl (cs_none rfl (cs_none rfl (cs_none rfl (cs_none rfl (cs_none rfl (cs_nil))))))))))))))))))))) (by kernel_rfl)
theorem ev113 (n : Nat) (x : pdens [.b 145 [.v true (.pair (.rs 5 (.int .u8)) (.int .i64))]]) : evSig (tb113 n) Try.f113 [.b 145 [.v true (.pair (.rs 5 (.int .u8)) (.int .i64))]] [.c true (.o yP)] x = F113 n x.1 := by kernel_rfl
theorem con113_ok (n : Nat) : Con.ok Try.prog 113 (con113 n) := conOf_ok (tb113_ok n) (body_la (by kernel_rfl : Try.f113.body = some code113) (la113 n)) Try.func113 (enters Try.func113 (by kernel_rfl) (by kernel_rfl)) rfl rfl (ev113 n)
/-! ### loop.example/fathomline/spec.l71Bad -/
def J115_22 (n : Nat) (x4 : (List Int × Int) × Unit) (x5 : List (List (Int × Int × Int)) × Unit) (x6 : List (List (Int × Int × Int)) × Unit) (x7 : Int) (x8 : List (Int × Int × Int)) : Option (odens [(.ret, [(0, (.b 145 [(.v true (.pair (.rs 5 (.int .u8)) (.int .i64)))])), (4, (.b 33 [(.r 57 (.rs 59 yD))]))])]) :=
    if ((0 : Nat) + List.length x5.fst) * (24 : Nat) ≤ (140737488355328 : Nat) then
    if (0 : Int) ≤ x7 then
    if x7 < (↑(List.length x5.fst) : Int) then
    if x7.toNat < List.length x5.fst then
    some (Sum.inl (((x4.fst.fst, x4.fst.snd), ()), (List.set x5.fst x7.toNat x8, ()), ()))
    else none
    else none
    else none
    else none
def L115_1 (n : Nat) : Nat → (List Int × Int) × Unit → List (List (Int × Int × Int)) × Unit → List (List (Int × Int × Int)) × Unit → Int → List (Int × Int × Int) → Int → Option (odens [((.exit 1), [(0, (.b 145 [(.v true (.pair (.rs 5 (.int .u8)) (.int .i64)))])), (3, (.b 33 [(.v true yP)])), (4, (.b 33 [(.r 57 (.rs 59 yD))])), (5, kI), (6, (.c false (.r 59 yD)))])])
  | 0, _, _, _, _, _, _ => none
  | m + 1, x17, x18, x19, x20, x21, x22 =>
    cond (Decidable.decide (x22 < (7 : Int)))
    ((F114 n (((x17.fst.fst, x17.fst.snd), ())) ((2 : Int))).bind fun y23 =>
     if (0 : Int) ≤ y23.fst then
     if y23.fst < (↑[(4 : Int), (2 : Int)].length : Int) then
     if Int.toNat y23.fst < [(4 : Int), (2 : Int)].length then
     if (x21.length + [([(4 : Int), (2 : Int)].getD (Int.toNat y23.fst) (0 : Int), (0 : Int), (0 : Int))].length) * (24 : Nat) ≤ (140737488355328 : Nat) then
     L115_1 n m (((y23.snd.fst.fst.fst, y23.snd.fst.fst.snd), ())) ((x18.fst, ())) ((x19.fst, ())) (x20) (x21 ++ [([(4 : Int), (2 : Int)].getD (Int.toNat y23.fst) (0 : Int), (0 : Int), (0 : Int))]) (Go.IntKind.i64.wrap (x22 + (1 : Int)))
     else none
     else none
     else none
     else none)
    (some (Sum.inl (((x17.fst.fst, x17.fst.snd), ()), (x18.fst, ()), (x19.fst, ()), x20, x21, ())))
def F115 (n : Nat) (a0 : (List Int × Int) × Unit) (a1 : List (List (Int × Int × Int))) : Option (rdens [.b 145 [.v true (.pair (.rs 5 (.int .u8)) (.int .i64))], .c true (.v true yP)] [.c true (.v true yP)]) :=
  (F114 n (((a0.fst.fst, a0.fst.snd), ())) ((↑a1.length : Int))).bind fun y1 =>
  if (0 : Int) ≤ y1.fst then
  if y1.fst < (↑a1.length : Int) then
  if ((0 : Nat) + List.length (a1.getD (Int.toNat y1.fst) [])) * (24 : Nat) ≤ (140737488355328 : Nat) then
  (F114 n (((y1.snd.fst.fst.fst, y1.snd.fst.fst.snd), ())) ((8 : Int))).bind fun y2 =>
  cond (y2.fst == (0 : Int))
  ((F114 n (((y2.snd.fst.fst.fst, y2.snd.fst.fst.snd), ())) ((12 : Int))).bind fun y3 =>
   if (List.length (a1.getD (Int.toNat y1.fst) []) + [(Go.IntKind.i64.wrap (y3.fst - (1 : Int)), (0 : Int), (0 : Int))].length) * (24 : Nat) ≤ (140737488355328 : Nat) then
   match J115_22 n (((y3.snd.fst.fst.fst, y3.snd.fst.fst.snd), ())) ((a1, ())) (([], ())) (y1.fst) (a1.getD (Int.toNat y1.fst) [] ++ [(Go.IntKind.i64.wrap (y3.fst - (1 : Int)), (0 : Int), (0 : Int))]) with
   | none => none
   | some (Sum.inl v9) =>
    some (v9.snd.fst.fst, ((v9.fst.fst.fst, v9.fst.fst.snd), ()), ())
   else none)
  (cond (y2.fst == (1 : Int))
   (if ([((3 : Int), (0 : Int), (0 : Int))].length + List.length (a1.getD (Int.toNat y1.fst) [])) * (24 : Nat) ≤ (140737488355328 : Nat) then
    match J115_22 n (((y2.snd.fst.fst.fst, y2.snd.fst.fst.snd), ())) ((a1, ())) (([], ())) (y1.fst) ([((3 : Int), (0 : Int), (0 : Int))] ++ a1.getD (Int.toNat y1.fst) []) with
    | none => none
    | some (Sum.inl v10) =>
     some (v10.snd.fst.fst, ((v10.fst.fst.fst, v10.fst.fst.snd), ()), ())
    else none)
   (cond (y2.fst == (2 : Int))
    (if (List.length (a1.getD (Int.toNat y1.fst) []) + [((7 : Int), (0 : Int), (0 : Int))].length) * (24 : Nat) ≤ (140737488355328 : Nat) then
     match J115_22 n (((y2.snd.fst.fst.fst, y2.snd.fst.fst.snd), ())) ((a1, ())) (([], ())) (y1.fst) (a1.getD (Int.toNat y1.fst) [] ++ [((7 : Int), (0 : Int), (0 : Int))]) with
     | none => none
     | some (Sum.inl v11) =>
      some (v11.snd.fst.fst, ((v11.fst.fst.fst, v11.fst.fst.snd), ()), ())
     else none)
    (cond (y2.fst == (3 : Int))
     (if ([((8 : Int), (0 : Int), (0 : Int))].length + List.length (a1.getD (Int.toNat y1.fst) [])) * (24 : Nat) ≤ (140737488355328 : Nat) then
      match J115_22 n (((y2.snd.fst.fst.fst, y2.snd.fst.fst.snd), ())) ((a1, ())) (([], ())) (y1.fst) ([((8 : Int), (0 : Int), (0 : Int))] ++ a1.getD (Int.toNat y1.fst) []) with
      | none => none
      | some (Sum.inl v12) =>
       some (v12.snd.fst.fst, ((v12.fst.fst.fst, v12.fst.fst.snd), ()), ())
      else none)
     (cond (y2.fst == (4 : Int))
      ((F114 n (((y2.snd.fst.fst.fst, y2.snd.fst.fst.snd), ())) ((2 : Int))).bind fun y13 =>
       if (0 : Int) ≤ y13.fst then
       if y13.fst < (↑[(-1 : Int), (3 : Int)].length : Int) then
       if Int.toNat y13.fst < [(-1 : Int), (3 : Int)].length then
       if (List.length (a1.getD (Int.toNat y1.fst) []) + [((1 : Int), [(-1 : Int), (3 : Int)].getD (Int.toNat y13.fst) (0 : Int), (1 : Int))].length) * (24 : Nat) ≤ (140737488355328 : Nat) then
       match J115_22 n (((y13.snd.fst.fst.fst, y13.snd.fst.fst.snd), ())) ((a1, ())) (([], ())) (y1.fst) (a1.getD (Int.toNat y1.fst) [] ++ [((1 : Int), [(-1 : Int), (3 : Int)].getD (Int.toNat y13.fst) (0 : Int), (1 : Int))]) with
       | none => none
       | some (Sum.inl v14) =>
        some (v14.snd.fst.fst, ((v14.fst.fst.fst, v14.fst.fst.snd), ()), ())
       else none
       else none
       else none
       else none)
      (cond (y2.fst == (5 : Int))
       ((F114 n (((y2.snd.fst.fst.fst, y2.snd.fst.fst.snd), ())) ((2 : Int))).bind fun y15 =>
        if (0 : Int) ≤ y15.fst then
        if y15.fst < (↑[(0 : Int), (4 : Int)].length : Int) then
        if Int.toNat y15.fst < [(0 : Int), (4 : Int)].length then
        if (List.length (a1.getD (Int.toNat y1.fst) []) + [((1 : Int), (0 : Int), [(0 : Int), (4 : Int)].getD (Int.toNat y15.fst) (0 : Int))].length) * (24 : Nat) ≤ (140737488355328 : Nat) then
        match J115_22 n (((y15.snd.fst.fst.fst, y15.snd.fst.fst.snd), ())) ((a1, ())) (([], ())) (y1.fst) (a1.getD (Int.toNat y1.fst) [] ++ [((1 : Int), (0 : Int), [(0 : Int), (4 : Int)].getD (Int.toNat y15.fst) (0 : Int))]) with
        | none => none
        | some (Sum.inl v16) =>
         some (v16.snd.fst.fst, ((v16.fst.fst.fst, v16.fst.fst.snd), ()), ())
        else none
        else none
        else none
        else none)
       (cond (y2.fst == (6 : Int))
        (match L115_1 n n (((y2.snd.fst.fst.fst, y2.snd.fst.fst.snd), ())) ((a1, ())) (([], ())) (y1.fst) (a1.getD (Int.toNat y1.fst) []) ((0 : Int)) with
         | none => none
         | some (Sum.inl v24) =>
          match J115_22 n (((v24.fst.fst.fst, v24.fst.fst.snd), ())) ((v24.snd.fst.fst, ())) ((v24.snd.snd.fst.fst, ())) (v24.snd.snd.snd.fst) (v24.snd.snd.snd.snd.fst) with
          | none => none
          | some (Sum.inl v25) =>
           some (v25.snd.fst.fst, ((v25.fst.fst.fst, v25.fst.fst.snd), ()), ()))
        (if (List.length (a1.getD (Int.toNat y1.fst) []) + [((4 : Int), (0 : Int), (1 : Int))].length) * (24 : Nat) ≤ (140737488355328 : Nat) then
         match J115_22 n (((y2.snd.fst.fst.fst, y2.snd.fst.fst.snd), ())) ((a1, ())) (([], ())) (y1.fst) (a1.getD (Int.toNat y1.fst) [] ++ [((4 : Int), (0 : Int), (1 : Int))]) with
         | none => none
         | some (Sum.inl v26) =>
          some (v26.snd.fst.fst, ((v26.fst.fst.fst, v26.fst.fst.snd), ()), ())
         else none)))))))
  else none
  else none
  else none
noncomputable def con115 (n : Nat) : Con := conOf [.b 145 [.v true (.pair (.rs 5 (.int .u8)) (.int .i64))], .c true (.v true yP)] [.c true (.v true yP)] fun x => F115 n x.1 x.2.1
noncomputable def tb115 (n : Nat) : Tb := ⟨tiOf Try.prog, conL [(114, con114 n)], n, [], 102, lpL [(1, ⟨[(0, (.b 145 [(.v true (.pair (.rs 5 (.int .u8)) (.int .i64)))])), (3, (.b 33 [(.v true yP)])), (4, (.b 33 [(.r 57 (.rs 59 yD))])), (5, kI), (6, (.c false (.r 59 yD))), (7, kI)], [((.exit 1), [(0, (.b 145 [(.v true (.pair (.rs 5 (.int .u8)) (.int .i64)))])), (3, (.b 33 [(.v true yP)])), (4, (.b 33 [(.r 57 (.rs 59 yD))])), (5, kI), (6, (.c false (.r 59 yD)))])], fun m v => L115_1 n m v.1 v.2.1 v.2.2.1 v.2.2.2.1 v.2.2.2.2.1 v.2.2.2.2.2.1⟩)], ctL [(22, ⟨[(0, (.b 145 [(.v true (.pair (.rs 5 (.int .u8)) (.int .i64)))])), (3, (.b 33 [(.v true yP)])), (4, (.b 33 [(.r 57 (.rs 59 yD))])), (5, kI), (6, (.c false (.r 59 yD)))], [(.ret, [(0, (.b 145 [(.v true (.pair (.rs 5 (.int .u8)) (.int .i64)))])), (4, (.b 33 [(.r 57 (.rs 59 yD))]))])], fun v => J115_22 n v.1 v.2.1 v.2.2.1 v.2.2.2.1 v.2.2.2.2.1⟩)], [0], false⟩
noncomputable def code115 : Code := Try.f115.body.getD .skip
theorem tb115_ok (n : Nat) : (tb115 n).ok Try.prog := tbOk mixed (⟨con114_ok n, trivial⟩)
theorem lp115_1 (n : Nat) : LpAt (tb115 n) (loopBody code115 1) 1 := lpAt rfl (fun _ => by kernel_rfl) (fun _ _ => by kernel_rfl)
theorem blocks115 : blocks code115 = [(0, blockBody code115 0), (1, .loop (loopBody code115 1)), (2, blockBody code115 2)] := by kernel_rfl
theorem ct115_22 (n : Nat) : CtOk (tb115 n) (sec code115 3).2 ⟨[(0, (.b 145 [(.v true (.pair (.rs 5 (.int .u8)) (.int .i64)))])), (3, (.b 33 [(.v true yP)])), (4, (.b 33 [(.r 57 (.rs 59 yD))])), (5, kI), (6, (.c false (.r 59 yD)))], [(.ret, [(0, (.b 145 [(.v true (.pair (.rs 5 (.int .u8)) (.int .i64)))])), (4, (.b 33 [(.r 57 (.rs 59 yD))]))])], fun v => J115_22 n v.1 v.2.1 v.2.2.1 v.2.2.2.1 v.2.2.2.2.1⟩ := fun _ => by kernel_rfl
theorem secs115 : seconds code115 = [(some 1, (sec code115 0).2), (some 2, (sec code115 1).2), (some 3, (sec code115 2).2), (some 22, (sec code115 3).2), (some 5, (sec code115 4).2), (none, (sec code115 5).2), (none, (sec code115 6).2), (none, (sec code115 7).2), (none, (sec code115 8).2), (none, (sec code115 9).2), (none, (sec code115 10).2), (none, (sec code115 11).2), (some 19, (sec code115 12).2), (some 21, (sec code115 13).2), (none, (sec code115 14).2), (some 20, (sec code115 15).2), (some 23, (sec code115 16).2), (some 24, (sec code115 17).2), (none, (sec code115 18).2)] := by kernel_rfl
theorem la115 (n : Nat) : LpAll (tb115 n) code115 := lpAll blocks115 (bl_none rfl (bl_loop (lp115_1 n) (bl_none rfl (bl_nil)))) secs115 (cs_none rfl (cs_none rfl (cs_none rfl (cs_one rfl (ct115_22 n) (cs_none rfl (cs_none rfl (cs_none rfl (cs_none rfl (cs_none rfl (cs_none rfl (cs_none rfl (cs_none rfl (cs_none rfl (cs_none rfl (cs_none rfl (cs_none rfl (cs_none rfl (cs_none rfl (cs_none rfl (cs_nil)))))))))))))))))))) (by kernel_rfl)
theorem ev115 (n : Nat) (x : pdens [.b 145 [.v true (.pair (.rs 5 (.int .u8)) (.int .i64))], .c true (.v true yP)]) : evSig (tb115 n) Try.f115 [.b 145 [.v true (.pair (.rs 5 (.int .u8)) (.int .i64))], .c true (.v true yP)] [.c true (.v true yP)] x = F115 n x.1 x.2.1 := by kernel_rfl
theorem con115_ok (n : Nat) : Con.ok Try.prog 115 (con115 n) := conOf_ok (tb115_ok n) (body_la (by kernel_rfl : Try.f115.body = some code115) (la115 n)) Try.func115 (enters Try.func115 (by kernel_rfl) (by kernel_rfl)) rfl rfl (ev115 n)
/-! ### loop.example/fathomline/spec.l71Any -/
def F73 (n : Nat) (a0 : (List Int × Int) × Unit) : Option (rdens [.b 145 [.v true (.pair (.rs 5 (.int .u8)) (.int .i64))]] [.c true (.v true yP)]) :=
  (F113 n (((a0.fst.fst, a0.fst.snd), ()))).bind fun y1 =>
  (F114 n (((y1.snd.fst.fst.fst, y1.snd.fst.fst.snd), ())) ((16 : Int))).bind fun y2 =>
  cond (y2.fst == (0 : Int))
  ((F115 n (((y2.snd.fst.fst.fst, y2.snd.fst.fst.snd), ())) (y1.fst)).bind fun y3 =>
   some (y3.fst, ((y3.snd.fst.fst.fst, y3.snd.fst.fst.snd), ()), ()))
  (some (y1.fst, ((y2.snd.fst.fst.fst, y2.snd.fst.fst.snd), ()), ()))
noncomputable def con73 (n : Nat) : Con := conOf [.b 145 [.v true (.pair (.rs 5 (.int .u8)) (.int .i64))]] [.c true (.v true yP)] fun x => F73 n x.1
noncomputable def tb73 (n : Nat) : Tb := ⟨tiOf Try.prog, conL [(113, con113 n), (114, con114 n), (115, con115 n)], n, [], 13, lpL [], ctL [], [0], true⟩
noncomputable def code73 : Code := Try.f73.body.getD .skip
theorem tb73_ok (n : Nat) : (tb73 n).ok Try.prog := tbOk mixed (⟨con113_ok n, ⟨con114_ok n, ⟨con115_ok n, trivial⟩⟩⟩)
theorem blocks73 : blocks code73 = [] := by kernel_rfl
theorem la73 (n : Nat) : LpAll (tb73 n) code73 := lpAll blocks73 (bl_nil) rfl (cs_no fun _ => rfl) (by kernel_rfl)
theorem ev73 (n : Nat) (x : pdens [.b 145 [.v true (.pair (.rs 5 (.int .u8)) (.int .i64))]]) : evSig (tb73 n) Try.f73 [.b 145 [.v true (.pair (.rs 5 (.int .u8)) (.int .i64))]] [.c true (.v true yP)] x = F73 n x.1 := by kernel_rfl
theorem con73_ok (n : Nat) : Con.ok Try.prog 73 (con73 n) := conOf_ok (tb73_ok n) (body_la (by kernel_rfl : Try.f73.body = some code73) (la73 n)) Try.func73 (enters Try.func73 (by kernel_rfl) (by kernel_rfl)) rfl rfl (ev73 n)
end Go.Proofs.Ytdacfaincamliaa.Ev
