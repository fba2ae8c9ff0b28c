/- Plain functions that the loaded code comes to, and that it does. Conditions: none. -/
import Derived.Test.YtaehbfaldofmbaaGA
namespace Go.Proofs.Ytaehbfaldofmbaa.Ev
open Go Go.Proofs
/-! ### loop.example/fathomline/spec.l6Open -/
def J88_3 (n : Nat) (x1 : List Int) : Option (odens [(.ret, [(2, (.b 119 [(.v true (.pair (.rs 5 (.int .u8)) (.int .i64)))]))])]) :=
    some (Sum.inl (((x1, (0 : Int)), ()), ()))
def F88 (n : Nat) (a0 : List Int) : Option (rdens [.c false (.v true (.rs 5 (.int .u8)))] [.b 119 [.v true (.pair (.rs 5 (.int .u8)) (.int .i64))]]) :=
  cond (Decidable.decide ((↑a0.length : Int) > (2000 : Int)))
  (if (2000 : Int) ≤ (↑a0.length : Int) then
   match J88_3 n (List.drop (0 : Nat) (List.take (Int.toNat (2000 : Int)) a0)) with
   | none => none
   | some (Sum.inl v2) =>
    some (((v2.fst.fst.fst, v2.fst.fst.snd), ()), ())
   else none)
  (match J88_3 n (a0) with
   | none => none
   | some (Sum.inl v3) =>
    some (((v3.fst.fst.fst, v3.fst.fst.snd), ()), ()))
noncomputable def con88 (n : Nat) : Con := conOf [.c false (.v true (.rs 5 (.int .u8)))] [.b 119 [.v true (.pair (.rs 5 (.int .u8)) (.int .i64))]] fun x => F88 n x.1
noncomputable def tb88 (n : Nat) : Tb := ⟨tiOf Try.prog, conL [], n, [], 11, lpL [], ctL [(3, ⟨[(0, (.c false (.v true (.rs 5 (.int .u8)))))], [(.ret, [(2, (.b 119 [(.v true (.pair (.rs 5 (.int .u8)) (.int .i64)))]))])], fun v => J88_3 n v.1⟩)], []⟩
noncomputable def code88 : Code := Try.f88.body.getD .skip
theorem tb88_ok (n : Nat) : (tb88 n).ok Try.prog := tbOk mixed (trivial)
theorem blocks88 : blocks code88 = [] := by kernel_rfl
theorem ct88_3 (n : Nat) : CtOk (tb88 n) (sec code88 1).2 ⟨[(0, (.c false (.v true (.rs 5 (.int .u8)))))], [(.ret, [(2, (.b 119 [(.v true (.pair (.rs 5 (.int .u8)) (.int .i64)))]))])], fun v => J88_3 n v.1⟩ := fun _ => by kernel_rfl
theorem secs88 : seconds code88 = [(some 1, (sec code88 0).2), (some 3, (sec code88 1).2), (none, (sec code88 2).2), (none, (sec code88 3).2)] := by kernel_rfl
theorem la88 (n : Nat) : LpAll (tb88 n) code88 := lpAll blocks88 (bl_nil) secs88 (cs_none rfl (cs_one rfl (ct88_3 n) (cs_none rfl (cs_none rfl (cs_nil))))) (by kernel_rfl)
theorem ev88 (n : Nat) (x : pdens [.c false (.v true (.rs 5 (.int .u8)))]) : evSig (tb88 n) Try.f88 [.c false (.v true (.rs 5 (.int .u8)))] [.b 119 [.v true (.pair (.rs 5 (.int .u8)) (.int .i64))]] x = F88 n x.1 := by kernel_rfl
theorem con88_ok (n : Nat) : Con.ok Try.prog 88 (con88 n) := conOf_ok (tb88_ok n) (body_la (by kernel_rfl : Try.f88.body = some code88) (la88 n)) Try.func88 (enters Try.func88 (by kernel_rfl) (by kernel_rfl)) rfl rfl (ev88 n)
/-! ### (*loop.example/fathomline/spec.l6Rd).pick -/
def J90_4 (n : Nat) (x1 : (List Int × Int) × Unit) (x2 : Int) : Option (odens [(.ret, [(0, (.b 119 [(.v true (.pair (.rs 5 (.int .u8)) (.int .i64)))])), (4, (.c false (.v true (.int .i64))))])]) :=
    cond (Decidable.decide (Go.IntKind.i64.wrap (x1.fst.snd - (1 : Int)) < (↑(List.length x1.fst.fst) : Int)))
    (if (0 : Int) ≤ Go.IntKind.i64.wrap (x1.fst.snd - (1 : Int)) then
     if Go.IntKind.i64.wrap (x1.fst.snd - (1 : Int)) < (↑(List.length x1.fst.fst) : Int) then
     if x2 = (0 : Int) then none else
     some (Sum.inl (((x1.fst.fst, x1.fst.snd), ()), (Go.IntKind.i64.wrap (List.getD x1.fst.fst (Go.IntKind.i64.wrap (x1.fst.snd - (1 : Int))).toNat (0 : Int))).tmod x2, ()))
     else none
     else none)
    (if (↑(List.length x1.fst.fst) : Int) = (0 : Int) then none else
     if (0 : Int) ≤ (Go.IntKind.i64.wrap (x1.fst.snd - (1 : Int))).tmod (↑(List.length x1.fst.fst) : Int) then
     if (Go.IntKind.i64.wrap (x1.fst.snd - (1 : Int))).tmod (↑(List.length x1.fst.fst) : Int) < (↑(List.length x1.fst.fst) : Int) then
     if (↑(List.length x1.fst.fst) : Int) = (0 : Int) then none else
     if (0 : Int) ≤ (Go.IntKind.i64.wrap (Go.IntKind.i64.wrap (Go.IntKind.i64.wrap (x1.fst.snd - (1 : Int)) * (7 : Int)) + (3 : Int))).tmod (↑(List.length x1.fst.fst) : Int) then
     if (Go.IntKind.i64.wrap (Go.IntKind.i64.wrap (Go.IntKind.i64.wrap (x1.fst.snd - (1 : Int)) * (7 : Int)) + (3 : Int))).tmod (↑(List.length x1.fst.fst) : Int) < (↑(List.length x1.fst.fst) : Int) then
     if (↑(List.length x1.fst.fst) : Int) = (0 : Int) then none else
     if x2 = (0 : Int) then none else
     some (Sum.inl (((x1.fst.fst, x1.fst.snd), ()), (Go.IntKind.i64.wrap (↑(BitVec.ofInt Go.IntKind.i64.bits (Go.IntKind.i64.wrap (Go.IntKind.i64.wrap (Go.IntKind.i64.wrap (Go.IntKind.i64.wrap (Go.IntKind.i64.wrap (List.getD x1.fst.fst ((Go.IntKind.i64.wrap (x1.fst.snd - (1 : Int))).tmod (↑(List.length x1.fst.fst) : Int)).toNat (0 : Int)) * (131 : Int)) + Go.IntKind.i64.wrap (Go.IntKind.i64.wrap (List.getD x1.fst.fst ((Go.IntKind.i64.wrap (Go.IntKind.i64.wrap (Go.IntKind.i64.wrap (x1.fst.snd - (1 : Int)) * (7 : Int)) + (3 : Int))).tmod (↑(List.length x1.fst.fst) : Int)).toNat (0 : Int)) * (1117 : Int))) + Go.IntKind.i64.wrap (Go.IntKind.i64.wrap (x1.fst.snd - (1 : Int)) * (29 : Int))) + Go.IntKind.i64.wrap (Go.IntKind.i64.wrap ((Go.IntKind.i64.wrap (x1.fst.snd - (1 : Int))).tdiv (↑(List.length x1.fst.fst) : Int)) * (53 : Int)))) ^^^ BitVec.ofInt Go.IntKind.i64.bits (Go.IntKind.i64.wrap ((Go.IntKind.i64.wrap (Go.IntKind.i64.wrap (Go.IntKind.i64.wrap (Go.IntKind.i64.wrap (Go.IntKind.i64.wrap (List.getD x1.fst.fst ((Go.IntKind.i64.wrap (x1.fst.snd - (1 : Int))).tmod (↑(List.length x1.fst.fst) : Int)).toNat (0 : Int)) * (131 : Int)) + Go.IntKind.i64.wrap (Go.IntKind.i64.wrap (List.getD x1.fst.fst ((Go.IntKind.i64.wrap (Go.IntKind.i64.wrap (Go.IntKind.i64.wrap (x1.fst.snd - (1 : Int)) * (7 : Int)) + (3 : Int))).tmod (↑(List.length x1.fst.fst) : Int)).toNat (0 : Int)) * (1117 : Int))) + Go.IntKind.i64.wrap (Go.IntKind.i64.wrap (x1.fst.snd - (1 : Int)) * (29 : Int))) + Go.IntKind.i64.wrap (Go.IntKind.i64.wrap ((Go.IntKind.i64.wrap (x1.fst.snd - (1 : Int))).tdiv (↑(List.length x1.fst.fst) : Int)) * (53 : Int)))).tdiv (64 : Int)))).toNat : Int)).tmod x2, ()))
     else none
     else none
     else none
     else none)
def F90 (n : Nat) (a0 : (List Int × Int) × Unit) (a1 : Int) : Option (rdens [.b 119 [.v true (.pair (.rs 5 (.int .u8)) (.int .i64))], .c false (.v true (.int .i64))] [.c false (.v true (.int .i64))]) :=
  cond (Decidable.decide (a1 < (1 : Int)))
  (some ((0 : Int), ((a0.fst.fst, Go.IntKind.i64.wrap (a0.fst.snd + (1 : Int))), ()), ()))
  (cond ((↑(List.length a0.fst.fst) : Int) == (0 : Int))
   (some ((0 : Int), ((a0.fst.fst, Go.IntKind.i64.wrap (a0.fst.snd + (1 : Int))), ()), ()))
   (match J90_4 n (((a0.fst.fst, Go.IntKind.i64.wrap (a0.fst.snd + (1 : Int))), ())) (a1) with
    | none => none
    | some (Sum.inl v3) =>
     some (v3.snd.fst, ((v3.fst.fst.fst, v3.fst.fst.snd), ()), ())))
noncomputable def con90 (n : Nat) : Con := conOf [.b 119 [.v true (.pair (.rs 5 (.int .u8)) (.int .i64))], .c false (.v true (.int .i64))] [.c false (.v true (.int .i64))] fun x => F90 n x.1 x.2.1
noncomputable def tb90 (n : Nat) : Tb := ⟨tiOf Try.prog, conL [], n, [], 99, lpL [], ctL [(4, ⟨[(0, (.b 119 [(.v true (.pair (.rs 5 (.int .u8)) (.int .i64)))])), (1, (.c false (.v true (.int .i64))))], [(.ret, [(0, (.b 119 [(.v true (.pair (.rs 5 (.int .u8)) (.int .i64)))])), (4, (.c false (.v true (.int .i64))))])], fun v => J90_4 n v.1 v.2.1⟩)], [0]⟩
noncomputable def code90 : Code := Try.f90.body.getD .skip
theorem tb90_ok (n : Nat) : (tb90 n).ok Try.prog := tbOk mixed (trivial)
theorem blocks90 : blocks code90 = [] := by kernel_rfl
theorem ct90_4 (n : Nat) : CtOk (tb90 n) (sec code90 2).2 ⟨[(0, (.b 119 [(.v true (.pair (.rs 5 (.int .u8)) (.int .i64)))])), (1, (.c false (.v true (.int .i64))))], [(.ret, [(0, (.b 119 [(.v true (.pair (.rs 5 (.int .u8)) (.int .i64)))])), (4, (.c false (.v true (.int .i64))))])], fun v => J90_4 n v.1 v.2.1⟩ := fun _ => by kernel_rfl
theorem secs90 : seconds code90 = [(some 1, (sec code90 0).2), (some 2, (sec code90 1).2), (some 4, (sec code90 2).2), (none, (sec code90 3).2), (none, (sec code90 4).2), (some 5, (sec code90 5).2), (some 7, (sec code90 6).2), (none, (sec code90 7).2), (none, (sec code90 8).2), (some 8, (sec code90 9).2), (some 9, (sec code90 10).2), (none, (sec code90 11).2)] := by kernel_rfl
theorem la90 (n : Nat) : LpAll (tb90 n) code90 := lpAll blocks90 (bl_nil) secs90 (cs_none rfl (cs_none rfl (cs_one rfl (ct90_4 n) (cs_none rfl (cs_none rfl (cs_none rfl (cs_none rfl (cs_none rfl (cs_none rfl (cs_none rfl (cs_none rfl (cs_none rfl (cs_nil))))))))))))) (by kernel_rfl)
theorem ev90 (n : Nat) (x : pdens [.b 119 [.v true (.pair (.rs 5 (.int .u8)) (.int .i64))], .c false (.v true (.int .i64))]) : evSig (tb90 n) Try.f90 [.b 119 [.v true (.pair (.rs 5 (.int .u8)) (.int .i64))], .c false (.v true (.int .i64))] [.c false (.v true (.int .i64))] x = F90 n x.1 x.2.1 := by kernel_rfl
theorem con90_ok (n : Nat) : Con.ok Try.prog 90 (con90 n) := conOf_ok (tb90_ok n) (body_la (by kernel_rfl : Try.f90.body = some code90) (la90 n)) Try.func90 (enters Try.func90 (by kernel_rfl) (by kernel_rfl)) rfl rfl (ev90 n)
/-! ### loop.example/fathomline/spec.l71Do -/
def J125_6 (n : Nat) (x8 : (List Int × Int) × Unit) (x9 : (Int × Int × Int) × Unit) (x10 : (Int × Int × Int) × Unit) : Option (odens [(.ret, [(0, (.b 119 [(.v true (.pair (.rs 5 (.int .u8)) (.int .i64)))])), (4, (.b 52 [(.v true (.pair (.int .i64) (.pair (.int .i64) (.int .i64))))]))])]) :=
    some (Sum.inl (((x8.fst.fst, x8.fst.snd), ()), ((x10.fst.fst, x10.fst.snd.fst, x10.fst.snd.snd), ()), ()))
def J125_4 (n : Nat) (x4 : (List Int × Int) × Unit) (x5 : (Int × Int × Int) × Unit) (x6 : (Int × Int × Int) × Unit) : Option (odens [(.ret, [(0, (.b 119 [(.v true (.pair (.rs 5 (.int .u8)) (.int .i64)))])), (4, (.b 52 [(.v true (.pair (.int .i64) (.pair (.int .i64) (.int .i64))))]))])]) :=
    cond (x6.fst.fst == (1 : Int))
    ((F90 n (((x4.fst.fst, x4.fst.snd), ())) ((3 : Int))).bind fun y7 =>
     match J125_6 n (((y7.snd.fst.fst.fst, y7.snd.fst.fst.snd), ())) (((x5.fst.fst, x5.fst.snd.fst, x5.fst.snd.snd), ())) (((x6.fst.fst, x6.fst.snd.fst, Go.IntKind.i64.wrap ((1 : Int) + y7.fst)), ())) with
     | none => none
     | some (Sum.inl v11) =>
      some (Sum.inl (((v11.fst.fst.fst, v11.fst.fst.snd), ()), ((v11.snd.fst.fst.fst, v11.snd.fst.fst.snd.fst, v11.snd.fst.fst.snd.snd), ()), ())))
    (cond (x6.fst.fst == (6 : Int))
     ((F90 n (((x4.fst.fst, x4.fst.snd), ())) ((3 : Int))).bind fun y12 =>
      match J125_6 n (((y12.snd.fst.fst.fst, y12.snd.fst.fst.snd), ())) (((x5.fst.fst, x5.fst.snd.fst, x5.fst.snd.snd), ())) (((x6.fst.fst, x6.fst.snd.fst, Go.IntKind.i64.wrap ((1 : Int) + y12.fst)), ())) with
      | none => none
      | some (Sum.inl v13) =>
       some (Sum.inl (((v13.fst.fst.fst, v13.fst.fst.snd), ()), ((v13.snd.fst.fst.fst, v13.snd.fst.fst.snd.fst, v13.snd.fst.fst.snd.snd), ()), ())))
     (match J125_6 n (((x4.fst.fst, x4.fst.snd), ())) (((x5.fst.fst, x5.fst.snd.fst, x5.fst.snd.snd), ())) (((x6.fst.fst, x6.fst.snd.fst, x6.fst.snd.snd), ())) with
      | none => none
      | some (Sum.inl v14) =>
       some (Sum.inl (((v14.fst.fst.fst, v14.fst.fst.snd), ()), ((v14.snd.fst.fst.fst, v14.snd.fst.fst.snd.fst, v14.snd.fst.fst.snd.snd), ()), ()))))
def F125 (n : Nat) (a0 : (List Int × Int) × Unit) (a1 : Int) : Option (rdens [.b 119 [.v true (.pair (.rs 5 (.int .u8)) (.int .i64))], .c false (.v true (.int .i64))] [.c true (.v true (.pair (.int .i64) (.pair (.int .i64) (.int .i64))))]) :=
  (F90 n (((a0.fst.fst, a0.fst.snd), ())) ((10 : Int))).bind fun y1 =>
  if (0 : Int) ≤ y1.fst then
  if y1.fst < (↑[(1 : Int), (1 : Int), (1 : Int), (2 : Int), (2 : Int), (2 : Int), (3 : Int), (4 : Int), (5 : Int), (6 : Int)].length : Int) then
  if Int.toNat y1.fst < [(1 : Int), (1 : Int), (1 : Int), (2 : Int), (2 : Int), (2 : Int), (3 : Int), (4 : Int), (5 : Int), (6 : Int)].length then
  (F82 n (([(1 : Int), (1 : Int), (1 : Int), (2 : Int), (2 : Int), (2 : Int), (3 : Int), (4 : Int), (5 : Int), (6 : Int)].getD (Int.toNat y1.fst) (0 : Int), (0 : Int), (0 : Int)))).bind fun y2 =>
  cond (y2.fst)
  ((F90 n (((y1.snd.fst.fst.fst, y1.snd.fst.fst.snd), ())) (a1)).bind fun y3 =>
   match J125_4 n (((y3.snd.fst.fst.fst, y3.snd.fst.fst.snd), ())) ((((0 : Int), (0 : Int), (0 : Int)), ())) ((([(1 : Int), (1 : Int), (1 : Int), (2 : Int), (2 : Int), (2 : Int), (3 : Int), (4 : Int), (5 : Int), (6 : Int)].getD (Int.toNat y1.fst) (0 : Int), y3.fst, (0 : Int)), ())) with
   | none => none
   | some (Sum.inl v15) =>
    some ((v15.snd.fst.fst.fst, v15.snd.fst.fst.snd.fst, v15.snd.fst.fst.snd.snd), ((v15.fst.fst.fst, v15.fst.fst.snd), ()), ()))
  ((F83 n (([(1 : Int), (1 : Int), (1 : Int), (2 : Int), (2 : Int), (2 : Int), (3 : Int), (4 : Int), (5 : Int), (6 : Int)].getD (Int.toNat y1.fst) (0 : Int), (0 : Int), (0 : Int)))).bind fun y16 =>
   cond (y16.fst)
   ((F90 n (((y1.snd.fst.fst.fst, y1.snd.fst.fst.snd), ())) (a1)).bind fun y17 =>
    match J125_4 n (((y17.snd.fst.fst.fst, y17.snd.fst.fst.snd), ())) ((((0 : Int), (0 : Int), (0 : Int)), ())) ((([(1 : Int), (1 : Int), (1 : Int), (2 : Int), (2 : Int), (2 : Int), (3 : Int), (4 : Int), (5 : Int), (6 : Int)].getD (Int.toNat y1.fst) (0 : Int), y17.fst, (0 : Int)), ())) with
    | none => none
    | some (Sum.inl v18) =>
     some ((v18.snd.fst.fst.fst, v18.snd.fst.fst.snd.fst, v18.snd.fst.fst.snd.snd), ((v18.fst.fst.fst, v18.fst.fst.snd), ()), ()))
   (match J125_4 n (((y1.snd.fst.fst.fst, y1.snd.fst.fst.snd), ())) ((((0 : Int), (0 : Int), (0 : Int)), ())) ((([(1 : Int), (1 : Int), (1 : Int), (2 : Int), (2 : Int), (2 : Int), (3 : Int), (4 : Int), (5 : Int), (6 : Int)].getD (Int.toNat y1.fst) (0 : Int), (0 : Int), (0 : Int)), ())) with
    | none => none
    | some (Sum.inl v19) =>
     some ((v19.snd.fst.fst.fst, v19.snd.fst.fst.snd.fst, v19.snd.fst.fst.snd.snd), ((v19.fst.fst.fst, v19.fst.fst.snd), ()), ())))
  else none
  else none
  else none
noncomputable def con125 (n : Nat) : Con := conOf [.b 119 [.v true (.pair (.rs 5 (.int .u8)) (.int .i64))], .c false (.v true (.int .i64))] [.c true (.v true (.pair (.int .i64) (.pair (.int .i64) (.int .i64))))] fun x => F125 n x.1 x.2.1
noncomputable def tb125 (n : Nat) : Tb := ⟨tiOf Try.prog, conL [(90, con90 n), (82, con82 n), (83, con83 n)], n, [], 35, lpL [], ctL [(6, ⟨[(0, (.b 119 [(.v true (.pair (.rs 5 (.int .u8)) (.int .i64)))])), (4, (.b 52 [(.v true (.pair (.int .i64) (.pair (.int .i64) (.int .i64))))])), (5, (.b 52 [(.v true (.pair (.int .i64) (.pair (.int .i64) (.int .i64))))]))], [(.ret, [(0, (.b 119 [(.v true (.pair (.rs 5 (.int .u8)) (.int .i64)))])), (4, (.b 52 [(.v true (.pair (.int .i64) (.pair (.int .i64) (.int .i64))))]))])], fun v => J125_6 n v.1 v.2.1 v.2.2.1⟩), (4, ⟨[(0, (.b 119 [(.v true (.pair (.rs 5 (.int .u8)) (.int .i64)))])), (4, (.b 52 [(.v true (.pair (.int .i64) (.pair (.int .i64) (.int .i64))))])), (5, (.b 52 [(.v true (.pair (.int .i64) (.pair (.int .i64) (.int .i64))))]))], [(.ret, [(0, (.b 119 [(.v true (.pair (.rs 5 (.int .u8)) (.int .i64)))])), (4, (.b 52 [(.v true (.pair (.int .i64) (.pair (.int .i64) (.int .i64))))]))])], fun v => J125_4 n v.1 v.2.1 v.2.2.1⟩)], [0]⟩
noncomputable def code125 : Code := Try.f125.body.getD .skip
theorem tb125_ok (n : Nat) : (tb125 n).ok Try.prog := tbOk mixed (⟨con90_ok n, ⟨con82_ok n, ⟨con83_ok n, trivial⟩⟩⟩)
theorem blocks125 : blocks code125 = [] := by kernel_rfl
theorem ct125_4 (n : Nat) : CtOk (tb125 n) (sec code125 2).2 ⟨[(0, (.b 119 [(.v true (.pair (.rs 5 (.int .u8)) (.int .i64)))])), (4, (.b 52 [(.v true (.pair (.int .i64) (.pair (.int .i64) (.int .i64))))])), (5, (.b 52 [(.v true (.pair (.int .i64) (.pair (.int .i64) (.int .i64))))]))], [(.ret, [(0, (.b 119 [(.v true (.pair (.rs 5 (.int .u8)) (.int .i64)))])), (4, (.b 52 [(.v true (.pair (.int .i64) (.pair (.int .i64) (.int .i64))))]))])], fun v => J125_4 n v.1 v.2.1 v.2.2.1⟩ := fun _ => by kernel_rfl
theorem ct125_6 (n : Nat) : CtOk (tb125 n) (sec code125 4).2 ⟨[(0, (.b 119 [(.v true (.pair (.rs 5 (.int .u8)) (.int .i64)))])), (4, (.b 52 [(.v true (.pair (.int .i64) (.pair (.int .i64) (.int .i64))))])), (5, (.b 52 [(.v true (.pair (.int .i64) (.pair (.int .i64) (.int .i64))))]))], [(.ret, [(0, (.b 119 [(.v true (.pair (.rs 5 (.int .u8)) (.int .i64)))])), (4, (.b 52 [(.v true (.pair (.int .i64) (.pair (.int .i64) (.int .i64))))]))])], fun v => J125_6 n v.1 v.2.1 v.2.2.1⟩ := fun _ => by kernel_rfl
theorem secs125 : seconds code125 = [(some 1, (sec code125 0).2), (some 2, (sec code125 1).2), (some 4, (sec code125 2).2), (none, (sec code125 3).2), (some 6, (sec code125 4).2), (none, (sec code125 5).2), (none, (sec code125 6).2)] := by kernel_rfl
theorem la125 (n : Nat) : LpAll (tb125 n) code125 := lpAll blocks125 (bl_nil) secs125 (cs_none rfl (cs_none rfl (cs_one rfl (ct125_4 n) (cs_none rfl (cs_one rfl (ct125_6 n) (cs_none rfl (cs_none rfl (cs_nil)))))))) (by kernel_rfl)
theorem ev125 (n : Nat) (x : pdens [.b 119 [.v true (.pair (.rs 5 (.int .u8)) (.int .i64))], .c false (.v true (.int .i64))]) : evSig (tb125 n) Try.f125 [.b 119 [.v true (.pair (.rs 5 (.int .u8)) (.int .i64))], .c false (.v true (.int .i64))] [.c true (.v true (.pair (.int .i64) (.pair (.int .i64) (.int .i64))))] x = F125 n x.1 x.2.1 := by kernel_rfl
theorem con125_ok (n : Nat) : Con.ok Try.prog 125 (con125 n) := conOf_ok (tb125_ok n) (body_la (by kernel_rfl : Try.f125.body = some code125) (la125 n)) Try.func125 (enters Try.func125 (by kernel_rfl) (by kernel_rfl)) rfl rfl (ev125 n)
/-! ### loop.example/fathomline/spec.l71Reader -/
def J123_4 (n : Nat) (x5 : (List Int × Int) × Unit) (x6 : List (Int × Int × Int)) : Option (odens [(.ret, [(0, (.b 119 [(.v true (.pair (.rs 5 (.int .u8)) (.int .i64)))])), (4, (.c false (.r 52 (.pair (.int .i64) (.pair (.int .i64) (.int .i64))))))])]) :=
    some (Sum.inl (((x5.fst.fst, x5.fst.snd), ()), x6, ()))
def F123 (n : Nat) (a0 : (List Int × Int) × Unit) (a1 : Int) : Option (rdens [.b 119 [.v true (.pair (.rs 5 (.int .u8)) (.int .i64))], .c false (.v true (.int .i64))] [.c false (.r 52 (.pair (.int .i64) (.pair (.int .i64) (.int .i64))))]) :=
  (F90 n (((a0.fst.fst, a0.fst.snd), ())) (a1)).bind fun y1 =>
  (F90 n (((y1.snd.fst.fst.fst, y1.snd.fst.fst.snd), ())) (a1)).bind fun y2 =>
  (F90 n (((y2.snd.fst.fst.fst, y2.snd.fst.fst.snd), ())) ((3 : Int))).bind fun y3 =>
  cond (y3.fst == (0 : Int))
  ((F125 n (((y3.snd.fst.fst.fst, y3.snd.fst.fst.snd), ())) (a1)).bind fun y4 =>
   match J123_4 n (((y4.snd.fst.fst.fst, y4.snd.fst.fst.snd), ())) ([((7 : Int), (0 : Int), (0 : Int)), ((2 : Int), y1.fst, (0 : Int)), ((2 : Int), y2.fst, (0 : Int)), ((8 : Int), (0 : Int), (0 : Int))].set (Int.toNat (2 : Int)) (y4.fst.fst, y4.fst.snd.fst, y4.fst.snd.snd)) with
   | none => none
   | some (Sum.inl v7) =>
    some (v7.snd.fst, ((v7.fst.fst.fst, v7.fst.fst.snd), ()), ()))
  (match J123_4 n (((y3.snd.fst.fst.fst, y3.snd.fst.fst.snd), ())) ([((7 : Int), (0 : Int), (0 : Int)), ((2 : Int), y1.fst, (0 : Int)), ((2 : Int), y2.fst, (0 : Int)), ((8 : Int), (0 : Int), (0 : Int))]) with
   | none => none
   | some (Sum.inl v8) =>
    some (v8.snd.fst, ((v8.fst.fst.fst, v8.fst.fst.snd), ()), ()))
noncomputable def con123 (n : Nat) : Con := conOf [.b 119 [.v true (.pair (.rs 5 (.int .u8)) (.int .i64))], .c false (.v true (.int .i64))] [.c false (.r 52 (.pair (.int .i64) (.pair (.int .i64) (.int .i64))))] fun x => F123 n x.1 x.2.1
noncomputable def tb123 (n : Nat) : Tb := ⟨tiOf Try.prog, conL [(90, con90 n), (125, con125 n)], n, [], 26, lpL [], ctL [(4, ⟨[(0, (.b 119 [(.v true (.pair (.rs 5 (.int .u8)) (.int .i64)))])), (5, (.c false (.r 52 (.pair (.int .i64) (.pair (.int .i64) (.int .i64))))))], [(.ret, [(0, (.b 119 [(.v true (.pair (.rs 5 (.int .u8)) (.int .i64)))])), (4, (.c false (.r 52 (.pair (.int .i64) (.pair (.int .i64) (.int .i64))))))])], fun v => J123_4 n v.1 v.2.1⟩)], [0]⟩
noncomputable def code123 : Code := Try.f123.body.getD .skip
theorem tb123_ok (n : Nat) : (tb123 n).ok Try.prog := tbOk mixed (⟨con90_ok n, ⟨con125_ok n, trivial⟩⟩)
theorem blocks123 : blocks code123 = [] := by kernel_rfl
theorem ct123_4 (n : Nat) : CtOk (tb123 n) (sec code123 2).2 ⟨[(0, (.b 119 [(.v true (.pair (.rs 5 (.int .u8)) (.int .i64)))])), (5, (.c false (.r 52 (.pair (.int .i64) (.pair (.int .i64) (.int .i64))))))], [(.ret, [(0, (.b 119 [(.v true (.pair (.rs 5 (.int .u8)) (.int .i64)))])), (4, (.c false (.r 52 (.pair (.int .i64) (.pair (.int .i64) (.int .i64))))))])], fun v => J123_4 n v.1 v.2.1⟩ := fun _ => by kernel_rfl
theorem secs123 : seconds code123 = [(some 1, (sec code123 0).2), (some 2, (sec code123 1).2), (some 4, (sec code123 2).2), (none, (sec code123 3).2), (none, (sec code123 4).2)] := by kernel_rfl
theorem la123 (n : Nat) : LpAll (tb123 n) code123 := lpAll blocks123 (bl_nil) secs123 (cs_none rfl (cs_none rfl (cs_one rfl (ct123_4 n) (cs_none rfl (cs_none rfl (cs_nil)))))) (by kernel_rfl)
theorem ev123 (n : Nat) (x : pdens [.b 119 [.v true (.pair (.rs 5 (.int .u8)) (.int .i64))], .c false (.v true (.int .i64))]) : evSig (tb123 n) Try.f123 [.b 119 [.v true (.pair (.rs 5 (.int .u8)) (.int .i64))], .c false (.v true (.int .i64))] [.c false (.r 52 (.pair (.int .i64) (.pair (.int .i64) (.int .i64))))] x = F123 n x.1 x.2.1 := by kernel_rfl
theorem con123_ok (n : Nat) : Con.ok Try.prog 123 (con123 n) := conOf_ok (tb123_ok n) (body_la (by kernel_rfl : Try.f123.body = some code123) (la123 n)) Try.func123 (enters Try.func123 (by kernel_rfl) (by kernel_rfl)) rfl rfl (ev123 n)
/-! ### loop.example/fathomline/spec.l71Waiter -/
def F124 (n : Nat) (a0 : (List Int × Int) × Unit) (a1 : Int) : Option (rdens [.b 119 [.v true (.pair (.rs 5 (.int .u8)) (.int .i64))], .c false (.v true (.int .i64))] [.c false (.r 52 (.pair (.int .i64) (.pair (.int .i64) (.int .i64))))]) :=
  (F90 n (((a0.fst.fst, a0.fst.snd), ())) (a1)).bind fun y1 =>
  (F90 n (((y1.snd.fst.fst.fst, y1.snd.fst.fst.snd), ())) ((2 : Int))).bind fun y2 =>
  (F90 n (((y2.snd.fst.fst.fst, y2.snd.fst.fst.snd), ())) ((2 : Int))).bind fun y3 =>
  if (0 : Int) ≤ y3.fst then
  if y3.fst < (↑[(1 : Int), (6 : Int)].length : Int) then
  (F90 n (((y3.snd.fst.fst.fst, y3.snd.fst.fst.snd), ())) (a1)).bind fun y4 =>
  (F90 n (((y4.snd.fst.fst.fst, y4.snd.fst.fst.snd), ())) ((2 : Int))).bind fun y5 =>
  some ([((1 : Int), y1.fst, Go.IntKind.i64.wrap ((1 : Int) + y2.fst)), ((9 : Int), (0 : Int), (0 : Int)), ([(1 : Int), (6 : Int)].getD (Int.toNat y3.fst) (0 : Int), y4.fst, Go.IntKind.i64.wrap ((1 : Int) + y5.fst))], ((y5.snd.fst.fst.fst, y5.snd.fst.fst.snd), ()), ())
  else none
  else none
noncomputable def con124 (n : Nat) : Con := conOf [.b 119 [.v true (.pair (.rs 5 (.int .u8)) (.int .i64))], .c false (.v true (.int .i64))] [.c false (.r 52 (.pair (.int .i64) (.pair (.int .i64) (.int .i64))))] fun x => F124 n x.1 x.2.1
noncomputable def tb124 (n : Nat) : Tb := ⟨tiOf Try.prog, conL [(90, con90 n)], n, [], 26, lpL [], ctL [], [0]⟩
noncomputable def code124 : Code := Try.f124.body.getD .skip
theorem tb124_ok (n : Nat) : (tb124 n).ok Try.prog := tbOk mixed (⟨con90_ok n, trivial⟩)
theorem blocks124 : blocks code124 = [] := by kernel_rfl
theorem la124 (n : Nat) : LpAll (tb124 n) code124 := lpAll blocks124 (bl_nil) rfl (cs_no fun _ => rfl) (by kernel_rfl)
theorem ev124 (n : Nat) (x : pdens [.b 119 [.v true (.pair (.rs 5 (.int .u8)) (.int .i64))], .c false (.v true (.int .i64))]) : evSig (tb124 n) Try.f124 [.b 119 [.v true (.pair (.rs 5 (.int .u8)) (.int .i64))], .c false (.v true (.int .i64))] [.c false (.r 52 (.pair (.int .i64) (.pair (.int .i64) (.int .i64))))] x = F124 n x.1 x.2.1 := by kernel_rfl
theorem con124_ok (n : Nat) : Con.ok Try.prog 124 (con124 n) := conOf_ok (tb124_ok n) (body_la (by kernel_rfl : Try.f124.body = some code124) (la124 n)) Try.func124 (enters Try.func124 (by kernel_rfl) (by kernel_rfl)) rfl rfl (ev124 n)
/-! ### loop.example/fathomline/spec.l71Thread -/
def L126_0 (n : Nat) : Nat → (List Int × Int) × Unit → Int → List (Int × Int × Int) → Int → Option (odens [((.exit 0), [(0, (.b 119 [(.v true (.pair (.rs 5 (.int .u8)) (.int .i64)))])), (7, (.c false (.r 52 (.pair (.int .i64) (.pair (.int .i64) (.int .i64))))))])])
  | 0, _, _, _, _ => none
  | m + 1, x2, x3, x4, x5 =>
    cond (Decidable.decide (x5 > (0 : Int)))
    ((F125 n (((x2.fst.fst, x2.fst.snd), ())) (x3)).bind fun y6 =>
     if (x4.length + [(y6.fst.fst, y6.fst.snd.fst, y6.fst.snd.snd)].length) * (24 : Nat) ≤ (140737488355328 : Nat) then
     L126_0 n m (((y6.snd.fst.fst.fst, y6.snd.fst.fst.snd), ())) (x3) (x4 ++ [(y6.fst.fst, y6.fst.snd.fst, y6.fst.snd.snd)]) (Go.IntKind.i64.wrap (x5 - (1 : Int)))
     else none)
    (some (Sum.inl (((x2.fst.fst, x2.fst.snd), ()), x4, ())))
def F126 (n : Nat) (a0 : (List Int × Int) × Unit) (a1 : Int) (a2 : Int) : Option (rdens [.b 119 [.v true (.pair (.rs 5 (.int .u8)) (.int .i64))], .c false (.v true (.int .i64)), .c false (.v true (.int .i64))] [.c false (.r 52 (.pair (.int .i64) (.pair (.int .i64) (.int .i64))))]) :=
  (F90 n (((a0.fst.fst, a0.fst.snd), ())) (Go.IntKind.i64.wrap (a1 + (1 : Int)))).bind fun y1 =>
  match L126_0 n n (((y1.snd.fst.fst.fst, y1.snd.fst.fst.snd), ())) (a2) ([]) (y1.fst) with
  | none => none
  | some (Sum.inl v7) =>
   some (v7.snd.fst, ((v7.fst.fst.fst, v7.fst.fst.snd), ()), ())
noncomputable def con126 (n : Nat) : Con := conOf [.b 119 [.v true (.pair (.rs 5 (.int .u8)) (.int .i64))], .c false (.v true (.int .i64)), .c false (.v true (.int .i64))] [.c false (.r 52 (.pair (.int .i64) (.pair (.int .i64) (.int .i64))))] fun x => F126 n x.1 x.2.1 x.2.2.1
noncomputable def tb126 (n : Nat) : Tb := ⟨tiOf Try.prog, conL [(90, con90 n), (125, con125 n)], n, [], 25, lpL [(0, ⟨[(0, (.b 119 [(.v true (.pair (.rs 5 (.int .u8)) (.int .i64)))])), (2, (.c false (.v true (.int .i64)))), (7, (.c false (.r 52 (.pair (.int .i64) (.pair (.int .i64) (.int .i64)))))), (8, (.c false (.v true (.int .i64))))], [((.exit 0), [(0, (.b 119 [(.v true (.pair (.rs 5 (.int .u8)) (.int .i64)))])), (7, (.c false (.r 52 (.pair (.int .i64) (.pair (.int .i64) (.int .i64))))))])], fun m v => L126_0 n m v.1 v.2.1 v.2.2.1 v.2.2.2.1⟩)], ctL [], [0]⟩
noncomputable def code126 : Code := Try.f126.body.getD .skip
theorem tb126_ok (n : Nat) : (tb126 n).ok Try.prog := tbOk mixed (⟨con90_ok n, ⟨con125_ok n, trivial⟩⟩)
theorem lp126_0 (n : Nat) : LpAt (tb126 n) (loopBody code126 0) 0 := lpAt rfl (fun _ => by kernel_rfl) (fun _ _ => by kernel_rfl)
theorem blocks126 : blocks code126 = [(0, .loop (loopBody code126 0)), (1, blockBody code126 1)] := by kernel_rfl
theorem la126 (n : Nat) : LpAll (tb126 n) code126 := lpAll blocks126 (bl_loop (lp126_0 n) (bl_none rfl (bl_nil))) rfl (cs_no fun _ => rfl) (by kernel_rfl)
theorem ev126 (n : Nat) (x : pdens [.b 119 [.v true (.pair (.rs 5 (.int .u8)) (.int .i64))], .c false (.v true (.int .i64)), .c false (.v true (.int .i64))]) : evSig (tb126 n) Try.f126 [.b 119 [.v true (.pair (.rs 5 (.int .u8)) (.int .i64))], .c false (.v true (.int .i64)), .c false (.v true (.int .i64))] [.c false (.r 52 (.pair (.int .i64) (.pair (.int .i64) (.int .i64))))] x = F126 n x.1 x.2.1 x.2.2.1 := by kernel_rfl
theorem con126_ok (n : Nat) : Con.ok Try.prog 126 (con126 n) := conOf_ok (tb126_ok n) (body_la (by kernel_rfl : Try.f126.body = some code126) (la126 n)) Try.func126 (enters Try.func126 (by kernel_rfl) (by kernel_rfl)) rfl rfl (ev126 n)
/-! ### loop.example/fathomline/spec.l71Steps -/
def L127_0 (n : Nat) : Nat → List (List (Int × Int × Int)) × Unit → Int → Int → Option (odens [((.exit 0), [(3, (.c false (.v true (.int .i64))))])])
  | 0, _, _, _ => none
  | m + 1, x1, x2, x3 =>
    cond (Decidable.decide (x3 < (↑(List.length x1.fst) : Int)))
    (if (0 : Int) ≤ x3 then
     if x3 < (↑(List.length x1.fst) : Int) then
     L127_0 n m ((x1.fst, ())) (Go.IntKind.i64.wrap (x2 + (↑(List.length (List.getD x1.fst x3.toNat [])) : Int))) (Go.IntKind.i64.wrap (x3 + (1 : Int)))
     else none
     else none)
    (some (Sum.inl (x2, ())))
def F127 (n : Nat) (a0 : List (List (Int × Int × Int))) : Option (rdens [.c true (.v false (.rs 50 (.rs 52 (.pair (.int .i64) (.pair (.int .i64) (.int .i64))))))] [.c false (.v true (.int .i64))]) :=
  match L127_0 n n ((a0, ())) ((0 : Int)) ((0 : Int)) with
  | none => none
  | some (Sum.inl v4) =>
   some (v4.fst, ())
noncomputable def con127 (n : Nat) : Con := conOf [.c true (.v false (.rs 50 (.rs 52 (.pair (.int .i64) (.pair (.int .i64) (.int .i64))))))] [.c false (.v true (.int .i64))] fun x => F127 n x.1
noncomputable def tb127 (n : Nat) : Tb := ⟨tiOf Try.prog, conL [], n, [], 21, lpL [(0, ⟨[(1, (.b 44 [(.v false (.rs 50 (.rs 52 (.pair (.int .i64) (.pair (.int .i64) (.int .i64))))))])), (3, (.c false (.v true (.int .i64)))), (4, (.c false (.v true (.int .i64))))], [((.exit 0), [(3, (.c false (.v true (.int .i64))))])], fun m v => L127_0 n m v.1 v.2.1 v.2.2.1⟩)], ctL [], []⟩
noncomputable def code127 : Code := Try.f127.body.getD .skip
theorem tb127_ok (n : Nat) : (tb127 n).ok Try.prog := tbOk mixed (trivial)
theorem lp127_0 (n : Nat) : LpAt (tb127 n) (loopBody code127 0) 0 := lpAt rfl (fun _ => by kernel_rfl) (fun _ _ => by kernel_rfl)
theorem blocks127 : blocks code127 = [(0, .loop (loopBody code127 0)), (1, blockBody code127 1)] := by kernel_rfl
theorem la127 (n : Nat) : LpAll (tb127 n) code127 := lpAll blocks127 (bl_loop (lp127_0 n) (bl_none rfl (bl_nil))) rfl (cs_no fun _ => rfl) (by kernel_rfl)
theorem ev127 (n : Nat) (x : pdens [.c true (.v false (.rs 50 (.rs 52 (.pair (.int .i64) (.pair (.int .i64) (.int .i64))))))]) : evSig (tb127 n) Try.f127 [.c true (.v false (.rs 50 (.rs 52 (.pair (.int .i64) (.pair (.int .i64) (.int .i64))))))] [.c false (.v true (.int .i64))] x = F127 n x.1 := by kernel_rfl
theorem con127_ok (n : Nat) : Con.ok Try.prog 127 (con127 n) := conOf_ok (tb127_ok n) (body_la (by kernel_rfl : Try.f127.body = some code127) (la127 n)) Try.func127 (enters Try.func127 (by kernel_rfl) (by kernel_rfl)) rfl rfl (ev127 n)
/-! ### loop.example/fathomline/spec.l71Prog -/
def J89_15 (n : Nat) (x10 : (List Int × Int) × Unit) (x11 : List (List (Int × Int × Int)) × Unit) (x12 : Int) (x13 : List (List (Int × Int × Int)) × Unit) : Option (odens [(.ret, [(0, (.b 119 [(.v true (.pair (.rs 5 (.int .u8)) (.int .i64)))])), (2, (.b 44 [(.r 50 (.rs 52 (.pair (.int .i64) (.pair (.int .i64) (.int .i64)))))]))]), (.normal, [(0, (.b 119 [(.v true (.pair (.rs 5 (.int .u8)) (.int .i64)))])), (2, (.b 44 [(.r 50 (.rs 52 (.pair (.int .i64) (.pair (.int .i64) (.int .i64)))))])), (3, (.c false (.v true (.int .i64))))])]) :=
    (F35 n (x13.fst)).bind fun y14 =>
    cond (y14.fst)
    ((F127 n (x13.fst)).bind fun y15 =>
     cond (Decidable.decide (y15.fst ≤ (8 : Int)))
     (some (Sum.inl (((x10.fst.fst, x10.fst.snd), ()), (x13.fst, ()), ())))
     (some (Sum.inr (Sum.inl (((x10.fst.fst, x10.fst.snd), ()), (x11.fst, ()), x12, ())))))
    (some (Sum.inr (Sum.inl (((x10.fst.fst, x10.fst.snd), ()), (x11.fst, ()), x12, ()))))
def J89_3 (n : Nat) (x18 : (List Int × Int) × Unit) (x19 : List (List (Int × Int × Int)) × Unit) (x20 : Int) : Option (odens [(.normal, [(0, (.b 119 [(.v true (.pair (.rs 5 (.int .u8)) (.int .i64)))])), (2, (.b 44 [(.r 50 (.rs 52 (.pair (.int .i64) (.pair (.int .i64) (.int .i64)))))])), (3, (.c false (.v true (.int .i64))))])]) :=
    some (Sum.inl (((x18.fst.fst, x18.fst.snd), ()), (x19.fst, ()), Go.IntKind.i64.wrap (x20 + (1 : Int)), ()))
def L89_2 (n : Nat) : Nat → (List Int × Int) × Unit → List (List (Int × Int × Int)) × Unit → Int → List (List (Int × Int × Int)) × Unit → Int → Int → Int → Option (odens [((.exit 2), [(0, (.b 119 [(.v true (.pair (.rs 5 (.int .u8)) (.int .i64)))])), (2, (.b 44 [(.r 50 (.rs 52 (.pair (.int .i64) (.pair (.int .i64) (.int .i64)))))])), (3, (.c false (.v true (.int .i64)))), (4, (.b 44 [(.r 50 (.rs 52 (.pair (.int .i64) (.pair (.int .i64) (.int .i64)))))]))])])
  | 0, _, _, _, _, _, _, _ => none
  | m + 1, x26, x27, x28, x29, x30, x31, x32 =>
    cond (Decidable.decide (x32 < x31))
    (if x31 = (0 : Int) then none else
     (F90 n (((x26.fst.fst, x26.fst.snd), ())) ((2 : Int))).bind fun y33 =>
     (F126 n (((y33.snd.fst.fst.fst, y33.snd.fst.fst.snd), ())) (Go.IntKind.i64.wrap (Go.IntKind.i64.wrap (Int.tdiv (6 : Int) x31) + y33.fst)) (x30)).bind fun y34 =>
     if (List.length x29.fst + [y34.fst].length) * (24 : Nat) ≤ (140737488355328 : Nat) then
     L89_2 n m (((y34.snd.fst.fst.fst, y34.snd.fst.fst.snd), ())) ((x27.fst, ())) (x28) ((x29.fst ++ [y34.fst], ())) (x30) (x31) (Go.IntKind.i64.wrap (x32 + (1 : Int)))
     else none)
    (some (Sum.inl (((x26.fst.fst, x26.fst.snd), ()), (x27.fst, ()), x28, (x29.fst, ()), ())))
def L89_0 (n : Nat) : Nat → (List Int × Int) × Unit → List (List (Int × Int × Int)) × Unit → Int → Option (odens [(.ret, [(0, (.b 119 [(.v true (.pair (.rs 5 (.int .u8)) (.int .i64)))])), (2, (.b 44 [(.r 50 (.rs 52 (.pair (.int .i64) (.pair (.int .i64) (.int .i64)))))]))]), ((.exit 0), [(0, (.b 119 [(.v true (.pair (.rs 5 (.int .u8)) (.int .i64)))])), (2, (.b 44 [(.r 50 (.rs 52 (.pair (.int .i64) (.pair (.int .i64) (.int .i64)))))]))])])
  | 0, _, _, _ => none
  | m + 1, x1, x2, x3 =>
    cond (Decidable.decide (x3 < (12 : Int)))
    ((F90 n (((x1.fst.fst, x1.fst.snd), ())) ((2 : Int))).bind fun y4 =>
     (F90 n (((y4.snd.fst.fst.fst, y4.snd.fst.fst.snd), ())) ((4 : Int))).bind fun y5 =>
     cond (y5.fst == (0 : Int))
     ((F123 n (((y5.snd.fst.fst.fst, y5.snd.fst.fst.snd), ())) ((2 : Int))).bind fun y6 =>
      (F124 n (((y6.snd.fst.fst.fst, y6.snd.fst.fst.snd), ())) ((2 : Int))).bind fun y7 =>
      (F90 n (((y7.snd.fst.fst.fst, y7.snd.fst.fst.snd), ())) ((3 : Int))).bind fun y8 =>
      cond (y8.fst == (0 : Int))
      ((F125 n (((y8.snd.fst.fst.fst, y8.snd.fst.fst.snd), ())) ((2 : Int))).bind fun y9 =>
       if (List.length y6.fst + [(y9.fst.fst, y9.fst.snd.fst, y9.fst.snd.snd)].length) * (24 : Nat) ≤ (140737488355328 : Nat) then
       match J89_15 n (((y9.snd.fst.fst.fst, y9.snd.fst.fst.snd), ())) ((x2.fst, ())) (x3) (([y6.fst ++ [(y9.fst.fst, y9.fst.snd.fst, y9.fst.snd.snd)], y7.fst], ())) with
       | none => none
       | some (Sum.inl v16) =>
        some (Sum.inl (((v16.fst.fst.fst, v16.fst.fst.snd), ()), (v16.snd.fst.fst, ()), ()))
       | some (Sum.inr (Sum.inl v17)) =>
        match J89_3 n (((v17.fst.fst.fst, v17.fst.fst.snd), ())) ((v17.snd.fst.fst, ())) (v17.snd.snd.fst) with
        | none => none
        | some (Sum.inl v21) =>
         L89_0 n m (((v21.fst.fst.fst, v21.fst.fst.snd), ())) ((v21.snd.fst.fst, ())) (v21.snd.snd.fst)
       else none)
      (match J89_15 n (((y8.snd.fst.fst.fst, y8.snd.fst.fst.snd), ())) ((x2.fst, ())) (x3) (([y6.fst, y7.fst], ())) with
       | none => none
       | some (Sum.inl v22) =>
        some (Sum.inl (((v22.fst.fst.fst, v22.fst.fst.snd), ()), (v22.snd.fst.fst, ()), ()))
       | some (Sum.inr (Sum.inl v23)) =>
        match J89_3 n (((v23.fst.fst.fst, v23.fst.fst.snd), ())) ((v23.snd.fst.fst, ())) (v23.snd.snd.fst) with
        | none => none
        | some (Sum.inl v24) =>
         L89_0 n m (((v24.fst.fst.fst, v24.fst.fst.snd), ())) ((v24.snd.fst.fst, ())) (v24.snd.snd.fst)))
     ((F90 n (((y5.snd.fst.fst.fst, y5.snd.fst.fst.snd), ())) ((2 : Int))).bind fun y25 =>
      match L89_2 n n (((y25.snd.fst.fst.fst, y25.snd.fst.fst.snd), ())) ((x2.fst, ())) (x3) (([], ())) (Go.IntKind.i64.wrap ((1 : Int) + y4.fst)) (Go.IntKind.i64.wrap ((2 : Int) + y25.fst)) ((0 : Int)) with
      | none => none
      | some (Sum.inl v35) =>
       match J89_15 n (((v35.fst.fst.fst, v35.fst.fst.snd), ())) ((v35.snd.fst.fst, ())) (v35.snd.snd.fst) ((v35.snd.snd.snd.fst.fst, ())) with
       | none => none
       | some (Sum.inl v36) =>
        some (Sum.inl (((v36.fst.fst.fst, v36.fst.fst.snd), ()), (v36.snd.fst.fst, ()), ()))
       | some (Sum.inr (Sum.inl v37)) =>
        match J89_3 n (((v37.fst.fst.fst, v37.fst.fst.snd), ())) ((v37.snd.fst.fst, ())) (v37.snd.snd.fst) with
        | none => none
        | some (Sum.inl v38) =>
         L89_0 n m (((v38.fst.fst.fst, v38.fst.fst.snd), ())) ((v38.snd.fst.fst, ())) (v38.snd.snd.fst)))
    (some (Sum.inr (Sum.inl (((x1.fst.fst, x1.fst.snd), ()), (x2.fst, ()), ()))))
def F89 (n : Nat) (a0 : (List Int × Int) × Unit) : Option (rdens [.b 119 [.v true (.pair (.rs 5 (.int .u8)) (.int .i64))]] [.c true (.v true (.rs 50 (.rs 52 (.pair (.int .i64) (.pair (.int .i64) (.int .i64))))))]) :=
  match L89_0 n n (((a0.fst.fst, a0.fst.snd), ())) (([], ())) ((0 : Int)) with
  | none => none
  | some (Sum.inl v39) =>
   some (v39.snd.fst.fst, ((v39.fst.fst.fst, v39.fst.fst.snd), ()), ())
  | some (Sum.inr (Sum.inl v40)) =>
   some ([[((1 : Int), (0 : Int), (1 : Int))], [((2 : Int), (0 : Int), (0 : Int))]], ((v40.fst.fst.fst, v40.fst.fst.snd), ()), ())
noncomputable def con89 (n : Nat) : Con := conOf [.b 119 [.v true (.pair (.rs 5 (.int .u8)) (.int .i64))]] [.c true (.v true (.rs 50 (.rs 52 (.pair (.int .i64) (.pair (.int .i64) (.int .i64))))))] fun x => F89 n x.1
noncomputable def tb89 (n : Nat) : Tb := ⟨tiOf Try.prog, conL [(90, con90 n), (123, con123 n), (124, con124 n), (125, con125 n), (126, con126 n), (35, con35 n), (127, con127 n)], n, [], 74, lpL [(2, ⟨[(0, (.b 119 [(.v true (.pair (.rs 5 (.int .u8)) (.int .i64)))])), (2, (.b 44 [(.r 50 (.rs 52 (.pair (.int .i64) (.pair (.int .i64) (.int .i64)))))])), (3, (.c false (.v true (.int .i64)))), (4, (.b 44 [(.r 50 (.rs 52 (.pair (.int .i64) (.pair (.int .i64) (.int .i64)))))])), (5, (.c false (.v true (.int .i64)))), (6, (.c false (.v true (.int .i64)))), (7, (.c false (.v true (.int .i64))))], [((.exit 2), [(0, (.b 119 [(.v true (.pair (.rs 5 (.int .u8)) (.int .i64)))])), (2, (.b 44 [(.r 50 (.rs 52 (.pair (.int .i64) (.pair (.int .i64) (.int .i64)))))])), (3, (.c false (.v true (.int .i64)))), (4, (.b 44 [(.r 50 (.rs 52 (.pair (.int .i64) (.pair (.int .i64) (.int .i64)))))]))])], fun m v => L89_2 n m v.1 v.2.1 v.2.2.1 v.2.2.2.1 v.2.2.2.2.1 v.2.2.2.2.2.1 v.2.2.2.2.2.2.1⟩), (0, ⟨[(0, (.b 119 [(.v true (.pair (.rs 5 (.int .u8)) (.int .i64)))])), (2, (.b 44 [(.r 50 (.rs 52 (.pair (.int .i64) (.pair (.int .i64) (.int .i64)))))])), (3, (.c false (.v true (.int .i64))))], [(.ret, [(0, (.b 119 [(.v true (.pair (.rs 5 (.int .u8)) (.int .i64)))])), (2, (.b 44 [(.r 50 (.rs 52 (.pair (.int .i64) (.pair (.int .i64) (.int .i64)))))]))]), ((.exit 0), [(0, (.b 119 [(.v true (.pair (.rs 5 (.int .u8)) (.int .i64)))])), (2, (.b 44 [(.r 50 (.rs 52 (.pair (.int .i64) (.pair (.int .i64) (.int .i64)))))]))])], fun m v => L89_0 n m v.1 v.2.1 v.2.2.1⟩)], ctL [(15, ⟨[(0, (.b 119 [(.v true (.pair (.rs 5 (.int .u8)) (.int .i64)))])), (2, (.b 44 [(.r 50 (.rs 52 (.pair (.int .i64) (.pair (.int .i64) (.int .i64)))))])), (3, (.c false (.v true (.int .i64)))), (4, (.b 44 [(.r 50 (.rs 52 (.pair (.int .i64) (.pair (.int .i64) (.int .i64)))))]))], [(.ret, [(0, (.b 119 [(.v true (.pair (.rs 5 (.int .u8)) (.int .i64)))])), (2, (.b 44 [(.r 50 (.rs 52 (.pair (.int .i64) (.pair (.int .i64) (.int .i64)))))]))]), (.normal, [(0, (.b 119 [(.v true (.pair (.rs 5 (.int .u8)) (.int .i64)))])), (2, (.b 44 [(.r 50 (.rs 52 (.pair (.int .i64) (.pair (.int .i64) (.int .i64)))))])), (3, (.c false (.v true (.int .i64))))])], fun v => J89_15 n v.1 v.2.1 v.2.2.1 v.2.2.2.1⟩), (3, ⟨[(0, (.b 119 [(.v true (.pair (.rs 5 (.int .u8)) (.int .i64)))])), (2, (.b 44 [(.r 50 (.rs 52 (.pair (.int .i64) (.pair (.int .i64) (.int .i64)))))])), (3, (.c false (.v true (.int .i64))))], [(.normal, [(0, (.b 119 [(.v true (.pair (.rs 5 (.int .u8)) (.int .i64)))])), (2, (.b 44 [(.r 50 (.rs 52 (.pair (.int .i64) (.pair (.int .i64) (.int .i64)))))])), (3, (.c false (.v true (.int .i64))))])], fun v => J89_3 n v.1 v.2.1 v.2.2.1⟩)], [0]⟩
noncomputable def code89 : Code := Try.f89.body.getD .skip
theorem tb89_ok (n : Nat) : (tb89 n).ok Try.prog := tbOk mixed (⟨con90_ok n, ⟨con123_ok n, ⟨con124_ok n, ⟨con125_ok n, ⟨con126_ok n, ⟨con35_ok n, ⟨con127_ok n, trivial⟩⟩⟩⟩⟩⟩⟩)
theorem lp89_2 (n : Nat) : LpAt (tb89 n) (loopBody code89 2) 2 := lpAt rfl (fun _ => by kernel_rfl) (fun _ _ => by kernel_rfl)
theorem lp89_0 (n : Nat) : LpAt (tb89 n) (loopBody code89 0) 0 := lpAt rfl (fun _ => by kernel_rfl) (fun _ _ => by kernel_rfl)
theorem blocks89 : blocks code89 = [(0, .loop (loopBody code89 0)), (1, blockBody code89 1), (2, .loop (loopBody code89 2)), (3, blockBody code89 3)] := by kernel_rfl
theorem ct89_3 (n : Nat) : CtOk (tb89 n) (sec code89 5).2 ⟨[(0, (.b 119 [(.v true (.pair (.rs 5 (.int .u8)) (.int .i64)))])), (2, (.b 44 [(.r 50 (.rs 52 (.pair (.int .i64) (.pair (.int .i64) (.int .i64)))))])), (3, (.c false (.v true (.int .i64))))], [(.normal, [(0, (.b 119 [(.v true (.pair (.rs 5 (.int .u8)) (.int .i64)))])), (2, (.b 44 [(.r 50 (.rs 52 (.pair (.int .i64) (.pair (.int .i64) (.int .i64)))))])), (3, (.c false (.v true (.int .i64))))])], fun v => J89_3 n v.1 v.2.1 v.2.2.1⟩ := fun _ => by kernel_rfl
theorem ct89_15 (n : Nat) : CtOk (tb89 n) (sec code89 8).2 ⟨[(0, (.b 119 [(.v true (.pair (.rs 5 (.int .u8)) (.int .i64)))])), (2, (.b 44 [(.r 50 (.rs 52 (.pair (.int .i64) (.pair (.int .i64) (.int .i64)))))])), (3, (.c false (.v true (.int .i64)))), (4, (.b 44 [(.r 50 (.rs 52 (.pair (.int .i64) (.pair (.int .i64) (.int .i64)))))]))], [(.ret, [(0, (.b 119 [(.v true (.pair (.rs 5 (.int .u8)) (.int .i64)))])), (2, (.b 44 [(.r 50 (.rs 52 (.pair (.int .i64) (.pair (.int .i64) (.int .i64)))))]))]), (.normal, [(0, (.b 119 [(.v true (.pair (.rs 5 (.int .u8)) (.int .i64)))])), (2, (.b 44 [(.r 50 (.rs 52 (.pair (.int .i64) (.pair (.int .i64) (.int .i64)))))])), (3, (.c false (.v true (.int .i64))))])], fun v => J89_15 n v.1 v.2.1 v.2.2.1 v.2.2.2.1⟩ := fun _ => by kernel_rfl
theorem secs89 : seconds code89 = [(some 1, (sec code89 0).2), (some 17, (sec code89 1).2), (some 2, (sec code89 2).2), (some 4, (sec code89 3).2), (none, (sec code89 4).2), (some 3, (sec code89 5).2), (some 5, (sec code89 6).2), (some 6, (sec code89 7).2), (some 15, (sec code89 8).2), (none, (sec code89 9).2), (some 8, (sec code89 10).2), (none, (sec code89 11).2), (some 11, (sec code89 12).2), (some 12, (sec code89 13).2), (some 14, (sec code89 14).2), (none, (sec code89 15).2), (some 13, (sec code89 16).2), (none, (sec code89 17).2), (none, (sec code89 18).2), (none, (sec code89 19).2)] := by kernel_rfl
theorem la89 (n : Nat) : LpAll (tb89 n) code89 := lpAll blocks89 (bl_loop (lp89_0 n) (bl_none rfl (bl_loop (lp89_2 n) (bl_none rfl (bl_nil))))) secs89 (cs_none rfl (cs_none rfl (cs_none rfl (cs_none rfl (cs_none rfl (cs_one rfl (ct89_3 n) (cs_none rfl (cs_none rfl (cs_one rfl (ct89_15 n) (cs_none rfl (cs_none rfl (cs_none rfl (cs_none rfl (cs_none rfl (cs_none rfl (cs_none rfl (cs_none rfl (cs_none rfl (cs_none rfl (cs_none rfl (cs_nil))))))))))))))))))))) (by kernel_rfl)
theorem ev89 (n : Nat) (x : pdens [.b 119 [.v true (.pair (.rs 5 (.int .u8)) (.int .i64))]]) : evSig (tb89 n) Try.f89 [.b 119 [.v true (.pair (.rs 5 (.int .u8)) (.int .i64))]] [.c true (.v true (.rs 50 (.rs 52 (.pair (.int .i64) (.pair (.int .i64) (.int .i64))))))] x = F89 n x.1 := by kernel_rfl
theorem con89_ok (n : Nat) : Con.ok Try.prog 89 (con89 n) := conOf_ok (tb89_ok n) (body_la (by kernel_rfl : Try.f89.body = some code89) (la89 n)) Try.func89 (enters Try.func89 (by kernel_rfl) (by kernel_rfl)) rfl rfl (ev89 n)
/-! ### loop.example/fathomline/spec.l71Bad -/
def J91_22 (n : Nat) (x4 : (List Int × Int) × Unit) (x5 : List (List (Int × Int × Int)) × Unit) (x6 : List (List (Int × Int × Int)) × Unit) (x7 : Int) (x8 : List (Int × Int × Int)) : Option (odens [(.ret, [(0, (.b 119 [(.v true (.pair (.rs 5 (.int .u8)) (.int .i64)))])), (4, (.b 44 [(.r 50 (.rs 52 (.pair (.int .i64) (.pair (.int .i64) (.int .i64)))))]))])]) :=
    if ((0 : Nat) + List.length x5.fst) * (24 : Nat) ≤ (140737488355328 : Nat) then
    if (0 : Int) ≤ x7 then
    if x7 < (↑(List.length x5.fst) : Int) then
    if x7.toNat < List.length x5.fst then
    some (Sum.inl (((x4.fst.fst, x4.fst.snd), ()), (List.set x5.fst x7.toNat x8, ()), ()))
    else none
    else none
    else none
    else none
def L91_1 (n : Nat) : Nat → (List Int × Int) × Unit → List (List (Int × Int × Int)) × Unit → List (List (Int × Int × Int)) × Unit → Int → List (Int × Int × Int) → Int → Option (odens [((.exit 1), [(0, (.b 119 [(.v true (.pair (.rs 5 (.int .u8)) (.int .i64)))])), (3, (.b 44 [(.v true (.rs 50 (.rs 52 (.pair (.int .i64) (.pair (.int .i64) (.int .i64))))))])), (4, (.b 44 [(.r 50 (.rs 52 (.pair (.int .i64) (.pair (.int .i64) (.int .i64)))))])), (5, (.c false (.v true (.int .i64)))), (6, (.c false (.r 52 (.pair (.int .i64) (.pair (.int .i64) (.int .i64))))))])])
  | 0, _, _, _, _, _, _ => none
  | m + 1, x17, x18, x19, x20, x21, x22 =>
    cond (Decidable.decide (x22 < (7 : Int)))
    ((F90 n (((x17.fst.fst, x17.fst.snd), ())) ((2 : Int))).bind fun y23 =>
     if (0 : Int) ≤ y23.fst then
     if y23.fst < (↑[(4 : Int), (2 : Int)].length : Int) then
     if Int.toNat y23.fst < [(4 : Int), (2 : Int)].length then
     if (x21.length + [([(4 : Int), (2 : Int)].getD (Int.toNat y23.fst) (0 : Int), (0 : Int), (0 : Int))].length) * (24 : Nat) ≤ (140737488355328 : Nat) then
     L91_1 n m (((y23.snd.fst.fst.fst, y23.snd.fst.fst.snd), ())) ((x18.fst, ())) ((x19.fst, ())) (x20) (x21 ++ [([(4 : Int), (2 : Int)].getD (Int.toNat y23.fst) (0 : Int), (0 : Int), (0 : Int))]) (Go.IntKind.i64.wrap (x22 + (1 : Int)))
     else none
     else none
     else none
     else none)
    (some (Sum.inl (((x17.fst.fst, x17.fst.snd), ()), (x18.fst, ()), (x19.fst, ()), x20, x21, ())))
def F91 (n : Nat) (a0 : (List Int × Int) × Unit) (a1 : List (List (Int × Int × Int))) : Option (rdens [.b 119 [.v true (.pair (.rs 5 (.int .u8)) (.int .i64))], .c true (.v true (.rs 50 (.rs 52 (.pair (.int .i64) (.pair (.int .i64) (.int .i64))))))] [.c true (.v true (.rs 50 (.rs 52 (.pair (.int .i64) (.pair (.int .i64) (.int .i64))))))]) :=
  (F90 n (((a0.fst.fst, a0.fst.snd), ())) ((↑a1.length : Int))).bind fun y1 =>
  if (0 : Int) ≤ y1.fst then
  if y1.fst < (↑a1.length : Int) then
  if ((0 : Nat) + List.length (a1.getD (Int.toNat y1.fst) [])) * (24 : Nat) ≤ (140737488355328 : Nat) then
  (F90 n (((y1.snd.fst.fst.fst, y1.snd.fst.fst.snd), ())) ((8 : Int))).bind fun y2 =>
  cond (y2.fst == (0 : Int))
  ((F90 n (((y2.snd.fst.fst.fst, y2.snd.fst.fst.snd), ())) ((12 : Int))).bind fun y3 =>
   if (List.length (a1.getD (Int.toNat y1.fst) []) + [(Go.IntKind.i64.wrap (y3.fst - (1 : Int)), (0 : Int), (0 : Int))].length) * (24 : Nat) ≤ (140737488355328 : Nat) then
   match J91_22 n (((y3.snd.fst.fst.fst, y3.snd.fst.fst.snd), ())) ((a1, ())) (([], ())) (y1.fst) (a1.getD (Int.toNat y1.fst) [] ++ [(Go.IntKind.i64.wrap (y3.fst - (1 : Int)), (0 : Int), (0 : Int))]) with
   | none => none
   | some (Sum.inl v9) =>
    some (v9.snd.fst.fst, ((v9.fst.fst.fst, v9.fst.fst.snd), ()), ())
   else none)
  (cond (y2.fst == (1 : Int))
   (if ([((3 : Int), (0 : Int), (0 : Int))].length + List.length (a1.getD (Int.toNat y1.fst) [])) * (24 : Nat) ≤ (140737488355328 : Nat) then
    match J91_22 n (((y2.snd.fst.fst.fst, y2.snd.fst.fst.snd), ())) ((a1, ())) (([], ())) (y1.fst) ([((3 : Int), (0 : Int), (0 : Int))] ++ a1.getD (Int.toNat y1.fst) []) with
    | none => none
    | some (Sum.inl v10) =>
     some (v10.snd.fst.fst, ((v10.fst.fst.fst, v10.fst.fst.snd), ()), ())
    else none)
   (cond (y2.fst == (2 : Int))
    (if (List.length (a1.getD (Int.toNat y1.fst) []) + [((7 : Int), (0 : Int), (0 : Int))].length) * (24 : Nat) ≤ (140737488355328 : Nat) then
     match J91_22 n (((y2.snd.fst.fst.fst, y2.snd.fst.fst.snd), ())) ((a1, ())) (([], ())) (y1.fst) (a1.getD (Int.toNat y1.fst) [] ++ [((7 : Int), (0 : Int), (0 : Int))]) with
     | none => none
     | some (Sum.inl v11) =>
      some (v11.snd.fst.fst, ((v11.fst.fst.fst, v11.fst.fst.snd), ()), ())
     else none)
    (cond (y2.fst == (3 : Int))
     (if ([((8 : Int), (0 : Int), (0 : Int))].length + List.length (a1.getD (Int.toNat y1.fst) [])) * (24 : Nat) ≤ (140737488355328 : Nat) then
      match J91_22 n (((y2.snd.fst.fst.fst, y2.snd.fst.fst.snd), ())) ((a1, ())) (([], ())) (y1.fst) ([((8 : Int), (0 : Int), (0 : Int))] ++ a1.getD (Int.toNat y1.fst) []) with
      | none => none
      | some (Sum.inl v12) =>
       some (v12.snd.fst.fst, ((v12.fst.fst.fst, v12.fst.fst.snd), ()), ())
      else none)
     (cond (y2.fst == (4 : Int))
      ((F90 n (((y2.snd.fst.fst.fst, y2.snd.fst.fst.snd), ())) ((2 : Int))).bind fun y13 =>
       if (0 : Int) ≤ y13.fst then
       if y13.fst < (↑[(-1 : Int), (3 : Int)].length : Int) then
       if Int.toNat y13.fst < [(-1 : Int), (3 : Int)].length then
       if (List.length (a1.getD (Int.toNat y1.fst) []) + [((1 : Int), [(-1 : Int), (3 : Int)].getD (Int.toNat y13.fst) (0 : Int), (1 : Int))].length) * (24 : Nat) ≤ (140737488355328 : Nat) then
       match J91_22 n (((y13.snd.fst.fst.fst, y13.snd.fst.fst.snd), ())) ((a1, ())) (([], ())) (y1.fst) (a1.getD (Int.toNat y1.fst) [] ++ [((1 : Int), [(-1 : Int), (3 : Int)].getD (Int.toNat y13.fst) (0 : Int), (1 : Int))]) with
       | none => none
       | some (Sum.inl v14) =>
        some (v14.snd.fst.fst, ((v14.fst.fst.fst, v14.fst.fst.snd), ()), ())
       else none
       else none
       else none
       else none)
      (cond (y2.fst == (5 : Int))
       ((F90 n (((y2.snd.fst.fst.fst, y2.snd.fst.fst.snd), ())) ((2 : Int))).bind fun y15 =>
        if (0 : Int) ≤ y15.fst then
        if y15.fst < (↑[(0 : Int), (4 : Int)].length : Int) then
        if Int.toNat y15.fst < [(0 : Int), (4 : Int)].length then
        if (List.length (a1.getD (Int.toNat y1.fst) []) + [((1 : Int), (0 : Int), [(0 : Int), (4 : Int)].getD (Int.toNat y15.fst) (0 : Int))].length) * (24 : Nat) ≤ (140737488355328 : Nat) then
        match J91_22 n (((y15.snd.fst.fst.fst, y15.snd.fst.fst.snd), ())) ((a1, ())) (([], ())) (y1.fst) (a1.getD (Int.toNat y1.fst) [] ++ [((1 : Int), (0 : Int), [(0 : Int), (4 : Int)].getD (Int.toNat y15.fst) (0 : Int))]) with
        | none => none
        | some (Sum.inl v16) =>
         some (v16.snd.fst.fst, ((v16.fst.fst.fst, v16.fst.fst.snd), ()), ())
        else none
        else none
        else none
        else none)
       (cond (y2.fst == (6 : Int))
        (match L91_1 n n (((y2.snd.fst.fst.fst, y2.snd.fst.fst.snd), ())) ((a1, ())) (([], ())) (y1.fst) (a1.getD (Int.toNat y1.fst) []) ((0 : Int)) with
         | none => none
         | some (Sum.inl v24) =>
          match J91_22 n (((v24.fst.fst.fst, v24.fst.fst.snd), ())) ((v24.snd.fst.fst, ())) ((v24.snd.snd.fst.fst, ())) (v24.snd.snd.snd.fst) (v24.snd.snd.snd.snd.fst) with
          | none => none
          | some (Sum.inl v25) =>
           some (v25.snd.fst.fst, ((v25.fst.fst.fst, v25.fst.fst.snd), ()), ()))
        (if (List.length (a1.getD (Int.toNat y1.fst) []) + [((4 : Int), (0 : Int), (1 : Int))].length) * (24 : Nat) ≤ (140737488355328 : Nat) then
         match J91_22 n (((y2.snd.fst.fst.fst, y2.snd.fst.fst.snd), ())) ((a1, ())) (([], ())) (y1.fst) (a1.getD (Int.toNat y1.fst) [] ++ [((4 : Int), (0 : Int), (1 : Int))]) with
         | none => none
         | some (Sum.inl v26) =>
          some (v26.snd.fst.fst, ((v26.fst.fst.fst, v26.fst.fst.snd), ()), ())
         else none)))))))
  else none
  else none
  else none
noncomputable def con91 (n : Nat) : Con := conOf [.b 119 [.v true (.pair (.rs 5 (.int .u8)) (.int .i64))], .c true (.v true (.rs 50 (.rs 52 (.pair (.int .i64) (.pair (.int .i64) (.int .i64))))))] [.c true (.v true (.rs 50 (.rs 52 (.pair (.int .i64) (.pair (.int .i64) (.int .i64))))))] fun x => F91 n x.1 x.2.1
noncomputable def tb91 (n : Nat) : Tb := ⟨tiOf Try.prog, conL [(90, con90 n)], n, [], 102, lpL [(1, ⟨[(0, (.b 119 [(.v true (.pair (.rs 5 (.int .u8)) (.int .i64)))])), (3, (.b 44 [(.v true (.rs 50 (.rs 52 (.pair (.int .i64) (.pair (.int .i64) (.int .i64))))))])), (4, (.b 44 [(.r 50 (.rs 52 (.pair (.int .i64) (.pair (.int .i64) (.int .i64)))))])), (5, (.c false (.v true (.int .i64)))), (6, (.c false (.r 52 (.pair (.int .i64) (.pair (.int .i64) (.int .i64)))))), (7, (.c false (.v true (.int .i64))))], [((.exit 1), [(0, (.b 119 [(.v true (.pair (.rs 5 (.int .u8)) (.int .i64)))])), (3, (.b 44 [(.v true (.rs 50 (.rs 52 (.pair (.int .i64) (.pair (.int .i64) (.int .i64))))))])), (4, (.b 44 [(.r 50 (.rs 52 (.pair (.int .i64) (.pair (.int .i64) (.int .i64)))))])), (5, (.c false (.v true (.int .i64)))), (6, (.c false (.r 52 (.pair (.int .i64) (.pair (.int .i64) (.int .i64))))))])], fun m v => L91_1 n m v.1 v.2.1 v.2.2.1 v.2.2.2.1 v.2.2.2.2.1 v.2.2.2.2.2.1⟩)], ctL [(22, ⟨[(0, (.b 119 [(.v true (.pair (.rs 5 (.int .u8)) (.int .i64)))])), (3, (.b 44 [(.v true (.rs 50 (.rs 52 (.pair (.int .i64) (.pair (.int .i64) (.int .i64))))))])), (4, (.b 44 [(.r 50 (.rs 52 (.pair (.int .i64) (.pair (.int .i64) (.int .i64)))))])), (5, (.c false (.v true (.int .i64)))), (6, (.c false (.r 52 (.pair (.int .i64) (.pair (.int .i64) (.int .i64))))))], [(.ret, [(0, (.b 119 [(.v true (.pair (.rs 5 (.int .u8)) (.int .i64)))])), (4, (.b 44 [(.r 50 (.rs 52 (.pair (.int .i64) (.pair (.int .i64) (.int .i64)))))]))])], fun v => J91_22 n v.1 v.2.1 v.2.2.1 v.2.2.2.1 v.2.2.2.2.1⟩)], [0]⟩
noncomputable def code91 : Code := Try.f91.body.getD .skip
theorem tb91_ok (n : Nat) : (tb91 n).ok Try.prog := tbOk mixed (⟨con90_ok n, trivial⟩)
theorem lp91_1 (n : Nat) : LpAt (tb91 n) (loopBody code91 1) 1 := lpAt rfl (fun _ => by kernel_rfl) (fun _ _ => by kernel_rfl)
theorem blocks91 : blocks code91 = [(0, blockBody code91 0), (1, .loop (loopBody code91 1)), (2, blockBody code91 2)] := by kernel_rfl
theorem ct91_22 (n : Nat) : CtOk (tb91 n) (sec code91 3).2 ⟨[(0, (.b 119 [(.v true (.pair (.rs 5 (.int .u8)) (.int .i64)))])), (3, (.b 44 [(.v true (.rs 50 (.rs 52 (.pair (.int .i64) (.pair (.int .i64) (.int .i64))))))])), (4, (.b 44 [(.r 50 (.rs 52 (.pair (.int .i64) (.pair (.int .i64) (.int .i64)))))])), (5, (.c false (.v true (.int .i64)))), (6, (.c false (.r 52 (.pair (.int .i64) (.pair (.int .i64) (.int .i64))))))], [(.ret, [(0, (.b 119 [(.v true (.pair (.rs 5 (.int .u8)) (.int .i64)))])), (4, (.b 44 [(.r 50 (.rs 52 (.pair (.int .i64) (.pair (.int .i64) (.int .i64)))))]))])], fun v => J91_22 n v.1 v.2.1 v.2.2.1 v.2.2.2.1 v.2.2.2.2.1⟩ := fun _ => by kernel_rfl
theorem secs91 : seconds code91 = [(some 1, (sec code91 0).2), (some 2, (sec code91 1).2), (some 3, (sec code91 2).2), (some 22, (sec code91 3).2), (some 5, (sec code91 4).2), (none, (sec code91 5).2), (none, (sec code91 6).2), (none, (sec code91 7).2), (none, (sec code91 8).2), (none, (sec code91 9).2), (none, (sec code91 10).2), (none, (sec code91 11).2), (some 19, (sec code91 12).2), (some 21, (sec code91 13).2), (none, (sec code91 14).2), (some 20, (sec code91 15).2), (some 23, (sec code91 16).2), (some 24, (sec code91 17).2), (none, (sec code91 18).2)] := by kernel_rfl
theorem la91 (n : Nat) : LpAll (tb91 n) code91 := lpAll blocks91 (bl_none rfl (bl_loop (lp91_1 n) (bl_none rfl (bl_nil)))) secs91 (cs_none rfl (cs_none rfl (cs_none rfl (cs_one rfl (ct91_22 n) (cs_none rfl (cs_none rfl (cs_none rfl (cs_none rfl (cs_none rfl (cs_none rfl (cs_none rfl (cs_none rfl (cs_none rfl (cs_none rfl (cs_none rfl (cs_none rfl (cs_none rfl (cs_none rfl (cs_none rfl (cs_nil)))))))))))))))))))) (by kernel_rfl)
theorem ev91 (n : Nat) (x : pdens [.b 119 [.v true (.pair (.rs 5 (.int .u8)) (.int .i64))], .c true (.v true (.rs 50 (.rs 52 (.pair (.int .i64) (.pair (.int .i64) (.int .i64))))))]) : evSig (tb91 n) Try.f91 [.b 119 [.v true (.pair (.rs 5 (.int .u8)) (.int .i64))], .c true (.v true (.rs 50 (.rs 52 (.pair (.int .i64) (.pair (.int .i64) (.int .i64))))))] [.c true (.v true (.rs 50 (.rs 52 (.pair (.int .i64) (.pair (.int .i64) (.int .i64))))))] x = F91 n x.1 x.2.1 := by kernel_rfl
theorem con91_ok (n : Nat) : Con.ok Try.prog 91 (con91 n) := conOf_ok (tb91_ok n) (body_la (by kernel_rfl : Try.f91.body = some code91) (la91 n)) Try.func91 (enters Try.func91 (by kernel_rfl) (by kernel_rfl)) rfl rfl (ev91 n)
/-! ### loop.example/fathomline/spec.l71Any -/
def F93 (n : Nat) (a0 : (List Int × Int) × Unit) : Option (rdens [.b 119 [.v true (.pair (.rs 5 (.int .u8)) (.int .i64))]] [.c true (.v true (.rs 50 (.rs 52 (.pair (.int .i64) (.pair (.int .i64) (.int .i64))))))]) :=
  (F89 n (((a0.fst.fst, a0.fst.snd), ()))).bind fun y1 =>
  (F90 n (((y1.snd.fst.fst.fst, y1.snd.fst.fst.snd), ())) ((16 : Int))).bind fun y2 =>
  cond (y2.fst == (0 : Int))
  ((F91 n (((y2.snd.fst.fst.fst, y2.snd.fst.fst.snd), ())) (y1.fst)).bind fun y3 =>
   some (y3.fst, ((y3.snd.fst.fst.fst, y3.snd.fst.fst.snd), ()), ()))
  (some (y1.fst, ((y2.snd.fst.fst.fst, y2.snd.fst.fst.snd), ()), ()))
noncomputable def con93 (n : Nat) : Con := conOf [.b 119 [.v true (.pair (.rs 5 (.int .u8)) (.int .i64))]] [.c true (.v true (.rs 50 (.rs 52 (.pair (.int .i64) (.pair (.int .i64) (.int .i64))))))] fun x => F93 n x.1
noncomputable def tb93 (n : Nat) : Tb := ⟨tiOf Try.prog, conL [(89, con89 n), (90, con90 n), (91, con91 n)], n, [], 13, lpL [], ctL [], [0]⟩
noncomputable def code93 : Code := Try.f93.body.getD .skip
theorem tb93_ok (n : Nat) : (tb93 n).ok Try.prog := tbOk mixed (⟨con89_ok n, ⟨con90_ok n, ⟨con91_ok n, trivial⟩⟩⟩)
theorem blocks93 : blocks code93 = [] := by kernel_rfl
theorem la93 (n : Nat) : LpAll (tb93 n) code93 := lpAll blocks93 (bl_nil) rfl (cs_no fun _ => rfl) (by kernel_rfl)
theorem ev93 (n : Nat) (x : pdens [.b 119 [.v true (.pair (.rs 5 (.int .u8)) (.int .i64))]]) : evSig (tb93 n) Try.f93 [.b 119 [.v true (.pair (.rs 5 (.int .u8)) (.int .i64))]] [.c true (.v true (.rs 50 (.rs 52 (.pair (.int .i64) (.pair (.int .i64) (.int .i64))))))] x = F93 n x.1 := by kernel_rfl
theorem con93_ok (n : Nat) : Con.ok Try.prog 93 (con93 n) := conOf_ok (tb93_ok n) (body_la (by kernel_rfl : Try.f93.body = some code93) (la93 n)) Try.func93 (enters Try.func93 (by kernel_rfl) (by kernel_rfl)) rfl rfl (ev93 n)
end Go.Proofs.Ytaehbfaldofmbaa.Ev
