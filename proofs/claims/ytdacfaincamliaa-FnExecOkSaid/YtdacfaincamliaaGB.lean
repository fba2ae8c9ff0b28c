/- Plain functions that the loaded code comes to, and that it does. Conditions: none. -/
import Derived.Test.YtdacfaincamliaaGC
import Derived.Test.YtdacfaincamliaaGD
import Derived.Test.YtdacfaincamliaaGL
namespace Go.Proofs.Ytdacfaincamliaa.Ev
open Go Go.Proofs
/-! ### loop.example/fathomline/laws.lpExec -/
def L37_0 (n : Nat) : Nat → (List Int × List (List Int)) × Unit → (List Int × List (List Int)) × Unit → Int → Option (odens [(.ret, [(4, kB)]), ((.exit 0), [])])
  | 0, _, _, _ => none
  | m + 1, x4, x5, x6 =>
    cond (Decidable.decide (x6 < (↑(List.length x4.fst.snd) : Int)))
    (if (0 : Int) ≤ x6 then
     if x6 < (↑(List.length x4.fst.snd) : Int) then
     if (0 : Int) ≤ x6 then
     if x6 < (↑(List.length x5.fst.snd) : Int) then
     (F81 n (List.getD x4.fst.snd x6.toNat []) (List.getD x5.fst.snd x6.toNat [])).bind fun y7 =>
     cond (!y7.fst)
     (some (Sum.inl (Bool.false, ())))
     (L37_0 n m (((x4.fst.fst, x4.fst.snd), ())) (((x5.fst.fst, x5.fst.snd), ())) (Go.IntKind.i64.wrap (x6 + (1 : Int))))
     else none
     else none
     else none
     else none)
    (some (Sum.inr (Sum.inl (()))))
def J37_3 (n : Nat) (x2 : (List Int × List (List Int)) × Unit) (x3 : (List Int × List (List Int)) × Unit) : Option (odens [(.ret, [(4, kB)])]) :=
    match L37_0 n n (((x2.fst.fst, x2.fst.snd), ())) (((x3.fst.fst, x3.fst.snd), ())) ((0 : Int)) with
    | none => none
    | some (Sum.inl v8) =>
     some (Sum.inl (v8.fst, ()))
    | some (Sum.inr (Sum.inl v9)) =>
     some (Sum.inl (Bool.true, ()))
def F37 (n : Nat) (a0 : List Int × List (List Int)) (a1 : List Int × List (List Int)) : Option (rdens [.c true (.v false yX), .c true (.v false yX)] [.c false (.v true .bool)]) :=
  (F81 n (a0.fst) (a1.fst)).bind fun y1 =>
  cond (!y1.fst)
  (some (Bool.false, ()))
  (cond ((↑(List.length a0.snd) : Int) != (↑(List.length a1.snd) : Int))
   (some (Bool.false, ()))
   (match J37_3 n (((a0.fst, a0.snd), ())) (((a1.fst, a1.snd), ())) with
    | none => none
    | some (Sum.inl v10) =>
     some (v10.fst, ())))
noncomputable def con37 (n : Nat) : Con := conOf [.c true (.v false yX), .c true (.v false yX)] [.c false (.v true .bool)] fun x => F37 n x.1 x.2.1
noncomputable def tb37 (n : Nat) : Tb := ⟨tiOf Try.prog, conL [(81, con81 n)], n, [], 40, lpL [(0, ⟨[(2, (.b 48 [(.v false yX)])), (3, (.b 48 [(.v false yX)])), (5, kI)], [(.ret, [(4, kB)]), ((.exit 0), [])], fun m v => L37_0 n m v.1 v.2.1 v.2.2.1⟩)], ctL [(3, ⟨[(2, (.b 48 [(.v false yX)])), (3, (.b 48 [(.v false yX)]))], [(.ret, [(4, kB)])], fun v => J37_3 n v.1 v.2.1⟩)], [], true⟩
noncomputable def code37 : Code := Try.f37.body.getD .skip
theorem tb37_ok (n : Nat) : (tb37 n).ok Try.prog := tbOk mixed (⟨con81_ok n, trivial⟩)
theorem lp37_0 (n : Nat) : LpAt (tb37 n) (loopBody code37 0) 0 := lpAt rfl (fun _ => by kernel_rfl) (fun _ _ => by kernel_rfl)
theorem blocks37 : blocks code37 = [(0, .loop (loopBody code37 0)), (1, blockBody code37 1)] := by kernel_rfl
theorem ct37_3 (n : Nat) : CtOk (tb37 n) (sec code37 1).2 ⟨[(2, (.b 48 [(.v false yX)])), (3, (.b 48 [(.v false yX)]))], [(.ret, [(4, kB)])], fun v => J37_3 n v.1 v.2.1⟩ := fun _ => by kernel_rfl
theorem secs37 : seconds code37 = [(some 1, (sec code37 0).2), (some 3, (sec code37 1).2), (none, (sec code37 2).2), (none, (sec code37 3).2), (some 8, (sec code37 4).2), (some 4, (sec code37 5).2), (some 6, (sec code37 6).2), (none, (sec code37 7).2), (some 5, (sec code37 8).2), (none, (sec code37 9).2), (none, (sec code37 10).2), (none, (sec code37 11).2)] := by kernel_rfl
theorem la37 (n : Nat) : LpAll (tb37 n) code37 := lpAll blocks37 (bl_loop (lp37_0 n) (bl_none rfl (bl_nil))) secs37 (cs_none rfl (cs_one rfl (ct37_3 n) (cs_none rfl (cs_none rfl (cs_none rfl (cs_none rfl (cs_none rfl (cs_none rfl (cs_none rfl (cs_none rfl (cs_none rfl (cs_none rfl (cs_nil))))))))))))) (by kernel_rfl)
theorem ev37 (n : Nat) (x : pdens [.c true (.v false yX), .c true (.v false yX)]) : evSig (tb37 n) Try.f37 [.c true (.v false yX), .c true (.v false yX)] [.c false (.v true .bool)] x = F37 n x.1 x.2.1 := by kernel_rfl
theorem con37_ok (n : Nat) : Con.ok Try.prog 37 (con37 n) := conOf_ok (tb37_ok n) (body_la (by kernel_rfl : Try.f37.body = some code37) (la37 n)) Try.func37 (enters Try.func37 (by kernel_rfl) (by kernel_rfl)) rfl rfl (ev37 n)
/-! ### loop.example/fathomline/spec.DrawExecAll -/
def F33 (n : Nat) (a0 : List Int) : Option (rdens [.c false (.v true (.rs 5 (.int .u8)))] [.c true (.v true yP)]) :=
  (F74 n (a0)).bind fun y1 =>
  (F73 n (((y1.fst.fst.fst, y1.fst.fst.snd), ()))).bind fun y2 =>
  some (y2.fst, ())
noncomputable def con33 (n : Nat) : Con := conOf [.c false (.v true (.rs 5 (.int .u8)))] [.c true (.v true yP)] fun x => F33 n x.1
noncomputable def tb33 (n : Nat) : Tb := ⟨tiOf Try.prog, conL [(74, con74 n), (73, con73 n)], n, [], 6, lpL [], ctL [], [], true⟩
noncomputable def code33 : Code := Try.f33.body.getD .skip
theorem tb33_ok (n : Nat) : (tb33 n).ok Try.prog := tbOk mixed (⟨con74_ok n, ⟨con73_ok n, trivial⟩⟩)
theorem blocks33 : blocks code33 = [] := by kernel_rfl
theorem la33 (n : Nat) : LpAll (tb33 n) code33 := lpAll blocks33 (bl_nil) rfl (cs_no fun _ => rfl) (by kernel_rfl)
theorem ev33 (n : Nat) (x : pdens [.c false (.v true (.rs 5 (.int .u8)))]) : evSig (tb33 n) Try.f33 [.c false (.v true (.rs 5 (.int .u8)))] [.c true (.v true yP)] x = F33 n x.1 := by kernel_rfl
theorem con33_ok (n : Nat) : Con.ok Try.prog 33 (con33 n) := conOf_ok (tb33_ok n) (body_la (by kernel_rfl : Try.f33.body = some code33) (la33 n)) Try.func33 (enters Try.func33 (by kernel_rfl) (by kernel_rfl)) rfl rfl (ev33 n)
end Go.Proofs.Ytdacfaincamliaa.Ev
