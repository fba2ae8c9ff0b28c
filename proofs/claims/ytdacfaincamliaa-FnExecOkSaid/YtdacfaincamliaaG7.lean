/- Plain functions that the loaded code comes to, and that it does. Conditions: none. -/
import Derived.Test.YtdacfaincamliaaGB
import Derived.Test.YtdacfaincamliaaGO
namespace Go.Proofs.Ytdacfaincamliaa.Ev
open Go Go.Proofs
/-! ### loop.example/fathomline/laws.FnExecOk -/
def J7_10 (n : Nat) (x11 : List (List (Int × Int × Int)) × Unit) (x12 : List (List Int × List (List Int))) (x13 : List (List Int × List (List Int))) (x14 : Int) : Option (odens [(.normal, [(3, (.b 33 [(.v true yP)])), (4, (.c false (.v true (.rs 48 yX)))), (5, (.c false (.v true (.rs 48 yX)))), (6, kI)])]) :=
    some (Sum.inl ((x11.fst, ()), x12, x13, Go.IntKind.i64.wrap (x14 + (1 : Int)), ()))
def L7_0 (n : Nat) : Nat → List (List (Int × Int × Int)) × Unit → List (List Int × List (List Int)) → List (List Int × List (List Int)) → Int → Option (odens [(.ret, [(2, kB)]), ((.exit 0), [(3, (.b 33 [(.v true yP)])), (4, (.c false (.v true (.rs 48 yX))))])])
  | 0, _, _, _, _ => none
  | m + 1, x4, x5, x6, x7 =>
    cond (Decidable.decide (x7 < (↑x5.length : Int)))
    (if (0 : Int) ≤ x7 then
     if x7 < (↑x5.length : Int) then
     if (0 : Int) ≤ x7 then
     if x7 < (↑x6.length : Int) then
     (F37 n (((x5.getD x7.toNat ([], [])).fst, (x5.getD x7.toNat ([], [])).snd)) (((x6.getD x7.toNat ([], [])).fst, (x6.getD x7.toNat ([], [])).snd))).bind fun y8 =>
     cond (!y8.fst)
     (some (Sum.inl (Bool.false, ())))
     (if (0 : Int) ≤ x7 then
      if x7 < (↑x5.length : Int) then
      (F31 n (x4.fst) (((x5.getD x7.toNat ([], [])).fst, (x5.getD x7.toNat ([], [])).snd))).bind fun y9 =>
      cond (!y9.fst)
      (some (Sum.inl (Bool.false, ())))
      (cond (Decidable.decide (x7 > (0 : Int)))
       (if (0 : Int) ≤ Go.IntKind.i64.wrap (x7 - (1 : Int)) then
        if Go.IntKind.i64.wrap (x7 - (1 : Int)) < (↑x5.length : Int) then
        if (0 : Int) ≤ x7 then
        if x7 < (↑x5.length : Int) then
        (F37 n (((x5.getD (Go.IntKind.i64.wrap (x7 - (1 : Int))).toNat ([], [])).fst, (x5.getD (Go.IntKind.i64.wrap (x7 - (1 : Int))).toNat ([], [])).snd)) (((x5.getD x7.toNat ([], [])).fst, (x5.getD x7.toNat ([], [])).snd))).bind fun y10 =>
        cond (y10.fst)
        (some (Sum.inl (Bool.false, ())))
        (match J7_10 n ((x4.fst, ())) (x5) (x6) (x7) with
         | none => none
         | some (Sum.inl v15) =>
          L7_0 n m ((v15.fst.fst, ())) (v15.snd.fst) (v15.snd.snd.fst) (v15.snd.snd.snd.fst))
        else none
        else none
        else none
        else none)
       (match J7_10 n ((x4.fst, ())) (x5) (x6) (x7) with
        | none => none
        | some (Sum.inl v16) =>
         L7_0 n m ((v16.fst.fst, ())) (v16.snd.fst) (v16.snd.snd.fst) (v16.snd.snd.snd.fst)))
      else none
      else none)
     else none
     else none
     else none
     else none)
    (some (Sum.inr (Sum.inl ((x4.fst, ()), x5, ()))))
def F7 (n : Nat) (a0 : List Int) : Option (rdens [.c false (.v true (.rs 5 (.int .u8)))] [.c false (.v true .bool)]) :=
  cond (Decidable.decide ((↑a0.length : Int) > (1048576 : Int)))
  (some (Bool.true, ()))
  ((F33 n (a0)).bind fun y1 =>
   (F34 n (y1.fst)).bind fun y2 =>
   (F35 n (y1.fst)).bind fun y3 =>
   cond ((↑(List.length y2.fst) : Int) != (↑(List.length y3.fst) : Int))
   (some (Bool.false, ()))
   (match L7_0 n n ((y1.fst, ())) (y2.fst) (y3.fst) ((0 : Int)) with
    | none => none
    | some (Sum.inl v17) =>
     some (v17.fst, ())
    | some (Sum.inr (Sum.inl v18)) =>
     (F36 n (v18.fst.fst)).bind fun y19 =>
     some (Decidable.decide ((↑(List.length v18.snd.fst) : Int) > (0 : Int)) == y19.fst, ())))
noncomputable def con7 (n : Nat) : Con := conOf [.c false (.v true (.rs 5 (.int .u8)))] [.c false (.v true .bool)] fun x => F7 n x.1
noncomputable def tb7 (n : Nat) : Tb := ⟨tiOf Try.prog, conL [(33, con33 n), (34, con34 n), (35, con35 n), (37, con37 n), (31, con31 n), (36, con36 n)], n, [], 68, lpL [(0, ⟨[(3, (.b 33 [(.v true yP)])), (4, (.c false (.v true (.rs 48 yX)))), (5, (.c false (.v true (.rs 48 yX)))), (6, kI)], [(.ret, [(2, kB)]), ((.exit 0), [(3, (.b 33 [(.v true yP)])), (4, (.c false (.v true (.rs 48 yX))))])], fun m v => L7_0 n m v.1 v.2.1 v.2.2.1 v.2.2.2.1⟩)], ctL [(10, ⟨[(3, (.b 33 [(.v true yP)])), (4, (.c false (.v true (.rs 48 yX)))), (5, (.c false (.v true (.rs 48 yX)))), (6, kI)], [(.normal, [(3, (.b 33 [(.v true yP)])), (4, (.c false (.v true (.rs 48 yX)))), (5, (.c false (.v true (.rs 48 yX)))), (6, kI)])], fun v => J7_10 n v.1 v.2.1 v.2.2.1 v.2.2.2.1⟩)], [], true⟩
noncomputable def code7 : Code := Try.f7.body.getD .skip
theorem tb7_ok (n : Nat) : (tb7 n).ok Try.prog := tbOk mixed (⟨con33_ok n, ⟨con34_ok n, ⟨con35_ok n, ⟨con37_ok n, ⟨con31_ok n, ⟨con36_ok n, trivial⟩⟩⟩⟩⟩⟩)
theorem lp7_0 (n : Nat) : LpAt (tb7 n) (loopBody code7 0) 0 := lpAt rfl (fun _ => by kernel_rfl) (fun _ _ => by kernel_rfl)
theorem blocks7 : blocks code7 = [(0, .loop (loopBody code7 0)), (1, blockBody code7 1)] := by kernel_rfl
theorem ct7_10 (n : Nat) : CtOk (tb7 n) (sec code7 14).2 ⟨[(3, (.b 33 [(.v true yP)])), (4, (.c false (.v true (.rs 48 yX)))), (5, (.c false (.v true (.rs 48 yX)))), (6, kI)], [(.normal, [(3, (.b 33 [(.v true yP)])), (4, (.c false (.v true (.rs 48 yX)))), (5, (.c false (.v true (.rs 48 yX)))), (6, kI)])], fun v => J7_10 n v.1 v.2.1 v.2.2.1 v.2.2.2.1⟩ := fun _ => by kernel_rfl
theorem secs7 : seconds code7 = [(some 1, (sec code7 0).2), (some 3, (sec code7 1).2), (none, (sec code7 2).2), (none, (sec code7 3).2), (some 4, (sec code7 4).2), (some 5, (sec code7 5).2), (some 6, (sec code7 6).2), (some 8, (sec code7 7).2), (none, (sec code7 8).2), (none, (sec code7 9).2), (some 13, (sec code7 10).2), (some 9, (sec code7 11).2), (some 11, (sec code7 12).2), (none, (sec code7 13).2), (some 10, (sec code7 14).2), (none, (sec code7 15).2), (none, (sec code7 16).2), (none, (sec code7 17).2)] := by kernel_rfl
theorem la7 (n : Nat) : LpAll (tb7 n) code7 := lpAll blocks7 (bl_loop (lp7_0 n) (bl_none rfl (bl_nil))) secs7 (cs_none rfl (cs_none rfl (cs_none rfl (cs_none rfl (cs_none rfl (cs_none rfl (cs_none rfl (cs_none rfl (cs_none rfl (cs_none rfl (cs_none rfl (cs_none rfl (cs_none rfl (cs_none rfl (cs_one rfl (ct7_10 n) (cs_none rfl (cs_none rfl (cs_none rfl (cs_nil))))))))))))))))))) (by kernel_rfl)
theorem ev7 (n : Nat) (x : pdens [.c false (.v true (.rs 5 (.int .u8)))]) : evSig (tb7 n) Try.f7 [.c false (.v true (.rs 5 (.int .u8)))] [.c false (.v true .bool)] x = F7 n x.1 := by kernel_rfl
theorem con7_ok (n : Nat) : Con.ok Try.prog 7 (con7 n) := conOf_ok (tb7_ok n) (body_la (by kernel_rfl : Try.f7.body = some code7) (la7 n)) Try.func7 (enters Try.func7 (by kernel_rfl) (by kernel_rfl)) rfl rfl (ev7 n)
end Go.Proofs.Ytdacfaincamliaa.Ev
