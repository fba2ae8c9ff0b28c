/- Plain functions that the loaded code comes to, and that it does. Conditions: none. -/
import Derived.Test.YtdacfaincamliaaGH
namespace Go.Proofs.Ytdacfaincamliaa.Ev
open Go Go.Proofs
/-! ### loop.example/fathomline/laws.FnOrderOwn -/
def J10_12 (n : Nat) (x21 : List (List (Int × Int × Int)) × Unit) (x22 : (List Int × List (List Int)) × Unit) (x23 : List (Int × Int × Bool)) (x24 : Int) (x25 : Int) : Option (odens [(.normal, [(3, (.b 33 [(.v true yP)])), (4, (.b 48 [(.v true yX)])), (5, (.c false (.r 67 yE))), (6, kI), (7, kI)])]) :=
    some (Sum.inl ((x21.fst, ()), ((x22.fst.fst, x22.fst.snd), ()), x23, x24, Go.IntKind.i64.wrap (x25 + (1 : Int)), ()))
def J10_18 (n : Nat) (x36 : List (List (Int × Int × Int)) × Unit) (x37 : (List Int × List (List Int)) × Unit) (x38 : List (Int × Int × Bool)) (x39 : Int) (x40 : Int) (x41 : Bool) (x42 : Bool) : Option (odens [(.ret, [(2, kB)]), (.normal, [(3, (.b 33 [(.v true yP)])), (4, (.b 48 [(.v true yX)])), (5, (.c false (.r 67 yE))), (6, kI), (7, kI)])]) :=
    (F46 n (x36.fst) ((x37.fst.fst, x37.fst.snd)) ((1 : Int)) (x39) (x40)).bind fun y43 =>
    cond (!y43.fst)
    (some (Sum.inl (Bool.false, ())))
    (cond (x41)
     (cond (!x42)
      ((F46 n (x36.fst) ((x37.fst.fst, x37.fst.snd)) ((2 : Int)) (x39) (x40)).bind fun y44 =>
       cond (!y44.fst)
       (some (Sum.inl (Bool.false, ())))
       (some (Sum.inr (Sum.inl ((x36.fst, ()), ((x37.fst.fst, x37.fst.snd), ()), x38, x39, x40, ())))))
      (some (Sum.inr (Sum.inl ((x36.fst, ()), ((x37.fst.fst, x37.fst.snd), ()), x38, x39, x40, ())))))
     ((F46 n (x36.fst) ((x37.fst.fst, x37.fst.snd)) ((2 : Int)) (x39) (x40)).bind fun y45 =>
      cond (!y45.fst)
      (some (Sum.inl (Bool.false, ())))
      (some (Sum.inr (Sum.inl ((x36.fst, ()), ((x37.fst.fst, x37.fst.snd), ()), x38, x39, x40, ()))))))
def J10_17 (n : Nat) (x29 : List (List (Int × Int × Int)) × Unit) (x30 : (List Int × List (List Int)) × Unit) (x31 : List (Int × Int × Bool)) (x32 : Int) (x33 : Int) (x34 : Int) (x35 : Bool) : Option (odens [(.ret, [(2, kB)]), (.normal, [(3, (.b 33 [(.v true yP)])), (4, (.b 48 [(.v true yX)])), (5, (.c false (.r 67 yE))), (6, kI), (7, kI)])]) :=
    cond (x34 == (2 : Int))
    (match J10_18 n ((x29.fst, ())) (((x30.fst.fst, x30.fst.snd), ())) (x31) (x32) (x33) (x35) (Bool.true) with
     | none => none
     | some (Sum.inl v46) =>
      some (Sum.inl (v46.fst, ()))
     | some (Sum.inr (Sum.inl v47)) =>
      some (Sum.inr (Sum.inl ((v47.fst.fst, ()), ((v47.snd.fst.fst.fst, v47.snd.fst.fst.snd), ()), v47.snd.snd.fst, v47.snd.snd.snd.fst, v47.snd.snd.snd.snd.fst, ()))))
    (match J10_18 n ((x29.fst, ())) (((x30.fst.fst, x30.fst.snd), ())) (x31) (x32) (x33) (x35) (x34 == (5 : Int)) with
     | none => none
     | some (Sum.inl v48) =>
      some (Sum.inl (v48.fst, ()))
     | some (Sum.inr (Sum.inl v49)) =>
      some (Sum.inr (Sum.inl ((v49.fst.fst, ()), ((v49.snd.fst.fst.fst, v49.snd.fst.fst.snd), ()), v49.snd.snd.fst, v49.snd.snd.snd.fst, v49.snd.snd.snd.snd.fst, ()))))
def L10_2 (n : Nat) : Nat → List (List (Int × Int × Int)) × Unit → (List Int × List (List Int)) × Unit → List (Int × Int × Bool) → Int → Int → Option (odens [(.ret, [(2, kB)]), ((.exit 2), [(3, (.b 33 [(.v true yP)])), (4, (.b 48 [(.v true yX)])), (5, (.c false (.r 67 yE))), (6, kI)])])
  | 0, _, _, _, _, _ => none
  | m + 1, x16, x17, x18, x19, x20 =>
    cond (Decidable.decide (x20 < (↑x18.length : Int)))
    (if (0 : Int) ≤ x19 then
     if x19 < (↑x18.length : Int) then
     if x19.toNat < x18.length then
     if (0 : Int) ≤ x20 then
     if x20 < (↑x18.length : Int) then
     if x20.toNat < x18.length then
     cond ((x18.getD x19.toNat ((0 : Int), (0 : Int), Bool.false)).fst != (x18.getD x20.toNat ((0 : Int), (0 : Int), Bool.false)).fst)
     (match J10_12 n ((x16.fst, ())) (((x17.fst.fst, x17.fst.snd), ())) (x18) (x19) (x20) with
      | none => none
      | some (Sum.inl v26) =>
       L10_2 n m ((v26.fst.fst, ())) (((v26.snd.fst.fst.fst, v26.snd.fst.fst.snd), ())) (v26.snd.snd.fst) (v26.snd.snd.snd.fst) (v26.snd.snd.snd.snd.fst))
     (if (0 : Int) ≤ x19 then
      if x19 < (↑x18.length : Int) then
      if x19.toNat < x18.length then
      (F45 n (x16.fst) (((x18.getD x19.toNat ((0 : Int), (0 : Int), Bool.false)).fst, (x18.getD x19.toNat ((0 : Int), (0 : Int), Bool.false)).snd.fst, (x18.getD x19.toNat ((0 : Int), (0 : Int), Bool.false)).snd.snd))).bind fun y27 =>
      if (0 : Int) ≤ x20 then
      if x20 < (↑x18.length : Int) then
      if x20.toNat < x18.length then
      (F45 n (x16.fst) (((x18.getD x20.toNat ((0 : Int), (0 : Int), Bool.false)).fst, (x18.getD x20.toNat ((0 : Int), (0 : Int), Bool.false)).snd.fst, (x18.getD x20.toNat ((0 : Int), (0 : Int), Bool.false)).snd.snd))).bind fun y28 =>
      cond (y27.fst == (1 : Int))
      (match J10_17 n ((x16.fst, ())) (((x17.fst.fst, x17.fst.snd), ())) (x18) (x19) (x20) (y28.fst) (Bool.true) with
       | none => none
       | some (Sum.inl v50) =>
        some (Sum.inl (v50.fst, ()))
       | some (Sum.inr (Sum.inl v51)) =>
        match J10_12 n ((v51.fst.fst, ())) (((v51.snd.fst.fst.fst, v51.snd.fst.fst.snd), ())) (v51.snd.snd.fst) (v51.snd.snd.snd.fst) (v51.snd.snd.snd.snd.fst) with
        | none => none
        | some (Sum.inl v52) =>
         L10_2 n m ((v52.fst.fst, ())) (((v52.snd.fst.fst.fst, v52.snd.fst.fst.snd), ())) (v52.snd.snd.fst) (v52.snd.snd.snd.fst) (v52.snd.snd.snd.snd.fst))
      (cond (y27.fst == (3 : Int))
       (match J10_17 n ((x16.fst, ())) (((x17.fst.fst, x17.fst.snd), ())) (x18) (x19) (x20) (y28.fst) (Bool.true) with
        | none => none
        | some (Sum.inl v53) =>
         some (Sum.inl (v53.fst, ()))
        | some (Sum.inr (Sum.inl v54)) =>
         match J10_12 n ((v54.fst.fst, ())) (((v54.snd.fst.fst.fst, v54.snd.fst.fst.snd), ())) (v54.snd.snd.fst) (v54.snd.snd.snd.fst) (v54.snd.snd.snd.snd.fst) with
         | none => none
         | some (Sum.inl v55) =>
          L10_2 n m ((v55.fst.fst, ())) (((v55.snd.fst.fst.fst, v55.snd.fst.fst.snd), ())) (v55.snd.snd.fst) (v55.snd.snd.snd.fst) (v55.snd.snd.snd.snd.fst))
       (match J10_17 n ((x16.fst, ())) (((x17.fst.fst, x17.fst.snd), ())) (x18) (x19) (x20) (y28.fst) (y27.fst == (6 : Int)) with
        | none => none
        | some (Sum.inl v56) =>
         some (Sum.inl (v56.fst, ()))
        | some (Sum.inr (Sum.inl v57)) =>
         match J10_12 n ((v57.fst.fst, ())) (((v57.snd.fst.fst.fst, v57.snd.fst.fst.snd), ())) (v57.snd.snd.fst) (v57.snd.snd.snd.fst) (v57.snd.snd.snd.snd.fst) with
         | none => none
         | some (Sum.inl v58) =>
          L10_2 n m ((v58.fst.fst, ())) (((v58.snd.fst.fst.fst, v58.snd.fst.fst.snd), ())) (v58.snd.snd.fst) (v58.snd.snd.snd.fst) (v58.snd.snd.snd.snd.fst)))
      else none
      else none
      else none
      else none
      else none
      else none)
     else none
     else none
     else none
     else none
     else none
     else none)
    (some (Sum.inr (Sum.inl ((x16.fst, ()), ((x17.fst.fst, x17.fst.snd), ()), x18, x19, ()))))
def L10_0 (n : Nat) : Nat → List (List (Int × Int × Int)) × Unit → (List Int × List (List Int)) × Unit → List (Int × Int × Bool) → Int → Option (odens [(.ret, [(2, kB)]), ((.exit 0), [])])
  | 0, _, _, _, _ => none
  | m + 1, x12, x13, x14, x15 =>
    cond (Decidable.decide (x15 < (↑x14.length : Int)))
    (match L10_2 n n ((x12.fst, ())) (((x13.fst.fst, x13.fst.snd), ())) (x14) (x15) (Go.IntKind.i64.wrap (x15 + (1 : Int))) with
     | none => none
     | some (Sum.inl v59) =>
      some (Sum.inl (v59.fst, ()))
     | some (Sum.inr (Sum.inl v60)) =>
      L10_0 n m ((v60.fst.fst, ())) (((v60.snd.fst.fst.fst, v60.snd.fst.fst.snd), ())) (v60.snd.snd.fst) (Go.IntKind.i64.wrap (v60.snd.snd.snd.fst + (1 : Int))))
    (some (Sum.inr (Sum.inl (()))))
def J10_6 (n : Nat) (x9 : List (List (Int × Int × Int)) × Unit) (x10 : (List Int × List (List Int)) × Unit) : Option (odens [(.ret, [(2, kB)])]) :=
    (F42 n (x9.fst)).bind fun y11 =>
    match L10_0 n n ((x9.fst, ())) (((x10.fst.fst, x10.fst.snd), ())) (y11.fst) ((0 : Int)) with
    | none => none
    | some (Sum.inl v61) =>
     some (Sum.inl (v61.fst, ()))
    | some (Sum.inr (Sum.inl v62)) =>
     some (Sum.inl (Bool.true, ()))
def F10 (n : Nat) (a0 : List Int) : Option (rdens [.c false (.v true (.rs 5 (.int .u8)))] [.c false (.v true .bool)]) :=
  cond (Decidable.decide ((↑a0.length : Int) > (1048576 : Int)))
  (some (Bool.true, ()))
  ((F44 n (a0)).bind fun y1 =>
   (F31 n (y1.fst) ((y1.snd.fst.fst, y1.snd.fst.snd))).bind fun y2 =>
   (F29 n (y1.fst) ((y1.snd.fst.fst, y1.snd.fst.snd))).bind fun y3 =>
   cond (!y2.fst == y3.fst)
   ((F31 n (y1.fst) ((y1.snd.fst.fst, y1.snd.fst.snd))).bind fun y4 =>
    (F29 n (y1.fst) ((y1.snd.fst.fst, y1.snd.fst.snd))).bind fun y5 =>
    some (y4.fst == y5.fst, ()))
   ((F29 n (y1.fst) ((y1.snd.fst.fst, y1.snd.fst.snd))).bind fun y6 =>
    cond (!y6.fst)
    ((F31 n (y1.fst) ((y1.snd.fst.fst, y1.snd.fst.snd))).bind fun y7 =>
     (F29 n (y1.fst) ((y1.snd.fst.fst, y1.snd.fst.snd))).bind fun y8 =>
     some (y7.fst == y8.fst, ()))
    (match J10_6 n ((y1.fst, ())) (((y1.snd.fst.fst, y1.snd.fst.snd), ())) with
     | none => none
     | some (Sum.inl v63) =>
      some (v63.fst, ()))))
noncomputable def con10 (n : Nat) : Con := conOf [.c false (.v true (.rs 5 (.int .u8)))] [.c false (.v true .bool)] fun x => F10 n x.1
noncomputable def tb10 (n : Nat) : Tb := ⟨tiOf Try.prog, conL [(44, con44 n), (31, con31 n), (29, con29 n), (42, con42 n), (45, con45 n), (46, con46 n)], n, [], 116, lpL [(2, ⟨[(3, (.b 33 [(.v true yP)])), (4, (.b 48 [(.v true yX)])), (5, (.c false (.r 67 yE))), (6, kI), (7, kI)], [(.ret, [(2, kB)]), ((.exit 2), [(3, (.b 33 [(.v true yP)])), (4, (.b 48 [(.v true yX)])), (5, (.c false (.r 67 yE))), (6, kI)])], fun m v => L10_2 n m v.1 v.2.1 v.2.2.1 v.2.2.2.1 v.2.2.2.2.1⟩), (0, ⟨[(3, (.b 33 [(.v true yP)])), (4, (.b 48 [(.v true yX)])), (5, (.c false (.r 67 yE))), (6, kI)], [(.ret, [(2, kB)]), ((.exit 0), [])], fun m v => L10_0 n m v.1 v.2.1 v.2.2.1 v.2.2.2.1⟩)], ctL [(12, ⟨[(3, (.b 33 [(.v true yP)])), (4, (.b 48 [(.v true yX)])), (5, (.c false (.r 67 yE))), (6, kI), (7, kI)], [(.normal, [(3, (.b 33 [(.v true yP)])), (4, (.b 48 [(.v true yX)])), (5, (.c false (.r 67 yE))), (6, kI), (7, kI)])], fun v => J10_12 n v.1 v.2.1 v.2.2.1 v.2.2.2.1 v.2.2.2.2.1⟩), (18, ⟨[(3, (.b 33 [(.v true yP)])), (4, (.b 48 [(.v true yX)])), (5, (.c false (.r 67 yE))), (6, kI), (7, kI), (10, kB), (11, kB)], [(.ret, [(2, kB)]), (.normal, [(3, (.b 33 [(.v true yP)])), (4, (.b 48 [(.v true yX)])), (5, (.c false (.r 67 yE))), (6, kI), (7, kI)])], fun v => J10_18 n v.1 v.2.1 v.2.2.1 v.2.2.2.1 v.2.2.2.2.1 v.2.2.2.2.2.1 v.2.2.2.2.2.2.1⟩), (17, ⟨[(3, (.b 33 [(.v true yP)])), (4, (.b 48 [(.v true yX)])), (5, (.c false (.r 67 yE))), (6, kI), (7, kI), (9, kI), (10, kB)], [(.ret, [(2, kB)]), (.normal, [(3, (.b 33 [(.v true yP)])), (4, (.b 48 [(.v true yX)])), (5, (.c false (.r 67 yE))), (6, kI), (7, kI)])], fun v => J10_17 n v.1 v.2.1 v.2.2.1 v.2.2.2.1 v.2.2.2.2.1 v.2.2.2.2.2.1 v.2.2.2.2.2.2.1⟩), (6, ⟨[(3, (.b 33 [(.v true yP)])), (4, (.b 48 [(.v true yX)]))], [(.ret, [(2, kB)])], fun v => J10_6 n v.1 v.2.1⟩)], [], true⟩
noncomputable def code10 : Code := Try.f10.body.getD .skip
theorem tb10_ok (n : Nat) : (tb10 n).ok Try.prog := tbOk mixed (⟨con44_ok n, ⟨con31_ok n, ⟨con29_ok n, ⟨con42_ok n, ⟨con45_ok n, ⟨con46_ok n, trivial⟩⟩⟩⟩⟩⟩)
theorem lp10_2 (n : Nat) : LpAt (tb10 n) (loopBody code10 2) 2 := lpAt rfl (fun _ => by kernel_rfl) (fun _ _ => by kernel_rfl)
theorem lp10_0 (n : Nat) : LpAt (tb10 n) (loopBody code10 0) 0 := lpAt rfl (fun _ => by kernel_rfl) (fun _ _ => by kernel_rfl)
theorem blocks10 : blocks code10 = [(0, .loop (loopBody code10 0)), (1, blockBody code10 1), (2, .loop (loopBody code10 2)), (3, blockBody code10 3)] := by kernel_rfl
theorem ct10_6 (n : Nat) : CtOk (tb10 n) (sec code10 5).2 ⟨[(3, (.b 33 [(.v true yP)])), (4, (.b 48 [(.v true yX)]))], [(.ret, [(2, kB)])], fun v => J10_6 n v.1 v.2.1⟩ := fun _ => by kernel_rfl
theorem ct10_12 (n : Nat) : CtOk (tb10 n) (sec code10 17).2 ⟨[(3, (.b 33 [(.v true yP)])), (4, (.b 48 [(.v true yX)])), (5, (.c false (.r 67 yE))), (6, kI), (7, kI)], [(.normal, [(3, (.b 33 [(.v true yP)])), (4, (.b 48 [(.v true yX)])), (5, (.c false (.r 67 yE))), (6, kI), (7, kI)])], fun v => J10_12 n v.1 v.2.1 v.2.2.1 v.2.2.2.1 v.2.2.2.2.1⟩ := fun _ => by kernel_rfl
theorem ct10_17 (n : Nat) : CtOk (tb10 n) (sec code10 22).2 ⟨[(3, (.b 33 [(.v true yP)])), (4, (.b 48 [(.v true yX)])), (5, (.c false (.r 67 yE))), (6, kI), (7, kI), (9, kI), (10, kB)], [(.ret, [(2, kB)]), (.normal, [(3, (.b 33 [(.v true yP)])), (4, (.b 48 [(.v true yX)])), (5, (.c false (.r 67 yE))), (6, kI), (7, kI)])], fun v => J10_17 n v.1 v.2.1 v.2.2.1 v.2.2.2.1 v.2.2.2.2.1 v.2.2.2.2.2.1 v.2.2.2.2.2.2.1⟩ := fun _ => by kernel_rfl
theorem ct10_18 (n : Nat) : CtOk (tb10 n) (sec code10 23).2 ⟨[(3, (.b 33 [(.v true yP)])), (4, (.b 48 [(.v true yX)])), (5, (.c false (.r 67 yE))), (6, kI), (7, kI), (10, kB), (11, kB)], [(.ret, [(2, kB)]), (.normal, [(3, (.b 33 [(.v true yP)])), (4, (.b 48 [(.v true yX)])), (5, (.c false (.r 67 yE))), (6, kI), (7, kI)])], fun v => J10_18 n v.1 v.2.1 v.2.2.1 v.2.2.2.1 v.2.2.2.2.1 v.2.2.2.2.2.1 v.2.2.2.2.2.2.1⟩ := fun _ => by kernel_rfl
theorem secs10 : seconds code10 = [(some 1, (sec code10 0).2), (some 3, (sec code10 1).2), (none, (sec code10 2).2), (none, (sec code10 3).2), (some 4, (sec code10 4).2), (some 6, (sec code10 5).2), (none, (sec code10 6).2), (none, (sec code10 7).2), (some 7, (sec code10 8).2), (some 20, (sec code10 9).2), (some 8, (sec code10 10).2), (some 10, (sec code10 11).2), (none, (sec code10 12).2), (some 9, (sec code10 13).2), (some 11, (sec code10 14).2), (some 13, (sec code10 15).2), (none, (sec code10 16).2), (some 12, (sec code10 17).2), (some 14, (sec code10 18).2), (none, (sec code10 19).2), (some 15, (sec code10 20).2), (some 16, (sec code10 21).2), (some 17, (sec code10 22).2), (some 18, (sec code10 23).2), (none, (sec code10 24).2), (none, (sec code10 25).2), (none, (sec code10 26).2)] := by kernel_rfl
theorem la10 (n : Nat) : LpAll (tb10 n) code10 := lpAll blocks10 (bl_loop (lp10_0 n) (bl_none rfl (bl_loop (lp10_2 n) (bl_none rfl (bl_nil))))) secs10 (cs_none rfl (cs_none rfl (cs_none rfl (cs_none rfl (cs_none rfl (cs_one rfl (ct10_6 n) (cs_none rfl (cs_none rfl (cs_none rfl (cs_none rfl (cs_none rfl (cs_none rfl (cs_none rfl (cs_none rfl (cs_none rfl (cs_none rfl (cs_none rfl (cs_one rfl (ct10_12 n) (cs_none rfl (cs_none rfl (cs_none rfl (cs_none rfl (cs_one rfl (ct10_17 n) (cs_one rfl (ct10_18 n) (cs_none rfl (cs_none rfl (cs_none rfl (cs_nil)))))))))))))))))))))))))))) (by kernel_rfl)
theorem ev10 (n : Nat) (x : pdens [.c false (.v true (.rs 5 (.int .u8)))]) : evSig (tb10 n) Try.f10 [.c false (.v true (.rs 5 (.int .u8)))] [.c false (.v true .bool)] x = F10 n x.1 := by kernel_rfl
theorem con10_ok (n : Nat) : Con.ok Try.prog 10 (con10 n) := conOf_ok (tb10_ok n) (body_la (by kernel_rfl : Try.f10.body = some code10) (la10 n)) Try.func10 (enters Try.func10 (by kernel_rfl) (by kernel_rfl)) rfl rfl (ev10 n)
end Go.Proofs.Ytdacfaincamliaa.Ev
