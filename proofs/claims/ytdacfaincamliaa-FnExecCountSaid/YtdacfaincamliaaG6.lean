/- Plain functions that the loaded code comes to, and that it does. Conditions: none. -/
import Derived.Test.YtdacfaincamliaaGB
import Derived.Test.YtdacfaincamliaaGO
namespace Go.Proofs.Ytdacfaincamliaa.Ev
open Go Go.Proofs
/-! ### loop.example/fathomline/laws.FnExecCount -/
def J6_18 (n : Nat) (x28 : List (List (Int × Int × Int)) × Unit) (x29 : List (List Int × List (List Int))) (x30 : Int) (x31 : Int) (x32 : Int) (x33 : Int) (x34 : Int) (x35 : Int) : Option (odens [(.normal, [(3, (.b 33 [(.v true yP)])), (4, (.c false (.o (.rs 48 yX)))), (5, kI), (6, kI), (7, kI), (8, kI), (9, kI), (10, kI)])]) :=
    some (Sum.inl ((x28.fst, ()), x29, x30, x31, x32, x33, x34, Go.IntKind.i64.wrap (x35 + (1 : Int)), ()))
def L6_4 (n : Nat) : Nat → List (List (Int × Int × Int)) × Unit → List (List Int × List (List Int)) → Int → Int → Int → Int → Int → Int → Option (odens [((.exit 4), [(3, (.b 33 [(.v true yP)])), (4, (.c false (.o (.rs 48 yX)))), (5, kI), (6, kI), (7, kI), (8, kI), (9, kI)])])
  | 0, _, _, _, _, _, _, _, _ => none
  | m + 1, x20, x21, x22, x23, x24, x25, x26, x27 =>
    if (0 : Int) ≤ x26 then
    if x26 < (↑(List.length x20.fst) : Int) then
    cond (Decidable.decide (x27 < (↑(List.length (List.getD x20.fst x26.toNat [])) : Int)))
    (if (0 : Int) ≤ x26 then
     if x26 < (↑(List.length x20.fst) : Int) then
     if (0 : Int) ≤ x27 then
     if x27 < (↑(List.length (List.getD x20.fst x26.toNat [])) : Int) then
     cond ((List.getD (List.getD x20.fst x26.toNat []) x27.toNat ((0 : Int), (0 : Int), (0 : Int))).snd.fst != x23)
     (match J6_18 n ((x20.fst, ())) (x21) (x22) (x23) (x24) (x25) (x26) (x27) with
      | none => none
      | some (Sum.inl v36) =>
       L6_4 n m ((v36.fst.fst, ())) (v36.snd.fst) (v36.snd.snd.fst) (v36.snd.snd.snd.fst) (v36.snd.snd.snd.snd.fst) (v36.snd.snd.snd.snd.snd.fst) (v36.snd.snd.snd.snd.snd.snd.fst) (v36.snd.snd.snd.snd.snd.snd.snd.fst))
     (cond ((List.getD (List.getD x20.fst x26.toNat []) x27.toNat ((0 : Int), (0 : Int), (0 : Int))).fst == (1 : Int))
      (cond ((List.getD (List.getD x20.fst x26.toNat []) x27.toNat ((0 : Int), (0 : Int), (0 : Int))).fst == (1 : Int))
       (match J6_18 n ((x20.fst, ())) (x21) (Go.IntKind.i64.wrap (x22 * Go.IntKind.i64.wrap (x24 + (1 : Int)))) (x23) (Go.IntKind.i64.wrap (x24 + (1 : Int))) (x25) (x26) (x27) with
        | none => none
        | some (Sum.inl v37) =>
         L6_4 n m ((v37.fst.fst, ())) (v37.snd.fst) (v37.snd.snd.fst) (v37.snd.snd.snd.fst) (v37.snd.snd.snd.snd.fst) (v37.snd.snd.snd.snd.snd.fst) (v37.snd.snd.snd.snd.snd.snd.fst) (v37.snd.snd.snd.snd.snd.snd.snd.fst))
       (cond ((List.getD (List.getD x20.fst x26.toNat []) x27.toNat ((0 : Int), (0 : Int), (0 : Int))).fst == (2 : Int))
        (cond ((List.getD (List.getD x20.fst x26.toNat []) x27.toNat ((0 : Int), (0 : Int), (0 : Int))).fst == (2 : Int))
         (match J6_18 n ((x20.fst, ())) (x21) (x22) (x23) (x24) (Go.IntKind.i64.wrap (x25 + (1 : Int))) (x26) (x27) with
          | none => none
          | some (Sum.inl v38) =>
           L6_4 n m ((v38.fst.fst, ())) (v38.snd.fst) (v38.snd.snd.fst) (v38.snd.snd.snd.fst) (v38.snd.snd.snd.snd.fst) (v38.snd.snd.snd.snd.snd.fst) (v38.snd.snd.snd.snd.snd.snd.fst) (v38.snd.snd.snd.snd.snd.snd.snd.fst))
         (match J6_18 n ((x20.fst, ())) (x21) (x22) (x23) (x24) (x25) (x26) (x27) with
          | none => none
          | some (Sum.inl v39) =>
           L6_4 n m ((v39.fst.fst, ())) (v39.snd.fst) (v39.snd.snd.fst) (v39.snd.snd.snd.fst) (v39.snd.snd.snd.snd.fst) (v39.snd.snd.snd.snd.snd.fst) (v39.snd.snd.snd.snd.snd.snd.fst) (v39.snd.snd.snd.snd.snd.snd.snd.fst)))
        (cond ((List.getD (List.getD x20.fst x26.toNat []) x27.toNat ((0 : Int), (0 : Int), (0 : Int))).fst == (5 : Int))
         (match J6_18 n ((x20.fst, ())) (x21) (x22) (x23) (x24) (Go.IntKind.i64.wrap (x25 + (1 : Int))) (x26) (x27) with
          | none => none
          | some (Sum.inl v40) =>
           L6_4 n m ((v40.fst.fst, ())) (v40.snd.fst) (v40.snd.snd.fst) (v40.snd.snd.snd.fst) (v40.snd.snd.snd.snd.fst) (v40.snd.snd.snd.snd.snd.fst) (v40.snd.snd.snd.snd.snd.snd.fst) (v40.snd.snd.snd.snd.snd.snd.snd.fst))
         (match J6_18 n ((x20.fst, ())) (x21) (x22) (x23) (x24) (x25) (x26) (x27) with
          | none => none
          | some (Sum.inl v41) =>
           L6_4 n m ((v41.fst.fst, ())) (v41.snd.fst) (v41.snd.snd.fst) (v41.snd.snd.snd.fst) (v41.snd.snd.snd.snd.fst) (v41.snd.snd.snd.snd.snd.fst) (v41.snd.snd.snd.snd.snd.snd.fst) (v41.snd.snd.snd.snd.snd.snd.snd.fst)))))
      (cond ((List.getD (List.getD x20.fst x26.toNat []) x27.toNat ((0 : Int), (0 : Int), (0 : Int))).fst == (3 : Int))
       (cond ((List.getD (List.getD x20.fst x26.toNat []) x27.toNat ((0 : Int), (0 : Int), (0 : Int))).fst == (3 : Int))
        (match J6_18 n ((x20.fst, ())) (x21) (Go.IntKind.i64.wrap (x22 * Go.IntKind.i64.wrap (x24 + (1 : Int)))) (x23) (Go.IntKind.i64.wrap (x24 + (1 : Int))) (x25) (x26) (x27) with
         | none => none
         | some (Sum.inl v42) =>
          L6_4 n m ((v42.fst.fst, ())) (v42.snd.fst) (v42.snd.snd.fst) (v42.snd.snd.snd.fst) (v42.snd.snd.snd.snd.fst) (v42.snd.snd.snd.snd.snd.fst) (v42.snd.snd.snd.snd.snd.snd.fst) (v42.snd.snd.snd.snd.snd.snd.snd.fst))
        (cond ((List.getD (List.getD x20.fst x26.toNat []) x27.toNat ((0 : Int), (0 : Int), (0 : Int))).fst == (2 : Int))
         (cond ((List.getD (List.getD x20.fst x26.toNat []) x27.toNat ((0 : Int), (0 : Int), (0 : Int))).fst == (2 : Int))
          (match J6_18 n ((x20.fst, ())) (x21) (x22) (x23) (x24) (Go.IntKind.i64.wrap (x25 + (1 : Int))) (x26) (x27) with
           | none => none
           | some (Sum.inl v43) =>
            L6_4 n m ((v43.fst.fst, ())) (v43.snd.fst) (v43.snd.snd.fst) (v43.snd.snd.snd.fst) (v43.snd.snd.snd.snd.fst) (v43.snd.snd.snd.snd.snd.fst) (v43.snd.snd.snd.snd.snd.snd.fst) (v43.snd.snd.snd.snd.snd.snd.snd.fst))
          (match J6_18 n ((x20.fst, ())) (x21) (x22) (x23) (x24) (x25) (x26) (x27) with
           | none => none
           | some (Sum.inl v44) =>
            L6_4 n m ((v44.fst.fst, ())) (v44.snd.fst) (v44.snd.snd.fst) (v44.snd.snd.snd.fst) (v44.snd.snd.snd.snd.fst) (v44.snd.snd.snd.snd.snd.fst) (v44.snd.snd.snd.snd.snd.snd.fst) (v44.snd.snd.snd.snd.snd.snd.snd.fst)))
         (cond ((List.getD (List.getD x20.fst x26.toNat []) x27.toNat ((0 : Int), (0 : Int), (0 : Int))).fst == (5 : Int))
          (match J6_18 n ((x20.fst, ())) (x21) (x22) (x23) (x24) (Go.IntKind.i64.wrap (x25 + (1 : Int))) (x26) (x27) with
           | none => none
           | some (Sum.inl v45) =>
            L6_4 n m ((v45.fst.fst, ())) (v45.snd.fst) (v45.snd.snd.fst) (v45.snd.snd.snd.fst) (v45.snd.snd.snd.snd.fst) (v45.snd.snd.snd.snd.snd.fst) (v45.snd.snd.snd.snd.snd.snd.fst) (v45.snd.snd.snd.snd.snd.snd.snd.fst))
          (match J6_18 n ((x20.fst, ())) (x21) (x22) (x23) (x24) (x25) (x26) (x27) with
           | none => none
           | some (Sum.inl v46) =>
            L6_4 n m ((v46.fst.fst, ())) (v46.snd.fst) (v46.snd.snd.fst) (v46.snd.snd.snd.fst) (v46.snd.snd.snd.snd.fst) (v46.snd.snd.snd.snd.snd.fst) (v46.snd.snd.snd.snd.snd.snd.fst) (v46.snd.snd.snd.snd.snd.snd.snd.fst)))))
       (cond ((List.getD (List.getD x20.fst x26.toNat []) x27.toNat ((0 : Int), (0 : Int), (0 : Int))).fst == (6 : Int))
        (match J6_18 n ((x20.fst, ())) (x21) (Go.IntKind.i64.wrap (x22 * Go.IntKind.i64.wrap (x24 + (1 : Int)))) (x23) (Go.IntKind.i64.wrap (x24 + (1 : Int))) (x25) (x26) (x27) with
         | none => none
         | some (Sum.inl v47) =>
          L6_4 n m ((v47.fst.fst, ())) (v47.snd.fst) (v47.snd.snd.fst) (v47.snd.snd.snd.fst) (v47.snd.snd.snd.snd.fst) (v47.snd.snd.snd.snd.snd.fst) (v47.snd.snd.snd.snd.snd.snd.fst) (v47.snd.snd.snd.snd.snd.snd.snd.fst))
        (cond ((List.getD (List.getD x20.fst x26.toNat []) x27.toNat ((0 : Int), (0 : Int), (0 : Int))).fst == (2 : Int))
         (cond ((List.getD (List.getD x20.fst x26.toNat []) x27.toNat ((0 : Int), (0 : Int), (0 : Int))).fst == (2 : Int))
          (match J6_18 n ((x20.fst, ())) (x21) (x22) (x23) (x24) (Go.IntKind.i64.wrap (x25 + (1 : Int))) (x26) (x27) with
           | none => none
           | some (Sum.inl v48) =>
            L6_4 n m ((v48.fst.fst, ())) (v48.snd.fst) (v48.snd.snd.fst) (v48.snd.snd.snd.fst) (v48.snd.snd.snd.snd.fst) (v48.snd.snd.snd.snd.snd.fst) (v48.snd.snd.snd.snd.snd.snd.fst) (v48.snd.snd.snd.snd.snd.snd.snd.fst))
          (match J6_18 n ((x20.fst, ())) (x21) (x22) (x23) (x24) (x25) (x26) (x27) with
           | none => none
           | some (Sum.inl v49) =>
            L6_4 n m ((v49.fst.fst, ())) (v49.snd.fst) (v49.snd.snd.fst) (v49.snd.snd.snd.fst) (v49.snd.snd.snd.snd.fst) (v49.snd.snd.snd.snd.snd.fst) (v49.snd.snd.snd.snd.snd.snd.fst) (v49.snd.snd.snd.snd.snd.snd.snd.fst)))
         (cond ((List.getD (List.getD x20.fst x26.toNat []) x27.toNat ((0 : Int), (0 : Int), (0 : Int))).fst == (5 : Int))
          (match J6_18 n ((x20.fst, ())) (x21) (x22) (x23) (x24) (Go.IntKind.i64.wrap (x25 + (1 : Int))) (x26) (x27) with
           | none => none
           | some (Sum.inl v50) =>
            L6_4 n m ((v50.fst.fst, ())) (v50.snd.fst) (v50.snd.snd.fst) (v50.snd.snd.snd.fst) (v50.snd.snd.snd.snd.fst) (v50.snd.snd.snd.snd.snd.fst) (v50.snd.snd.snd.snd.snd.snd.fst) (v50.snd.snd.snd.snd.snd.snd.snd.fst))
          (match J6_18 n ((x20.fst, ())) (x21) (x22) (x23) (x24) (x25) (x26) (x27) with
           | none => none
           | some (Sum.inl v51) =>
            L6_4 n m ((v51.fst.fst, ())) (v51.snd.fst) (v51.snd.snd.fst) (v51.snd.snd.snd.fst) (v51.snd.snd.snd.snd.fst) (v51.snd.snd.snd.snd.snd.fst) (v51.snd.snd.snd.snd.snd.snd.fst) (v51.snd.snd.snd.snd.snd.snd.snd.fst)))))))
     else none
     else none
     else none
     else none)
    (some (Sum.inl ((x20.fst, ()), x21, x22, x23, x24, x25, x26, ())))
    else none
    else none
def L6_2 (n : Nat) : Nat → List (List (Int × Int × Int)) × Unit → List (List Int × List (List Int)) → Int → Int → Int → Int → Int → Option (odens [((.exit 2), [(3, (.b 33 [(.v true yP)])), (4, (.c false (.o (.rs 48 yX)))), (5, kI), (6, kI), (7, kI), (8, kI)])])
  | 0, _, _, _, _, _, _, _ => none
  | m + 1, x13, x14, x15, x16, x17, x18, x19 =>
    cond (Decidable.decide (x19 < (↑(List.length x13.fst) : Int)))
    (match L6_4 n n ((x13.fst, ())) (x14) (x15) (x16) (x17) (x18) (x19) ((0 : Int)) with
     | none => none
     | some (Sum.inl v52) =>
      L6_2 n m ((v52.fst.fst, ())) (v52.snd.fst) (v52.snd.snd.fst) (v52.snd.snd.snd.fst) (v52.snd.snd.snd.snd.fst) (v52.snd.snd.snd.snd.snd.fst) (Go.IntKind.i64.wrap (v52.snd.snd.snd.snd.snd.snd.fst + (1 : Int))))
    (some (Sum.inl ((x13.fst, ()), x14, x15, x16, x17, x18, ())))
def L6_7 (n : Nat) : Nat → List (List (Int × Int × Int)) × Unit → List (List Int × List (List Int)) → Int → Int → Int → Int → Option (odens [((.exit 7), [(3, (.b 33 [(.v true yP)])), (4, (.c false (.o (.rs 48 yX)))), (5, kI), (6, kI)])])
  | 0, _, _, _, _, _, _ => none
  | m + 1, x54, x55, x56, x57, x58, x59 =>
    cond (Decidable.decide (x59 > (0 : Int)))
    (L6_7 n m ((x54.fst, ())) (x55) (Go.IntKind.i64.wrap (x56 * Go.IntKind.i64.wrap (x58 + (1 : Int)))) (x57) (x58) (Go.IntKind.i64.wrap (x59 - (1 : Int))))
    (some (Sum.inl ((x54.fst, ()), x55, x56, x57, ())))
def L6_0 (n : Nat) : Nat → List (List (Int × Int × Int)) × Unit → List (List Int × List (List Int)) → Int → Int → Option (odens [((.exit 0), [(4, (.c false (.o (.rs 48 yX)))), (5, kI)])])
  | 0, _, _, _, _ => none
  | m + 1, x9, x10, x11, x12 =>
    cond (Decidable.decide (x12 < (3 : Int)))
    (match L6_2 n n ((x9.fst, ())) (x10) (x11) (x12) ((0 : Int)) ((0 : Int)) ((0 : Int)) with
     | none => none
     | some (Sum.inl v53) =>
      match L6_7 n n ((v53.fst.fst, ())) (v53.snd.fst) (v53.snd.snd.fst) (v53.snd.snd.snd.fst) (v53.snd.snd.snd.snd.fst) (v53.snd.snd.snd.snd.snd.fst) with
      | none => none
      | some (Sum.inl v60) =>
       L6_0 n m ((v60.fst.fst, ())) (v60.snd.fst) (v60.snd.snd.fst) (Go.IntKind.i64.wrap (v60.snd.snd.snd.fst + (1 : Int))))
    (some (Sum.inl (x10, x11, ())))
def J6_7 (n : Nat) (x7 : List (List (Int × Int × Int)) × Unit) (x8 : List (List Int × List (List Int))) : Option (odens [(.ret, [(2, kB)])]) :=
    match L6_0 n n ((x7.fst, ())) (x8) ((1 : Int)) ((0 : Int)) with
    | none => none
    | some (Sum.inl v61) =>
     some (Sum.inl (Decidable.decide ((↑(List.length v61.fst) : Int) ≤ v61.snd.fst), ()))
def F6 (n : Nat) (a0 : List Int) : Option (rdens [.c false (.v true (.rs 5 (.int .u8)))] [.c false (.v true .bool)]) :=
  cond (Decidable.decide ((↑a0.length : Int) > (1048576 : Int)))
  (some (Bool.true, ()))
  ((F33 n (a0)).bind fun y1 =>
   (F34 n (y1.fst)).bind fun y2 =>
   (F35 n (y1.fst)).bind fun y3 =>
   cond ((↑(List.length y2.fst) : Int) != (↑(List.length y3.fst) : Int))
   ((F35 n (y1.fst)).bind fun y4 =>
    some ((↑(List.length y2.fst) : Int) == (↑(List.length y4.fst) : Int), ()))
   ((F36 n (y1.fst)).bind fun y5 =>
    cond (!y5.fst)
    ((F35 n (y1.fst)).bind fun y6 =>
     some ((↑(List.length y2.fst) : Int) == (↑(List.length y6.fst) : Int), ()))
    (match J6_7 n ((y1.fst, ())) (y2.fst) with
     | none => none
     | some (Sum.inl v62) =>
      some (v62.fst, ()))))
noncomputable def con6 (n : Nat) : Con := conOf [.c false (.v true (.rs 5 (.int .u8)))] [.c false (.v true .bool)] fun x => F6 n x.1
noncomputable def tb6 (n : Nat) : Tb := ⟨tiOf Try.prog, conL [(33, con33 n), (34, con34 n), (35, con35 n), (36, con36 n)], n, [], 97, lpL [(4, ⟨[(3, (.b 33 [(.v true yP)])), (4, (.c false (.o (.rs 48 yX)))), (5, kI), (6, kI), (7, kI), (8, kI), (9, kI), (10, kI)], [((.exit 4), [(3, (.b 33 [(.v true yP)])), (4, (.c false (.o (.rs 48 yX)))), (5, kI), (6, kI), (7, kI), (8, kI), (9, kI)])], fun m v => L6_4 n m v.1 v.2.1 v.2.2.1 v.2.2.2.1 v.2.2.2.2.1 v.2.2.2.2.2.1 v.2.2.2.2.2.2.1 v.2.2.2.2.2.2.2.1⟩), (2, ⟨[(3, (.b 33 [(.v true yP)])), (4, (.c false (.o (.rs 48 yX)))), (5, kI), (6, kI), (7, kI), (8, kI), (9, kI)], [((.exit 2), [(3, (.b 33 [(.v true yP)])), (4, (.c false (.o (.rs 48 yX)))), (5, kI), (6, kI), (7, kI), (8, kI)])], fun m v => L6_2 n m v.1 v.2.1 v.2.2.1 v.2.2.2.1 v.2.2.2.2.1 v.2.2.2.2.2.1 v.2.2.2.2.2.2.1⟩), (7, ⟨[(3, (.b 33 [(.v true yP)])), (4, (.c false (.o (.rs 48 yX)))), (5, kI), (6, kI), (7, kI), (8, kI)], [((.exit 7), [(3, (.b 33 [(.v true yP)])), (4, (.c false (.o (.rs 48 yX)))), (5, kI), (6, kI)])], fun m v => L6_7 n m v.1 v.2.1 v.2.2.1 v.2.2.2.1 v.2.2.2.2.1 v.2.2.2.2.2.1⟩), (0, ⟨[(3, (.b 33 [(.v true yP)])), (4, (.c false (.o (.rs 48 yX)))), (5, kI), (6, kI)], [((.exit 0), [(4, (.c false (.o (.rs 48 yX)))), (5, kI)])], fun m v => L6_0 n m v.1 v.2.1 v.2.2.1 v.2.2.2.1⟩)], ctL [(18, ⟨[(3, (.b 33 [(.v true yP)])), (4, (.c false (.o (.rs 48 yX)))), (5, kI), (6, kI), (7, kI), (8, kI), (9, kI), (10, kI)], [(.normal, [(3, (.b 33 [(.v true yP)])), (4, (.c false (.o (.rs 48 yX)))), (5, kI), (6, kI), (7, kI), (8, kI), (9, kI), (10, kI)])], fun v => J6_18 n v.1 v.2.1 v.2.2.1 v.2.2.2.1 v.2.2.2.2.1 v.2.2.2.2.2.1 v.2.2.2.2.2.2.1 v.2.2.2.2.2.2.2.1⟩), (7, ⟨[(3, (.b 33 [(.v true yP)])), (4, (.c false (.o (.rs 48 yX))))], [(.ret, [(2, kB)])], fun v => J6_7 n v.1 v.2.1⟩)], [], true⟩
noncomputable def code6 : Code := Try.f6.body.getD .skip
theorem tb6_ok (n : Nat) : (tb6 n).ok Try.prog := tbOk mixed (⟨con33_ok n, ⟨con34_ok n, ⟨con35_ok n, ⟨con36_ok n, trivial⟩⟩⟩⟩)
theorem lp6_4 (n : Nat) : LpAt (tb6 n) (loopBody code6 4) 4 := lpAt rfl (fun _ => by kernel_rfl) (fun _ _ => by kernel_rfl)
theorem lp6_2 (n : Nat) : LpAt (tb6 n) (loopBody code6 2) 2 := lpAt rfl (fun _ => by kernel_rfl) (fun _ _ => by kernel_rfl)
theorem lp6_7 (n : Nat) : LpAt (tb6 n) (loopBody code6 7) 7 := lpAt rfl (fun _ => by kernel_rfl) (fun _ _ => by kernel_rfl)
theorem lp6_0 (n : Nat) : LpAt (tb6 n) (loopBody code6 0) 0 := lpAt rfl (fun _ => by kernel_rfl) (fun _ _ => by kernel_rfl)
theorem blocks6 : blocks code6 = [(0, .loop (loopBody code6 0)), (1, blockBody code6 1), (2, .loop (loopBody code6 2)), (3, blockBody code6 3), (4, .loop (loopBody code6 4)), (5, blockBody code6 5), (6, blockBody code6 6), (7, .loop (loopBody code6 7)), (8, blockBody code6 8)] := by kernel_rfl
theorem ct6_7 (n : Nat) : CtOk (tb6 n) (sec code6 6).2 ⟨[(3, (.b 33 [(.v true yP)])), (4, (.c false (.o (.rs 48 yX))))], [(.ret, [(2, kB)])], fun v => J6_7 n v.1 v.2.1⟩ := fun _ => by kernel_rfl
theorem ct6_18 (n : Nat) : CtOk (tb6 n) (sec code6 25).2 ⟨[(3, (.b 33 [(.v true yP)])), (4, (.c false (.o (.rs 48 yX)))), (5, kI), (6, kI), (7, kI), (8, kI), (9, kI), (10, kI)], [(.normal, [(3, (.b 33 [(.v true yP)])), (4, (.c false (.o (.rs 48 yX)))), (5, kI), (6, kI), (7, kI), (8, kI), (9, kI), (10, kI)])], fun v => J6_18 n v.1 v.2.1 v.2.2.1 v.2.2.2.1 v.2.2.2.2.1 v.2.2.2.2.2.1 v.2.2.2.2.2.2.1 v.2.2.2.2.2.2.2.1⟩ := fun _ => by kernel_rfl
theorem secs6 : seconds code6 = [(some 1, (sec code6 0).2), (some 3, (sec code6 1).2), (none, (sec code6 2).2), (none, (sec code6 3).2), (some 4, (sec code6 4).2), (some 5, (sec code6 5).2), (some 7, (sec code6 6).2), (none, (sec code6 7).2), (none, (sec code6 8).2), (some 8, (sec code6 9).2), (some 33, (sec code6 10).2), (some 9, (sec code6 11).2), (some 11, (sec code6 12).2), (none, (sec code6 13).2), (some 10, (sec code6 14).2), (some 12, (sec code6 15).2), (some 13, (sec code6 16).2), (some 30, (sec code6 17).2), (some 14, (sec code6 18).2), (some 16, (sec code6 19).2), (none, (sec code6 20).2), (some 15, (sec code6 21).2), (some 17, (sec code6 22).2), (some 19, (sec code6 23).2), (none, (sec code6 24).2), (some 18, (sec code6 25).2), (some 20, (sec code6 26).2), (some 21, (sec code6 27).2), (none, (sec code6 28).2), (some 22, (sec code6 29).2), (none, (sec code6 30).2), (none, (sec code6 31).2), (none, (sec code6 32).2), (some 26, (sec code6 33).2), (none, (sec code6 34).2), (none, (sec code6 35).2), (some 32, (sec code6 36).2), (none, (sec code6 37).2), (some 31, (sec code6 38).2), (none, (sec code6 39).2)] := by kernel_rfl
theorem la6 (n : Nat) : LpAll (tb6 n) code6 := lpAll blocks6 (bl_loop (lp6_0 n) (bl_none rfl (bl_loop (lp6_2 n) (bl_none rfl (bl_loop (lp6_4 n) (bl_none rfl (bl_none rfl (bl_loop (lp6_7 n) (bl_none rfl (bl_nil)))))))))) secs6 (cs_none rfl (cs_none rfl (cs_none rfl (cs_none rfl (cs_none rfl (cs_none rfl (cs_one rfl (ct6_7 n) (cs_none rfl (cs_none rfl (cs_none rfl (cs_none rfl (cs_none rfl (cs_none rfl (cs_none rfl (cs_none rfl (cs_none rfl (cs_none rfl (cs_none rfl (cs_none rfl (cs_none rfl (cs_none rfl (cs_none rfl (cs_none rfl (cs_none rfl (cs_none rfl (cs_one rfl (ct6_18 n) (cs_none rfl (cs_none rfl (cs_none rfl (cs_none rfl (cs_none rfl (cs_none rfl (cs_none rfl (cs_none rfl (cs_none rfl (cs_none rfl (cs_none rfl (cs_none rfl (cs_none rfl (cs_none rfl (cs_nil))))))))))))))))))))))))))))))))))))))))) (by kernel_rfl)
theorem ev6 (n : Nat) (x : pdens [.c false (.v true (.rs 5 (.int .u8)))]) : evSig (tb6 n) Try.f6 [.c false (.v true (.rs 5 (.int .u8)))] [.c false (.v true .bool)] x = F6 n x.1 := by kernel_rfl
theorem con6_ok (n : Nat) : Con.ok Try.prog 6 (con6 n) := conOf_ok (tb6_ok n) (body_la (by kernel_rfl : Try.f6.body = some code6) (la6 n)) Try.func6 (enters Try.func6 (by kernel_rfl) (by kernel_rfl)) rfl rfl (ev6 n)
end Go.Proofs.Ytdacfaincamliaa.Ev
