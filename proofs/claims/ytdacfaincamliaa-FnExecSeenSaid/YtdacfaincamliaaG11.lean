/- Plain functions that the loaded code comes to, and that it does. Conditions: none. -/
import Derived.Test.YtdacfaincamliaaGN
import Derived.Test.YtdacfaincamliaaGV
import Derived.Test.YtdacfaincamliaaGL
namespace Go.Proofs.Ytdacfaincamliaa.Ev
open Go Go.Proofs
/-! ### loop.example/fathomline/impl.readsOf -/
def J126_7 (n : Nat) (x6 : Int) (x7 : List (Int × Int × Int)) (x8 : Int) (x9 : Int) : Option (odens [(.normal, [(3, kI), (6, (.c false (.v false (.rs 59 yD)))), (7, kI), (8, kI)])]) :=
    some (Sum.inl (x6, x7, x8, Go.IntKind.i64.wrap (x9 + (1 : Int)), ()))
def L126_0 (n : Nat) : Nat → Int → List (Int × Int × Int) → Int → Int → Option (odens [((.exit 0), [(3, kI)])])
  | 0, _, _, _, _ => none
  | m + 1, x1, x2, x3, x4 =>
    cond (Decidable.decide (x4 < x3))
    (if (0 : Int) ≤ x4 then
     if x4 < (↑x2.length : Int) then
     (F121 n (((x2.getD x4.toNat ((0 : Int), (0 : Int), (0 : Int))).fst, (x2.getD x4.toNat ((0 : Int), (0 : Int), (0 : Int))).snd.fst, (x2.getD x4.toNat ((0 : Int), (0 : Int), (0 : Int))).snd.snd))).bind fun y5 =>
     cond (y5.fst)
     (match J126_7 n (Go.IntKind.i64.wrap (x1 + (1 : Int))) (x2) (x3) (x4) with
      | none => none
      | some (Sum.inl v10) =>
       L126_0 n m (v10.fst) (v10.snd.fst) (v10.snd.snd.fst) (v10.snd.snd.snd.fst))
     (match J126_7 n (x1) (x2) (x3) (x4) with
      | none => none
      | some (Sum.inl v11) =>
       L126_0 n m (v11.fst) (v11.snd.fst) (v11.snd.snd.fst) (v11.snd.snd.snd.fst))
     else none
     else none)
    (some (Sum.inl (x1, ())))
def F126 (n : Nat) (a0 : List (Int × Int × Int)) : Option (rdens [.c false (.v false (.rs 59 yD))] [.c false (.v true (.int .i64))]) :=
  match L126_0 n n ((0 : Int)) (a0) ((↑a0.length : Int)) ((0 : Int)) with
  | none => none
  | some (Sum.inl v12) =>
   some (v12.fst, ())
noncomputable def con126 (n : Nat) : Con := conOf [.c false (.v false (.rs 59 yD))] [.c false (.v true (.int .i64))] fun x => F126 n x.1
noncomputable def tb126 (n : Nat) : Tb := ⟨tiOf Try.prog, conL [(121, con121 n)], n, [], 18, lpL [(0, ⟨[(3, kI), (6, (.c false (.v false (.rs 59 yD)))), (7, kI), (8, kI)], [((.exit 0), [(3, kI)])], fun m v => L126_0 n m v.1 v.2.1 v.2.2.1 v.2.2.2.1⟩)], ctL [(7, ⟨[(3, kI), (6, (.c false (.v false (.rs 59 yD)))), (7, kI), (8, kI)], [(.normal, [(3, kI), (6, (.c false (.v false (.rs 59 yD)))), (7, kI), (8, kI)])], fun v => J126_7 n v.1 v.2.1 v.2.2.1 v.2.2.2.1⟩)], [], true⟩
noncomputable def code126 : Code := Try.f126.body.getD .skip
theorem tb126_ok (n : Nat) : (tb126 n).ok Try.prog := tbOk mixed (⟨con121_ok n, trivial⟩)
theorem lp126_0 (n : Nat) : LpAt (tb126 n) (loopBody code126 0) 0 := lpAt rfl (fun _ => by kernel_rfl) (fun _ _ => by kernel_rfl)
theorem blocks126 : blocks code126 = [(0, .loop (loopBody code126 0)), (1, blockBody code126 1)] := by kernel_rfl
theorem ct126_7 (n : Nat) : CtOk (tb126 n) (sec code126 6).2 ⟨[(3, kI), (6, (.c false (.v false (.rs 59 yD)))), (7, kI), (8, kI)], [(.normal, [(3, kI), (6, (.c false (.v false (.rs 59 yD)))), (7, kI), (8, kI)])], fun v => J126_7 n v.1 v.2.1 v.2.2.1 v.2.2.2.1⟩ := fun _ => by kernel_rfl
theorem secs126 : seconds code126 = [(some 1, (sec code126 0).2), (some 2, (sec code126 1).2), (some 8, (sec code126 2).2), (some 3, (sec code126 3).2), (none, (sec code126 4).2), (some 4, (sec code126 5).2), (some 7, (sec code126 6).2), (some 5, (sec code126 7).2), (none, (sec code126 8).2), (none, (sec code126 9).2)] := by kernel_rfl
theorem la126 (n : Nat) : LpAll (tb126 n) code126 := lpAll blocks126 (bl_loop (lp126_0 n) (bl_none rfl (bl_nil))) secs126 (cs_none rfl (cs_none rfl (cs_none rfl (cs_none rfl (cs_none rfl (cs_none rfl (cs_one rfl (ct126_7 n) (cs_none rfl (cs_none rfl (cs_none rfl (cs_nil))))))))))) (by kernel_rfl)
theorem ev126 (n : Nat) (x : pdens [.c false (.v false (.rs 59 yD))]) : evSig (tb126 n) Try.f126 [.c false (.v false (.rs 59 yD))] [.c false (.v true (.int .i64))] x = F126 n x.1 := by kernel_rfl
theorem con126_ok (n : Nat) : Con.ok Try.prog 126 (con126 n) := conOf_ok (tb126_ok n) (body_la (by kernel_rfl : Try.f126.body = some code126) (la126 n)) Try.func126 (enters Try.func126 (by kernel_rfl) (by kernel_rfl)) rfl rfl (ev126 n)
/-! ### loop.example/fathomline/impl.ProgReads -/
def L88_0 (n : Nat) : Nat → Int → List (List (Int × Int × Int)) → Int → Int → Option (odens [((.exit 0), [(3, kI)])])
  | 0, _, _, _, _ => none
  | m + 1, x2, x3, x4, x5 =>
    cond (Decidable.decide (x5 < x4))
    (if (0 : Int) ≤ x5 then
     if x5 < (↑x3.length : Int) then
     (F126 n (x3.getD x5.toNat [])).bind fun y6 =>
     L88_0 n m (Go.IntKind.i64.wrap (x2 + y6.fst)) (x3) (x4) (Go.IntKind.i64.wrap (x5 + (1 : Int)))
     else none
     else none)
    (some (Sum.inl (x2, ())))
def F88 (n : Nat) (a0 : List (List (Int × Int × Int))) : Option (rdens [.c true (.v false yP)] [.c false (.v true (.int .i64))]) :=
  (F69 n (a0)).bind fun y1 =>
  cond (!y1.fst)
  (some ((-1 : Int), ()))
  (match L88_0 n n ((0 : Int)) (a0) ((↑a0.length : Int)) ((0 : Int)) with
   | none => none
   | some (Sum.inl v7) =>
    some (v7.fst, ()))
noncomputable def con88 (n : Nat) : Con := conOf [.c true (.v false yP)] [.c false (.v true (.int .i64))] fun x => F88 n x.1
noncomputable def tb88 (n : Nat) : Tb := ⟨tiOf Try.prog, conL [(69, con69 n), (126, con126 n)], n, [], 22, lpL [(0, ⟨[(3, kI), (10, (.c false (.v false yP))), (11, kI), (12, kI)], [((.exit 0), [(3, kI)])], fun m v => L88_0 n m v.1 v.2.1 v.2.2.1 v.2.2.2.1⟩)], ctL [], [], true⟩
noncomputable def code88 : Code := Try.f88.body.getD .skip
theorem tb88_ok (n : Nat) : (tb88 n).ok Try.prog := tbOk mixed (⟨con69_ok n, ⟨con126_ok n, trivial⟩⟩)
theorem lp88_0 (n : Nat) : LpAt (tb88 n) (loopBody code88 0) 0 := lpAt rfl (fun _ => by kernel_rfl) (fun _ _ => by kernel_rfl)
theorem blocks88 : blocks code88 = [(0, .loop (loopBody code88 0)), (1, blockBody code88 1)] := by kernel_rfl
theorem la88 (n : Nat) : LpAll (tb88 n) code88 := lpAll blocks88 (bl_loop (lp88_0 n) (bl_none rfl (bl_nil))) rfl (cs_no fun _ => rfl) (by kernel_rfl)
theorem ev88 (n : Nat) (x : pdens [.c true (.v false yP)]) : evSig (tb88 n) Try.f88 [.c true (.v false yP)] [.c false (.v true (.int .i64))] x = F88 n x.1 := by kernel_rfl
theorem con88_ok (n : Nat) : Con.ok Try.prog 88 (con88 n) := conOf_ok (tb88_ok n) (body_la (by kernel_rfl : Try.f88.body = some code88) (la88 n)) Try.func88 (enters Try.func88 (by kernel_rfl) (by kernel_rfl)) rfl rfl (ev88 n)
/-! ### loop.example/fathomline/impl.valsOk$1 -/
def F128 (n : Nat) (a0 : Int) : Option (rdens [.c false (.v true (.int .i64))] [.c false (.v true .bool)]) :=
  (F86 n (a0) ((0 : Int)) ((3 : Int))).bind fun y1 =>
  some (!y1.fst, ())
noncomputable def con128 (n : Nat) : Con := conOf [.c false (.v true (.int .i64))] [.c false (.v true .bool)] fun x => F128 n x.1
noncomputable def tb128 (n : Nat) : Tb := ⟨tiOf Try.prog, conL [(86, con86 n)], n, [], 6, lpL [], ctL [], [], true⟩
noncomputable def code128 : Code := Try.f128.body.getD .skip
theorem tb128_ok (n : Nat) : (tb128 n).ok Try.prog := tbOk mixed (⟨con86_ok n, trivial⟩)
theorem blocks128 : blocks code128 = [] := by kernel_rfl
theorem la128 (n : Nat) : LpAll (tb128 n) code128 := lpAll blocks128 (bl_nil) rfl (cs_no fun _ => rfl) (by kernel_rfl)
theorem ev128 (n : Nat) (x : pdens [.c false (.v true (.int .i64))]) : evSig (tb128 n) Try.f128 [.c false (.v true (.int .i64))] [.c false (.v true .bool)] x = F128 n x.1 := by kernel_rfl
theorem con128_ok (n : Nat) : Con.ok Try.prog 128 (con128 n) := conOf_ok (tb128_ok n) (body_la (by kernel_rfl : Try.f128.body = some code128) (la128 n)) Try.func128 (enters Try.func128 (by kernel_rfl) (by kernel_rfl)) rfl rfl (ev128 n)
/-! ### slices.IndexFunc[[]int,int] -/
def L151_0 (n : Nat) : Nat → List Int → Unit → Int → Int → Option (odens [(.ret, [(4, kI)]), ((.exit 0), [])])
  | 0, _, _, _, _ => none
  | m + 1, x1, x2, x3, x4 =>
    cond (Decidable.decide (x4 < x3))
    (if (0 : Int) ≤ x4 then
     if x4 < (↑x1.length : Int) then
     (F128 n (x1.getD x4.toNat (0 : Int))).bind fun y5 =>
     cond (y5.fst)
     (some (Sum.inl (x4, ())))
     (L151_0 n m (x1) (()) (x3) (Go.IntKind.i64.wrap (x4 + (1 : Int))))
     else none
     else none)
    (some (Sum.inr (Sum.inl (()))))
def F151 (n : Nat) (a0 : List Int) (a1 : Unit) : Option (rdens [.c false (.v false (.rs 3 (.int .i64))), .c false (.g 128)] [.c false (.v true (.int .i64))]) :=
  match L151_0 n n (a0) (()) ((↑a0.length : Int)) ((0 : Int)) with
  | none => none
  | some (Sum.inl v6) =>
   some (v6.fst, ())
  | some (Sum.inr (Sum.inl v7)) =>
   some ((-1 : Int), ())
noncomputable def con151 (n : Nat) : Con := conOf [.c false (.v false (.rs 3 (.int .i64))), .c false (.g 128)] [.c false (.v true (.int .i64))] fun x => F151 n x.1 x.2.1
noncomputable def tb151 (n : Nat) : Tb := ⟨tiOf Try.prog, conL [(128, con128 n)], n, [], 19, lpL [(0, ⟨[(0, (.c false (.v false (.rs 3 (.int .i64))))), (1, (.c false (.g 128))), (7, kI), (8, kI)], [(.ret, [(4, kI)]), ((.exit 0), [])], fun m v => L151_0 n m v.1 v.2.1 v.2.2.1 v.2.2.2.1⟩)], ctL [], [], true⟩
noncomputable def code151 : Code := Try.f151.body.getD .skip
theorem tb151_ok (n : Nat) : (tb151 n).ok Try.prog := tbOk mixed (⟨con128_ok n, trivial⟩)
theorem lp151_0 (n : Nat) : LpAt (tb151 n) (loopBody code151 0) 0 := lpAt rfl (fun _ => by kernel_rfl) (fun _ _ => by kernel_rfl)
theorem blocks151 : blocks code151 = [(0, .loop (loopBody code151 0)), (1, blockBody code151 1)] := by kernel_rfl
theorem la151 (n : Nat) : LpAll (tb151 n) code151 := lpAll blocks151 (bl_loop (lp151_0 n) (bl_none rfl (bl_nil))) rfl (cs_no fun _ => rfl) (by kernel_rfl)
theorem ev151 (n : Nat) (x : pdens [.c false (.v false (.rs 3 (.int .i64))), .c false (.g 128)]) : evSig (tb151 n) Try.f151 [.c false (.v false (.rs 3 (.int .i64))), .c false (.g 128)] [.c false (.v true (.int .i64))] x = F151 n x.1 x.2.1 := by kernel_rfl
theorem con151_ok (n : Nat) : Con.ok Try.prog 151 (con151 n) := conOf_ok (tb151_ok n) (body_la (by kernel_rfl : Try.f151.body = some code151) (la151 n)) Try.func151 (enters Try.func151 (by kernel_rfl) (by kernel_rfl)) rfl rfl (ev151 n)
/-! ### slices.ContainsFunc[[]int,int] -/
def F127 (n : Nat) (a0 : List Int) (a1 : Unit) : Option (rdens [.c false (.v false (.rs 3 (.int .i64))), .c false (.g 128)] [.c false (.v true .bool)]) :=
  (F151 n (a0) (())).bind fun y1 =>
  some (Decidable.decide (y1.fst ≥ (0 : Int)), ())
noncomputable def con127 (n : Nat) : Con := conOf [.c false (.v false (.rs 3 (.int .i64))), .c false (.g 128)] [.c false (.v true .bool)] fun x => F127 n x.1 x.2.1
noncomputable def tb127 (n : Nat) : Tb := ⟨tiOf Try.prog, conL [(151, con151 n), (128, con128 n)], n, [], 9, lpL [], ctL [], [], true⟩
noncomputable def code127 : Code := Try.f127.body.getD .skip
theorem tb127_ok (n : Nat) : (tb127 n).ok Try.prog := tbOk mixed (⟨con151_ok n, ⟨con128_ok n, trivial⟩⟩)
theorem blocks127 : blocks code127 = [] := by kernel_rfl
theorem la127 (n : Nat) : LpAll (tb127 n) code127 := lpAll blocks127 (bl_nil) rfl (cs_no fun _ => rfl) (by kernel_rfl)
theorem ev127 (n : Nat) (x : pdens [.c false (.v false (.rs 3 (.int .i64))), .c false (.g 128)]) : evSig (tb127 n) Try.f127 [.c false (.v false (.rs 3 (.int .i64))), .c false (.g 128)] [.c false (.v true .bool)] x = F127 n x.1 x.2.1 := by kernel_rfl
theorem con127_ok (n : Nat) : Con.ok Try.prog 127 (con127 n) := conOf_ok (tb127_ok n) (body_la (by kernel_rfl : Try.f127.body = some code127) (la127 n)) Try.func127 (enters Try.func127 (by kernel_rfl) (by kernel_rfl)) rfl rfl (ev127 n)
/-! ### loop.example/fathomline/impl.valsOk -/
def F89 (n : Nat) (a0 : List Int) : Option (rdens [.c false (.v false (.rs 3 (.int .i64)))] [.c false (.v true .bool)]) :=
  (F127 n (a0) (())).bind fun y1 =>
  some (!y1.fst, ())
noncomputable def con89 (n : Nat) : Con := conOf [.c false (.v false (.rs 3 (.int .i64)))] [.c false (.v true .bool)] fun x => F89 n x.1
noncomputable def tb89 (n : Nat) : Tb := ⟨tiOf Try.prog, conL [(127, con127 n)], n, [], 6, lpL [], ctL [], [], true⟩
noncomputable def code89 : Code := Try.f89.body.getD .skip
theorem tb89_ok (n : Nat) : (tb89 n).ok Try.prog := tbOk mixed (⟨con127_ok n, trivial⟩)
theorem blocks89 : blocks code89 = [] := by kernel_rfl
theorem la89 (n : Nat) : LpAll (tb89 n) code89 := lpAll blocks89 (bl_nil) rfl (cs_no fun _ => rfl) (by kernel_rfl)
theorem ev89 (n : Nat) (x : pdens [.c false (.v false (.rs 3 (.int .i64)))]) : evSig (tb89 n) Try.f89 [.c false (.v false (.rs 3 (.int .i64)))] [.c false (.v true .bool)] x = F89 n x.1 := by kernel_rfl
theorem con89_ok (n : Nat) : Con.ok Try.prog 89 (con89 n) := conOf_ok (tb89_ok n) (body_la (by kernel_rfl : Try.f89.body = some code89) (la89 n)) Try.func89 (enters Try.func89 (by kernel_rfl) (by kernel_rfl)) rfl rfl (ev89 n)
/-! ### loop.example/fathomline/impl.SeenOk -/
def F47 (n : Nat) (a0 : List (List (Int × Int × Int))) (a1 : List Int × List Int) : Option (rdens [.c true (.v false yP), .c true (.v false (.pair (.rs 3 (.int .i64)) (.rs 3 (.int .i64))))] [.c false (.v true .bool)]) :=
  (F69 n (a0)).bind fun y1 =>
  cond (y1.fst)
  ((F88 n (a0)).bind fun y2 =>
   cond ((↑(List.length a1.fst) : Int) == y2.fst)
   (cond ((↑(List.length a1.snd) : Int) == (3 : Int))
    ((F89 n (a1.fst)).bind fun y3 =>
     cond (y3.fst)
     ((F89 n (a1.snd)).bind fun y4 =>
      some (y4.fst, ()))
     (some (Bool.false, ())))
    (some (Bool.false, ())))
   (some (Bool.false, ())))
  (some (Bool.false, ()))
noncomputable def con47 (n : Nat) : Con := conOf [.c true (.v false yP), .c true (.v false (.pair (.rs 3 (.int .i64)) (.rs 3 (.int .i64))))] [.c false (.v true .bool)] fun x => F47 n x.1 x.2.1
noncomputable def tb47 (n : Nat) : Tb := ⟨tiOf Try.prog, conL [(69, con69 n), (88, con88 n), (89, con89 n)], n, [], 31, lpL [], ctL [], [], true⟩
noncomputable def code47 : Code := Try.f47.body.getD .skip
theorem tb47_ok (n : Nat) : (tb47 n).ok Try.prog := tbOk mixed (⟨con69_ok n, ⟨con88_ok n, ⟨con89_ok n, trivial⟩⟩⟩)
theorem blocks47 : blocks code47 = [] := by kernel_rfl
theorem la47 (n : Nat) : LpAll (tb47 n) code47 := lpAll blocks47 (bl_nil) rfl (cs_no fun _ => rfl) (by kernel_rfl)
theorem ev47 (n : Nat) (x : pdens [.c true (.v false yP), .c true (.v false (.pair (.rs 3 (.int .i64)) (.rs 3 (.int .i64))))]) : evSig (tb47 n) Try.f47 [.c true (.v false yP), .c true (.v false (.pair (.rs 3 (.int .i64)) (.rs 3 (.int .i64))))] [.c false (.v true .bool)] x = F47 n x.1 x.2.1 := by kernel_rfl
theorem con47_ok (n : Nat) : Con.ok Try.prog 47 (con47 n) := conOf_ok (tb47_ok n) (body_la (by kernel_rfl : Try.f47.body = some code47) (la47 n)) Try.func47 (enters Try.func47 (by kernel_rfl) (by kernel_rfl)) rfl rfl (ev47 n)
/-! ### loop.example/fathomline/laws.FnExecSeen -/
def J11_8 (n : Nat) (x5 : List (List (Int × Int × Int)) × Unit) (x6 : (List Int × List (List Int)) × Unit) (x7 : List Int × List Int × Unit) (x8 : Bool) : Option (odens [(.ret, [(2, kB)])]) :=
    (F31 n (x5.fst) ((x6.fst.fst, x6.fst.snd))).bind fun y9 =>
    cond (x8 == y9.fst)
    (cond (!x8)
     (some (Sum.inl (Bool.true, ())))
     ((F47 n (x5.fst) ((x7.fst, x7.snd.fst))).bind fun y10 =>
      some (Sum.inl (y10.fst, ()))))
    (some (Sum.inl (Bool.false, ())))
def F11 (n : Nat) (a0 : List Int) : Option (rdens [.c false (.v true (.rs 5 (.int .u8)))] [.c false (.v true .bool)]) :=
  cond (Decidable.decide ((↑a0.length : Int) > (1048576 : Int)))
  (some (Bool.true, ()))
  ((F38 n (a0)).bind fun y1 =>
   (F39 n (y1.fst) ((y1.snd.fst.fst, y1.snd.fst.snd))).bind fun y2 =>
   (F40 n (y1.fst) ((y1.snd.fst.fst, y1.snd.fst.snd))).bind fun y3 =>
   cond (!y3.snd.fst == y2.snd.fst)
   (some (Bool.false, ()))
   ((F41 n ((y3.fst.fst, y3.fst.snd)) ((y2.fst.fst, y2.fst.snd))).bind fun y4 =>
    cond (!y4.fst)
    (some (Bool.false, ()))
    (match J11_8 n ((y1.fst, ())) (((y1.snd.fst.fst, y1.snd.fst.snd), ())) ((y3.fst.fst, y3.fst.snd, ())) (y3.snd.fst) with
     | none => none
     | some (Sum.inl v11) =>
      some (v11.fst, ()))))
noncomputable def con11 (n : Nat) : Con := conOf [.c false (.v true (.rs 5 (.int .u8)))] [.c false (.v true .bool)] fun x => F11 n x.1
noncomputable def tb11 (n : Nat) : Tb := ⟨tiOf Try.prog, conL [(38, con38 n), (39, con39 n), (40, con40 n), (41, con41 n), (31, con31 n), (47, con47 n)], n, [], 52, lpL [], ctL [(8, ⟨[(3, (.b 33 [(.v true yP)])), (4, (.b 48 [(.v true yX)])), (7, (.b 28 [(.r 3 (.int .i64)), (.r 3 (.int .i64))])), (8, kB)], [(.ret, [(2, kB)])], fun v => J11_8 n v.1 v.2.1 v.2.2.1 v.2.2.2.1⟩)], [], true⟩
noncomputable def code11 : Code := Try.f11.body.getD .skip
theorem tb11_ok (n : Nat) : (tb11 n).ok Try.prog := tbOk mixed (⟨con38_ok n, ⟨con39_ok n, ⟨con40_ok n, ⟨con41_ok n, ⟨con31_ok n, ⟨con47_ok n, trivial⟩⟩⟩⟩⟩⟩)
theorem blocks11 : blocks code11 = [] := by kernel_rfl
theorem ct11_8 (n : Nat) : CtOk (tb11 n) (sec code11 7).2 ⟨[(3, (.b 33 [(.v true yP)])), (4, (.b 48 [(.v true yX)])), (7, (.b 28 [(.r 3 (.int .i64)), (.r 3 (.int .i64))])), (8, kB)], [(.ret, [(2, kB)])], fun v => J11_8 n v.1 v.2.1 v.2.2.1 v.2.2.2.1⟩ := fun _ => by kernel_rfl
theorem secs11 : seconds code11 = [(some 1, (sec code11 0).2), (some 3, (sec code11 1).2), (none, (sec code11 2).2), (none, (sec code11 3).2), (some 4, (sec code11 4).2), (some 5, (sec code11 5).2), (some 6, (sec code11 6).2), (some 8, (sec code11 7).2), (none, (sec code11 8).2), (none, (sec code11 9).2), (none, (sec code11 10).2)] := by kernel_rfl
theorem la11 (n : Nat) : LpAll (tb11 n) code11 := lpAll blocks11 (bl_nil) secs11 (cs_none rfl (cs_none rfl (cs_none rfl (cs_none rfl (cs_none rfl (cs_none rfl (cs_none rfl (cs_one rfl (ct11_8 n) (cs_none rfl (cs_none rfl (cs_none rfl (cs_nil)))))))))))) (by kernel_rfl)
theorem ev11 (n : Nat) (x : pdens [.c false (.v true (.rs 5 (.int .u8)))]) : evSig (tb11 n) Try.f11 [.c false (.v true (.rs 5 (.int .u8)))] [.c false (.v true .bool)] x = F11 n x.1 := by kernel_rfl
theorem con11_ok (n : Nat) : Con.ok Try.prog 11 (con11 n) := conOf_ok (tb11_ok n) (body_la (by kernel_rfl : Try.f11.body = some code11) (la11 n)) Try.func11 (enters Try.func11 (by kernel_rfl) (by kernel_rfl)) rfl rfl (ev11 n)
end Go.Proofs.Ytdacfaincamliaa.Ev
