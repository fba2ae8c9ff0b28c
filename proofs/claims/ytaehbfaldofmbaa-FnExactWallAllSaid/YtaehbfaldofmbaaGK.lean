/- Plain functions that the loaded code comes to, and that it does. Conditions: none. -/
import Derived.Test.YtaehbfaldofmbaaGA
namespace Go.Proofs.Ytaehbfaldofmbaa.Ev
open Go Go.Proofs
/-! ### loop.example/fathomline/laws.markDoS -/
def L128_0 (n : Nat) : Nat → List (Int × Int × Int) → Int → Int → Option (odens [((.exit 0), [(0, (.c false (.r 52 (.pair (.int .i64) (.pair (.int .i64) (.int .i64)))))), (1, (.c false (.v true (.int .i64))))])])
  | 0, _, _, _ => none
  | m + 1, x1, x2, x3 =>
    cond (Decidable.decide (x3 < (↑x1.length : Int)))
    (if (0 : Int) ≤ x3 then
     if x3 < (↑x1.length : Int) then
     if x3.toNat < x1.length then
     if (0 : Int) ≤ x3 then
     if x3 < (↑(x1.set x3.toNat (x2, (x1.getD x3.toNat ((0 : Int), (0 : Int), (0 : Int))).snd.fst, (x1.getD x3.toNat ((0 : Int), (0 : Int), (0 : Int))).snd.snd)).length : Int) then
     if x3.toNat < (x1.set x3.toNat (x2, (x1.getD x3.toNat ((0 : Int), (0 : Int), (0 : Int))).snd.fst, (x1.getD x3.toNat ((0 : Int), (0 : Int), (0 : Int))).snd.snd)).length then
     if (0 : Int) ≤ x3 then
     if x3 < (↑((x1.set x3.toNat (x2, (x1.getD x3.toNat ((0 : Int), (0 : Int), (0 : Int))).snd.fst, (x1.getD x3.toNat ((0 : Int), (0 : Int), (0 : Int))).snd.snd)).set x3.toNat (((x1.set x3.toNat (x2, (x1.getD x3.toNat ((0 : Int), (0 : Int), (0 : Int))).snd.fst, (x1.getD x3.toNat ((0 : Int), (0 : Int), (0 : Int))).snd.snd)).getD x3.toNat ((0 : Int), (0 : Int), (0 : Int))).fst, Go.IntKind.i64.wrap (x2 + (1 : Int)), ((x1.set x3.toNat (x2, (x1.getD x3.toNat ((0 : Int), (0 : Int), (0 : Int))).snd.fst, (x1.getD x3.toNat ((0 : Int), (0 : Int), (0 : Int))).snd.snd)).getD x3.toNat ((0 : Int), (0 : Int), (0 : Int))).snd.snd)).length : Int) then
     if x3.toNat < ((x1.set x3.toNat (x2, (x1.getD x3.toNat ((0 : Int), (0 : Int), (0 : Int))).snd.fst, (x1.getD x3.toNat ((0 : Int), (0 : Int), (0 : Int))).snd.snd)).set x3.toNat (((x1.set x3.toNat (x2, (x1.getD x3.toNat ((0 : Int), (0 : Int), (0 : Int))).snd.fst, (x1.getD x3.toNat ((0 : Int), (0 : Int), (0 : Int))).snd.snd)).getD x3.toNat ((0 : Int), (0 : Int), (0 : Int))).fst, Go.IntKind.i64.wrap (x2 + (1 : Int)), ((x1.set x3.toNat (x2, (x1.getD x3.toNat ((0 : Int), (0 : Int), (0 : Int))).snd.fst, (x1.getD x3.toNat ((0 : Int), (0 : Int), (0 : Int))).snd.snd)).getD x3.toNat ((0 : Int), (0 : Int), (0 : Int))).snd.snd)).length then
     L128_0 n m (((x1.set x3.toNat (x2, (x1.getD x3.toNat ((0 : Int), (0 : Int), (0 : Int))).snd.fst, (x1.getD x3.toNat ((0 : Int), (0 : Int), (0 : Int))).snd.snd)).set x3.toNat (((x1.set x3.toNat (x2, (x1.getD x3.toNat ((0 : Int), (0 : Int), (0 : Int))).snd.fst, (x1.getD x3.toNat ((0 : Int), (0 : Int), (0 : Int))).snd.snd)).getD x3.toNat ((0 : Int), (0 : Int), (0 : Int))).fst, Go.IntKind.i64.wrap (x2 + (1 : Int)), ((x1.set x3.toNat (x2, (x1.getD x3.toNat ((0 : Int), (0 : Int), (0 : Int))).snd.fst, (x1.getD x3.toNat ((0 : Int), (0 : Int), (0 : Int))).snd.snd)).getD x3.toNat ((0 : Int), (0 : Int), (0 : Int))).snd.snd)).set x3.toNat ((((x1.set x3.toNat (x2, (x1.getD x3.toNat ((0 : Int), (0 : Int), (0 : Int))).snd.fst, (x1.getD x3.toNat ((0 : Int), (0 : Int), (0 : Int))).snd.snd)).set x3.toNat (((x1.set x3.toNat (x2, (x1.getD x3.toNat ((0 : Int), (0 : Int), (0 : Int))).snd.fst, (x1.getD x3.toNat ((0 : Int), (0 : Int), (0 : Int))).snd.snd)).getD x3.toNat ((0 : Int), (0 : Int), (0 : Int))).fst, Go.IntKind.i64.wrap (x2 + (1 : Int)), ((x1.set x3.toNat (x2, (x1.getD x3.toNat ((0 : Int), (0 : Int), (0 : Int))).snd.fst, (x1.getD x3.toNat ((0 : Int), (0 : Int), (0 : Int))).snd.snd)).getD x3.toNat ((0 : Int), (0 : Int), (0 : Int))).snd.snd)).getD x3.toNat ((0 : Int), (0 : Int), (0 : Int))).fst, (((x1.set x3.toNat (x2, (x1.getD x3.toNat ((0 : Int), (0 : Int), (0 : Int))).snd.fst, (x1.getD x3.toNat ((0 : Int), (0 : Int), (0 : Int))).snd.snd)).set x3.toNat (((x1.set x3.toNat (x2, (x1.getD x3.toNat ((0 : Int), (0 : Int), (0 : Int))).snd.fst, (x1.getD x3.toNat ((0 : Int), (0 : Int), (0 : Int))).snd.snd)).getD x3.toNat ((0 : Int), (0 : Int), (0 : Int))).fst, Go.IntKind.i64.wrap (x2 + (1 : Int)), ((x1.set x3.toNat (x2, (x1.getD x3.toNat ((0 : Int), (0 : Int), (0 : Int))).snd.fst, (x1.getD x3.toNat ((0 : Int), (0 : Int), (0 : Int))).snd.snd)).getD x3.toNat ((0 : Int), (0 : Int), (0 : Int))).snd.snd)).getD x3.toNat ((0 : Int), (0 : Int), (0 : Int))).snd.fst, Go.IntKind.i64.wrap (Go.IntKind.i64.wrap (x2 + (1 : Int)) + (1 : Int)))) (Go.IntKind.i64.wrap (Go.IntKind.i64.wrap (Go.IntKind.i64.wrap (x2 + (1 : Int)) + (1 : Int)) + (1 : Int))) (Go.IntKind.i64.wrap (x3 + (1 : Int)))
     else none
     else none
     else none
     else none
     else none
     else none
     else none
     else none
     else none)
    (some (Sum.inl (x1, x2, ())))
def F128 (n : Nat) (a0 : List (Int × Int × Int)) (a1 : Int) : Option (rdens [.c false (.o (.rs 52 (.pair (.int .i64) (.pair (.int .i64) (.int .i64))))), .c false (.v true (.int .i64))] [.c false (.v true (.int .i64))]) :=
  match L128_0 n n (a0) (a1) ((0 : Int)) with
  | none => none
  | some (Sum.inl v4) =>
   some (v4.snd.fst, v4.fst, ())
noncomputable def con128 (n : Nat) : Con := conOf [.c false (.o (.rs 52 (.pair (.int .i64) (.pair (.int .i64) (.int .i64))))), .c false (.v true (.int .i64))] [.c false (.v true (.int .i64))] fun x => F128 n x.1 x.2.1
noncomputable def tb128 (n : Nat) : Tb := ⟨tiOf Try.prog, conL [], n, [], 34, lpL [(0, ⟨[(0, (.c false (.r 52 (.pair (.int .i64) (.pair (.int .i64) (.int .i64)))))), (1, (.c false (.v true (.int .i64)))), (5, (.c false (.v true (.int .i64))))], [((.exit 0), [(0, (.c false (.r 52 (.pair (.int .i64) (.pair (.int .i64) (.int .i64)))))), (1, (.c false (.v true (.int .i64))))])], fun m v => L128_0 n m v.1 v.2.1 v.2.2.1⟩)], ctL [], [0], true⟩
noncomputable def code128 : Code := Try.f128.body.getD .skip
theorem tb128_ok (n : Nat) : (tb128 n).ok Try.prog := tbOk mixed (trivial)
theorem lp128_0 (n : Nat) : LpAt (tb128 n) (loopBody code128 0) 0 := lpAt rfl (fun _ => by kernel_rfl) (fun _ _ => by kernel_rfl)
theorem blocks128 : blocks code128 = [(0, .loop (loopBody code128 0)), (1, blockBody code128 1)] := by kernel_rfl
theorem la128 (n : Nat) : LpAll (tb128 n) code128 := lpAll blocks128 (bl_loop (lp128_0 n) (bl_none rfl (bl_nil))) rfl (cs_no fun _ => rfl) (by kernel_rfl)
theorem ev128 (n : Nat) (x : pdens [.c false (.o (.rs 52 (.pair (.int .i64) (.pair (.int .i64) (.int .i64))))), .c false (.v true (.int .i64))]) : evSig (tb128 n) Try.f128 [.c false (.o (.rs 52 (.pair (.int .i64) (.pair (.int .i64) (.int .i64))))), .c false (.v true (.int .i64))] [.c false (.v true (.int .i64))] x = F128 n x.1 x.2.1 := by kernel_rfl
theorem con128_ok (n : Nat) : Con.ok Try.prog 128 (con128 n) := conOf_ok (tb128_ok n) (body_la (by kernel_rfl : Try.f128.body = some code128) (la128 n)) Try.func128 (enters Try.func128 (by kernel_rfl) (by kernel_rfl)) rfl rfl (ev128 n)
/-! ### loop.example/fathomline/laws.markDoSS -/
def L97_0 (n : Nat) : Nat → List (List (Int × Int × Int)) → Int → Int → Option (odens [((.exit 0), [(0, (.c false (.o (.rs 50 (.rs 52 (.pair (.int .i64) (.pair (.int .i64) (.int .i64)))))))), (1, (.c false (.v true (.int .i64))))])])
  | 0, _, _, _ => none
  | m + 1, x1, x2, x3 =>
    cond (Decidable.decide (x3 < (↑x1.length : Int)))
    (if (0 : Int) ≤ x3 then
     if x3 < (↑x1.length : Int) then
     if x3.toNat < x1.length then
     if (List.take x3.toNat x1).length = x3.toNat then
     (F128 n (x1.getD x3.toNat []) (x2)).bind fun y4 =>
     L97_0 n m (List.take x3.toNat x1 ++ y4.snd.fst :: List.drop (x3.toNat + (1 : Nat)) x1) (y4.fst) (Go.IntKind.i64.wrap (x3 + (1 : Int)))
     else none
     else none
     else none
     else none)
    (some (Sum.inl (x1, x2, ())))
def F97 (n : Nat) (a0 : List (List (Int × Int × Int))) (a1 : Int) : Option (rdens [.c false (.o (.rs 50 (.rs 52 (.pair (.int .i64) (.pair (.int .i64) (.int .i64)))))), .c false (.v true (.int .i64))] [.c false (.v true (.int .i64))]) :=
  match L97_0 n n (a0) (a1) ((0 : Int)) with
  | none => none
  | some (Sum.inl v5) =>
   some (v5.snd.fst, v5.fst, ())
noncomputable def con97 (n : Nat) : Con := conOf [.c false (.o (.rs 50 (.rs 52 (.pair (.int .i64) (.pair (.int .i64) (.int .i64)))))), .c false (.v true (.int .i64))] [.c false (.v true (.int .i64))] fun x => F97 n x.1 x.2.1
noncomputable def tb97 (n : Nat) : Tb := ⟨tiOf Try.prog, conL [(128, con128 n)], n, [], 19, lpL [(0, ⟨[(0, (.c false (.o (.rs 50 (.rs 52 (.pair (.int .i64) (.pair (.int .i64) (.int .i64)))))))), (1, (.c false (.v true (.int .i64)))), (5, (.c false (.v true (.int .i64))))], [((.exit 0), [(0, (.c false (.o (.rs 50 (.rs 52 (.pair (.int .i64) (.pair (.int .i64) (.int .i64)))))))), (1, (.c false (.v true (.int .i64))))])], fun m v => L97_0 n m v.1 v.2.1 v.2.2.1⟩)], ctL [], [0], true⟩
noncomputable def code97 : Code := Try.f97.body.getD .skip
theorem tb97_ok (n : Nat) : (tb97 n).ok Try.prog := tbOk mixed (⟨con128_ok n, trivial⟩)
theorem lp97_0 (n : Nat) : LpAt (tb97 n) (loopBody code97 0) 0 := lpAt rfl (fun _ => by kernel_rfl) (fun _ _ => by kernel_rfl)
theorem blocks97 : blocks code97 = [(0, .loop (loopBody code97 0)), (1, blockBody code97 1)] := by kernel_rfl
theorem la97 (n : Nat) : LpAll (tb97 n) code97 := lpAll blocks97 (bl_loop (lp97_0 n) (bl_none rfl (bl_nil))) rfl (cs_no fun _ => rfl) (by kernel_rfl)
theorem ev97 (n : Nat) (x : pdens [.c false (.o (.rs 50 (.rs 52 (.pair (.int .i64) (.pair (.int .i64) (.int .i64)))))), .c false (.v true (.int .i64))]) : evSig (tb97 n) Try.f97 [.c false (.o (.rs 50 (.rs 52 (.pair (.int .i64) (.pair (.int .i64) (.int .i64)))))), .c false (.v true (.int .i64))] [.c false (.v true (.int .i64))] x = F97 n x.1 x.2.1 := by kernel_rfl
theorem con97_ok (n : Nat) : Con.ok Try.prog 97 (con97 n) := conOf_ok (tb97_ok n) (body_la (by kernel_rfl : Try.f97.body = some code97) (la97 n)) Try.func97 (enters Try.func97 (by kernel_rfl) (by kernel_rfl)) rfl rfl (ev97 n)
/-! ### loop.example/fathomline/laws.markProg -/
def F53 (n : Nat) (a0 : List (List (Int × Int × Int))) (a1 : Int) : Option (rdens [.c true (.o (.rs 50 (.rs 52 (.pair (.int .i64) (.pair (.int .i64) (.int .i64)))))), .c false (.v true (.int .i64))] [.c false (.v true (.int .i64))]) :=
  (F97 n (a0) (a1)).bind fun y1 =>
  some (y1.fst, y1.snd.fst, ())
noncomputable def con53 (n : Nat) : Con := conOf [.c true (.o (.rs 50 (.rs 52 (.pair (.int .i64) (.pair (.int .i64) (.int .i64)))))), .c false (.v true (.int .i64))] [.c false (.v true (.int .i64))] fun x => F53 n x.1 x.2.1
noncomputable def tb53 (n : Nat) : Tb := ⟨tiOf Try.prog, conL [(97, con97 n)], n, [], 10, lpL [], ctL [], [0], true⟩
noncomputable def code53 : Code := Try.f53.body.getD .skip
theorem tb53_ok (n : Nat) : (tb53 n).ok Try.prog := tbOk mixed (⟨con97_ok n, trivial⟩)
theorem blocks53 : blocks code53 = [] := by kernel_rfl
theorem la53 (n : Nat) : LpAll (tb53 n) code53 := lpAll blocks53 (bl_nil) rfl (cs_no fun _ => rfl) (by kernel_rfl)
theorem ev53 (n : Nat) (x : pdens [.c true (.o (.rs 50 (.rs 52 (.pair (.int .i64) (.pair (.int .i64) (.int .i64)))))), .c false (.v true (.int .i64))]) : evSig (tb53 n) Try.f53 [.c true (.o (.rs 50 (.rs 52 (.pair (.int .i64) (.pair (.int .i64) (.int .i64)))))), .c false (.v true (.int .i64))] [.c false (.v true (.int .i64))] x = F53 n x.1 x.2.1 := by kernel_rfl
theorem con53_ok (n : Nat) : Con.ok Try.prog 53 (con53 n) := conOf_ok (tb53_ok n) (body_la (by kernel_rfl : Try.f53.body = some code53) (la53 n)) Try.func53 (enters Try.func53 (by kernel_rfl) (by kernel_rfl)) rfl rfl (ev53 n)
/-! ### loop.example/fathomline/laws.markEventS -/
def L54_0 (n : Nat) : Nat → List (Int × Int × Bool) → Int → Int → Option (odens [((.exit 0), [(0, (.c false (.r 62 (.pair (.int .i64) (.pair (.int .i64) .bool))))), (1, (.c false (.v true (.int .i64))))])])
  | 0, _, _, _ => none
  | m + 1, x1, x2, x3 =>
    cond (Decidable.decide (x3 < (↑x1.length : Int)))
    (if (0 : Int) ≤ x3 then
     if x3 < (↑x1.length : Int) then
     if x3.toNat < x1.length then
     if (0 : Int) ≤ x3 then
     if x3 < (↑(x1.set x3.toNat (x2, (x1.getD x3.toNat ((0 : Int), (0 : Int), Bool.false)).snd.fst, (x1.getD x3.toNat ((0 : Int), (0 : Int), Bool.false)).snd.snd)).length : Int) then
     if x3.toNat < (x1.set x3.toNat (x2, (x1.getD x3.toNat ((0 : Int), (0 : Int), Bool.false)).snd.fst, (x1.getD x3.toNat ((0 : Int), (0 : Int), Bool.false)).snd.snd)).length then
     if (0 : Int) ≤ x3 then
     if x3 < (↑((x1.set x3.toNat (x2, (x1.getD x3.toNat ((0 : Int), (0 : Int), Bool.false)).snd.fst, (x1.getD x3.toNat ((0 : Int), (0 : Int), Bool.false)).snd.snd)).set x3.toNat (((x1.set x3.toNat (x2, (x1.getD x3.toNat ((0 : Int), (0 : Int), Bool.false)).snd.fst, (x1.getD x3.toNat ((0 : Int), (0 : Int), Bool.false)).snd.snd)).getD x3.toNat ((0 : Int), (0 : Int), Bool.false)).fst, Go.IntKind.i64.wrap (x2 + (1 : Int)), ((x1.set x3.toNat (x2, (x1.getD x3.toNat ((0 : Int), (0 : Int), Bool.false)).snd.fst, (x1.getD x3.toNat ((0 : Int), (0 : Int), Bool.false)).snd.snd)).getD x3.toNat ((0 : Int), (0 : Int), Bool.false)).snd.snd)).length : Int) then
     if x3.toNat < ((x1.set x3.toNat (x2, (x1.getD x3.toNat ((0 : Int), (0 : Int), Bool.false)).snd.fst, (x1.getD x3.toNat ((0 : Int), (0 : Int), Bool.false)).snd.snd)).set x3.toNat (((x1.set x3.toNat (x2, (x1.getD x3.toNat ((0 : Int), (0 : Int), Bool.false)).snd.fst, (x1.getD x3.toNat ((0 : Int), (0 : Int), Bool.false)).snd.snd)).getD x3.toNat ((0 : Int), (0 : Int), Bool.false)).fst, Go.IntKind.i64.wrap (x2 + (1 : Int)), ((x1.set x3.toNat (x2, (x1.getD x3.toNat ((0 : Int), (0 : Int), Bool.false)).snd.fst, (x1.getD x3.toNat ((0 : Int), (0 : Int), Bool.false)).snd.snd)).getD x3.toNat ((0 : Int), (0 : Int), Bool.false)).snd.snd)).length then
     L54_0 n m (((x1.set x3.toNat (x2, (x1.getD x3.toNat ((0 : Int), (0 : Int), Bool.false)).snd.fst, (x1.getD x3.toNat ((0 : Int), (0 : Int), Bool.false)).snd.snd)).set x3.toNat (((x1.set x3.toNat (x2, (x1.getD x3.toNat ((0 : Int), (0 : Int), Bool.false)).snd.fst, (x1.getD x3.toNat ((0 : Int), (0 : Int), Bool.false)).snd.snd)).getD x3.toNat ((0 : Int), (0 : Int), Bool.false)).fst, Go.IntKind.i64.wrap (x2 + (1 : Int)), ((x1.set x3.toNat (x2, (x1.getD x3.toNat ((0 : Int), (0 : Int), Bool.false)).snd.fst, (x1.getD x3.toNat ((0 : Int), (0 : Int), Bool.false)).snd.snd)).getD x3.toNat ((0 : Int), (0 : Int), Bool.false)).snd.snd)).set x3.toNat ((((x1.set x3.toNat (x2, (x1.getD x3.toNat ((0 : Int), (0 : Int), Bool.false)).snd.fst, (x1.getD x3.toNat ((0 : Int), (0 : Int), Bool.false)).snd.snd)).set x3.toNat (((x1.set x3.toNat (x2, (x1.getD x3.toNat ((0 : Int), (0 : Int), Bool.false)).snd.fst, (x1.getD x3.toNat ((0 : Int), (0 : Int), Bool.false)).snd.snd)).getD x3.toNat ((0 : Int), (0 : Int), Bool.false)).fst, Go.IntKind.i64.wrap (x2 + (1 : Int)), ((x1.set x3.toNat (x2, (x1.getD x3.toNat ((0 : Int), (0 : Int), Bool.false)).snd.fst, (x1.getD x3.toNat ((0 : Int), (0 : Int), Bool.false)).snd.snd)).getD x3.toNat ((0 : Int), (0 : Int), Bool.false)).snd.snd)).getD x3.toNat ((0 : Int), (0 : Int), Bool.false)).fst, (((x1.set x3.toNat (x2, (x1.getD x3.toNat ((0 : Int), (0 : Int), Bool.false)).snd.fst, (x1.getD x3.toNat ((0 : Int), (0 : Int), Bool.false)).snd.snd)).set x3.toNat (((x1.set x3.toNat (x2, (x1.getD x3.toNat ((0 : Int), (0 : Int), Bool.false)).snd.fst, (x1.getD x3.toNat ((0 : Int), (0 : Int), Bool.false)).snd.snd)).getD x3.toNat ((0 : Int), (0 : Int), Bool.false)).fst, Go.IntKind.i64.wrap (x2 + (1 : Int)), ((x1.set x3.toNat (x2, (x1.getD x3.toNat ((0 : Int), (0 : Int), Bool.false)).snd.fst, (x1.getD x3.toNat ((0 : Int), (0 : Int), Bool.false)).snd.snd)).getD x3.toNat ((0 : Int), (0 : Int), Bool.false)).snd.snd)).getD x3.toNat ((0 : Int), (0 : Int), Bool.false)).snd.fst, (Go.IntKind.i64.wrap (Go.IntKind.i64.wrap (x2 + (1 : Int)) + (1 : Int))).tmod (3 : Int) == (0 : Int))) (Go.IntKind.i64.wrap (Go.IntKind.i64.wrap (Go.IntKind.i64.wrap (x2 + (1 : Int)) + (1 : Int)) + (1 : Int))) (Go.IntKind.i64.wrap (x3 + (1 : Int)))
     else none
     else none
     else none
     else none
     else none
     else none
     else none
     else none
     else none)
    (some (Sum.inl (x1, x2, ())))
def F54 (n : Nat) (a0 : List (Int × Int × Bool)) (a1 : Int) : Option (rdens [.c false (.o (.rs 62 (.pair (.int .i64) (.pair (.int .i64) .bool)))), .c false (.v true (.int .i64))] [.c false (.v true (.int .i64))]) :=
  match L54_0 n n (a0) (a1) ((0 : Int)) with
  | none => none
  | some (Sum.inl v4) =>
   some (v4.snd.fst, v4.fst, ())
noncomputable def con54 (n : Nat) : Con := conOf [.c false (.o (.rs 62 (.pair (.int .i64) (.pair (.int .i64) .bool)))), .c false (.v true (.int .i64))] [.c false (.v true (.int .i64))] fun x => F54 n x.1 x.2.1
noncomputable def tb54 (n : Nat) : Tb := ⟨tiOf Try.prog, conL [], n, [], 36, lpL [(0, ⟨[(0, (.c false (.r 62 (.pair (.int .i64) (.pair (.int .i64) .bool))))), (1, (.c false (.v true (.int .i64)))), (5, (.c false (.v true (.int .i64))))], [((.exit 0), [(0, (.c false (.r 62 (.pair (.int .i64) (.pair (.int .i64) .bool))))), (1, (.c false (.v true (.int .i64))))])], fun m v => L54_0 n m v.1 v.2.1 v.2.2.1⟩)], ctL [], [0], true⟩
noncomputable def code54 : Code := Try.f54.body.getD .skip
theorem tb54_ok (n : Nat) : (tb54 n).ok Try.prog := tbOk mixed (trivial)
theorem lp54_0 (n : Nat) : LpAt (tb54 n) (loopBody code54 0) 0 := lpAt rfl (fun _ => by kernel_rfl) (fun _ _ => by kernel_rfl)
theorem blocks54 : blocks code54 = [(0, .loop (loopBody code54 0)), (1, blockBody code54 1)] := by kernel_rfl
theorem la54 (n : Nat) : LpAll (tb54 n) code54 := lpAll blocks54 (bl_loop (lp54_0 n) (bl_none rfl (bl_nil))) rfl (cs_no fun _ => rfl) (by kernel_rfl)
theorem ev54 (n : Nat) (x : pdens [.c false (.o (.rs 62 (.pair (.int .i64) (.pair (.int .i64) .bool)))), .c false (.v true (.int .i64))]) : evSig (tb54 n) Try.f54 [.c false (.o (.rs 62 (.pair (.int .i64) (.pair (.int .i64) .bool)))), .c false (.v true (.int .i64))] [.c false (.v true (.int .i64))] x = F54 n x.1 x.2.1 := by kernel_rfl
theorem con54_ok (n : Nat) : Con.ok Try.prog 54 (con54 n) := conOf_ok (tb54_ok n) (body_la (by kernel_rfl : Try.f54.body = some code54) (la54 n)) Try.func54 (enters Try.func54 (by kernel_rfl) (by kernel_rfl)) rfl rfl (ev54 n)
/-! ### loop.example/fathomline/laws.heldEventS -/
def L55_0 (n : Nat) : Nat → List (Int × Int × Bool) → Int → Int → Option (odens [(.ret, [(4, (.c false (.v true (.int .i64))))]), ((.exit 0), [(1, (.c false (.v true (.int .i64))))])])
  | 0, _, _, _ => none
  | m + 1, x1, x2, x3 =>
    cond (Decidable.decide (x3 < (↑x1.length : Int)))
    (if (0 : Int) ≤ x3 then
     if x3 < (↑x1.length : Int) then
     cond ((x1.getD x3.toNat ((0 : Int), (0 : Int), Bool.false)).fst != x2)
     (some (Sum.inl ((-1 : Int), ())))
     (if (0 : Int) ≤ x3 then
      if x3 < (↑x1.length : Int) then
      cond ((x1.getD x3.toNat ((0 : Int), (0 : Int), Bool.false)).snd.fst != Go.IntKind.i64.wrap (x2 + (1 : Int)))
      (some (Sum.inl ((-1 : Int), ())))
      (if (0 : Int) ≤ x3 then
       if x3 < (↑x1.length : Int) then
       cond (!(x1.getD x3.toNat ((0 : Int), (0 : Int), Bool.false)).snd.snd == ((Go.IntKind.i64.wrap (Go.IntKind.i64.wrap (x2 + (1 : Int)) + (1 : Int))).tmod (3 : Int) == (0 : Int)))
       (some (Sum.inl ((-1 : Int), ())))
       (L55_0 n m (x1) (Go.IntKind.i64.wrap (Go.IntKind.i64.wrap (Go.IntKind.i64.wrap (x2 + (1 : Int)) + (1 : Int)) + (1 : Int))) (Go.IntKind.i64.wrap (x3 + (1 : Int))))
       else none
       else none)
      else none
      else none)
     else none
     else none)
    (some (Sum.inr (Sum.inl (x2, ()))))
def F55 (n : Nat) (a0 : List (Int × Int × Bool)) (a1 : Int) : Option (rdens [.c false (.v false (.rs 62 (.pair (.int .i64) (.pair (.int .i64) .bool)))), .c false (.v true (.int .i64))] [.c false (.v true (.int .i64))]) :=
  match L55_0 n n (a0) (a1) ((0 : Int)) with
  | none => none
  | some (Sum.inl v4) =>
   some (v4.fst, ())
  | some (Sum.inr (Sum.inl v5)) =>
   some (v5.fst, ())
noncomputable def con55 (n : Nat) : Con := conOf [.c false (.v false (.rs 62 (.pair (.int .i64) (.pair (.int .i64) .bool)))), .c false (.v true (.int .i64))] [.c false (.v true (.int .i64))] fun x => F55 n x.1 x.2.1
noncomputable def tb55 (n : Nat) : Tb := ⟨tiOf Try.prog, conL [], n, [], 42, lpL [(0, ⟨[(0, (.c false (.v false (.rs 62 (.pair (.int .i64) (.pair (.int .i64) .bool)))))), (1, (.c false (.v true (.int .i64)))), (5, (.c false (.v true (.int .i64))))], [(.ret, [(4, (.c false (.v true (.int .i64))))]), ((.exit 0), [(1, (.c false (.v true (.int .i64))))])], fun m v => L55_0 n m v.1 v.2.1 v.2.2.1⟩)], ctL [], [], true⟩
noncomputable def code55 : Code := Try.f55.body.getD .skip
theorem tb55_ok (n : Nat) : (tb55 n).ok Try.prog := tbOk mixed (trivial)
theorem lp55_0 (n : Nat) : LpAt (tb55 n) (loopBody code55 0) 0 := lpAt rfl (fun _ => by kernel_rfl) (fun _ _ => by kernel_rfl)
theorem blocks55 : blocks code55 = [(0, .loop (loopBody code55 0)), (1, blockBody code55 1)] := by kernel_rfl
theorem la55 (n : Nat) : LpAll (tb55 n) code55 := lpAll blocks55 (bl_loop (lp55_0 n) (bl_none rfl (bl_nil))) rfl (cs_no fun _ => rfl) (by kernel_rfl)
theorem ev55 (n : Nat) (x : pdens [.c false (.v false (.rs 62 (.pair (.int .i64) (.pair (.int .i64) .bool)))), .c false (.v true (.int .i64))]) : evSig (tb55 n) Try.f55 [.c false (.v false (.rs 62 (.pair (.int .i64) (.pair (.int .i64) .bool)))), .c false (.v true (.int .i64))] [.c false (.v true (.int .i64))] x = F55 n x.1 x.2.1 := by kernel_rfl
theorem con55_ok (n : Nat) : Con.ok Try.prog 55 (con55 n) := conOf_ok (tb55_ok n) (body_la (by kernel_rfl : Try.f55.body = some code55) (la55 n)) Try.func55 (enters Try.func55 (by kernel_rfl) (by kernel_rfl)) rfl rfl (ev55 n)
/-! ### loop.example/fathomline/laws.eqEvent -/
def F96 (n : Nat) (a0 : Int × Int × Bool) (a1 : Int × Int × Bool) : Option (rdens [.c true (.v true (.pair (.int .i64) (.pair (.int .i64) .bool))), .c true (.v true (.pair (.int .i64) (.pair (.int .i64) .bool)))] [.c false (.v true .bool)]) :=
  cond (a0.fst != a1.fst)
  (some (Bool.false, ()))
  (cond (a0.snd.fst != a1.snd.fst)
   (some (Bool.false, ()))
   (cond (!a0.snd.snd == a1.snd.snd)
    (some (Bool.false, ()))
    (some (Bool.true, ()))))
noncomputable def con96 (n : Nat) : Con := conOf [.c true (.v true (.pair (.int .i64) (.pair (.int .i64) .bool))), .c true (.v true (.pair (.int .i64) (.pair (.int .i64) .bool)))] [.c false (.v true .bool)] fun x => F96 n x.1 x.2.1
noncomputable def tb96 (n : Nat) : Tb := ⟨tiOf Try.prog, conL [], n, [], 20, lpL [], ctL [], [], true⟩
noncomputable def code96 : Code := Try.f96.body.getD .skip
theorem tb96_ok (n : Nat) : (tb96 n).ok Try.prog := tbOk mixed (trivial)
theorem blocks96 : blocks code96 = [] := by kernel_rfl
theorem la96 (n : Nat) : LpAll (tb96 n) code96 := lpAll blocks96 (bl_nil) rfl (cs_no fun _ => rfl) (by kernel_rfl)
theorem ev96 (n : Nat) (x : pdens [.c true (.v true (.pair (.int .i64) (.pair (.int .i64) .bool))), .c true (.v true (.pair (.int .i64) (.pair (.int .i64) .bool)))]) : evSig (tb96 n) Try.f96 [.c true (.v true (.pair (.int .i64) (.pair (.int .i64) .bool))), .c true (.v true (.pair (.int .i64) (.pair (.int .i64) .bool)))] [.c false (.v true .bool)] x = F96 n x.1 x.2.1 := by kernel_rfl
theorem con96_ok (n : Nat) : Con.ok Try.prog 96 (con96 n) := conOf_ok (tb96_ok n) (body_la (by kernel_rfl : Try.f96.body = some code96) (la96 n)) Try.func96 (enters Try.func96 (by kernel_rfl) (by kernel_rfl)) rfl rfl (ev96 n)
/-! ### loop.example/fathomline/laws.eqEventS -/
def L52_0 (n : Nat) : Nat → List (Int × Int × Bool) → List (Int × Int × Bool) → Int → Option (odens [(.ret, [(4, (.c false (.v true .bool)))]), ((.exit 0), [])])
  | 0, _, _, _ => none
  | m + 1, x1, x2, x3 =>
    cond (Decidable.decide (x3 < (↑x1.length : Int)))
    (if (0 : Int) ≤ x3 then
     if x3 < (↑x1.length : Int) then
     if (0 : Int) ≤ x3 then
     if x3 < (↑x2.length : Int) then
     (F96 n (((x1.getD x3.toNat ((0 : Int), (0 : Int), Bool.false)).fst, (x1.getD x3.toNat ((0 : Int), (0 : Int), Bool.false)).snd.fst, (x1.getD x3.toNat ((0 : Int), (0 : Int), Bool.false)).snd.snd)) (((x2.getD x3.toNat ((0 : Int), (0 : Int), Bool.false)).fst, (x2.getD x3.toNat ((0 : Int), (0 : Int), Bool.false)).snd.fst, (x2.getD x3.toNat ((0 : Int), (0 : Int), Bool.false)).snd.snd))).bind fun y4 =>
     cond (!y4.fst)
     (some (Sum.inl (Bool.false, ())))
     (L52_0 n m (x1) (x2) (Go.IntKind.i64.wrap (x3 + (1 : Int))))
     else none
     else none
     else none
     else none)
    (some (Sum.inr (Sum.inl (()))))
def F52 (n : Nat) (a0 : List (Int × Int × Bool)) (a1 : List (Int × Int × Bool)) : Option (rdens [.c false (.v false (.rs 62 (.pair (.int .i64) (.pair (.int .i64) .bool)))), .c false (.v false (.rs 62 (.pair (.int .i64) (.pair (.int .i64) .bool))))] [.c false (.v true .bool)]) :=
  cond ((↑a0.length : Int) != (↑a1.length : Int))
  (some (Bool.false, ()))
  (match L52_0 n n (a0) (a1) ((0 : Int)) with
   | none => none
   | some (Sum.inl v5) =>
    some (v5.fst, ())
   | some (Sum.inr (Sum.inl v6)) =>
    some (Bool.true, ()))
noncomputable def con52 (n : Nat) : Con := conOf [.c false (.v false (.rs 62 (.pair (.int .i64) (.pair (.int .i64) .bool)))), .c false (.v false (.rs 62 (.pair (.int .i64) (.pair (.int .i64) .bool))))] [.c false (.v true .bool)] fun x => F52 n x.1 x.2.1
noncomputable def tb52 (n : Nat) : Tb := ⟨tiOf Try.prog, conL [(96, con96 n)], n, [], 27, lpL [(0, ⟨[(0, (.c false (.v false (.rs 62 (.pair (.int .i64) (.pair (.int .i64) .bool)))))), (1, (.c false (.v false (.rs 62 (.pair (.int .i64) (.pair (.int .i64) .bool)))))), (5, (.c false (.v true (.int .i64))))], [(.ret, [(4, (.c false (.v true .bool)))]), ((.exit 0), [])], fun m v => L52_0 n m v.1 v.2.1 v.2.2.1⟩)], ctL [], [], true⟩
noncomputable def code52 : Code := Try.f52.body.getD .skip
theorem tb52_ok (n : Nat) : (tb52 n).ok Try.prog := tbOk mixed (⟨con96_ok n, trivial⟩)
theorem lp52_0 (n : Nat) : LpAt (tb52 n) (loopBody code52 0) 0 := lpAt rfl (fun _ => by kernel_rfl) (fun _ _ => by kernel_rfl)
theorem blocks52 : blocks code52 = [(0, .loop (loopBody code52 0)), (1, blockBody code52 1)] := by kernel_rfl
theorem la52 (n : Nat) : LpAll (tb52 n) code52 := lpAll blocks52 (bl_loop (lp52_0 n) (bl_none rfl (bl_nil))) rfl (cs_no fun _ => rfl) (by kernel_rfl)
theorem ev52 (n : Nat) (x : pdens [.c false (.v false (.rs 62 (.pair (.int .i64) (.pair (.int .i64) .bool)))), .c false (.v false (.rs 62 (.pair (.int .i64) (.pair (.int .i64) .bool))))]) : evSig (tb52 n) Try.f52 [.c false (.v false (.rs 62 (.pair (.int .i64) (.pair (.int .i64) .bool)))), .c false (.v false (.rs 62 (.pair (.int .i64) (.pair (.int .i64) .bool))))] [.c false (.v true .bool)] x = F52 n x.1 x.2.1 := by kernel_rfl
theorem con52_ok (n : Nat) : Con.ok Try.prog 52 (con52 n) := conOf_ok (tb52_ok n) (body_la (by kernel_rfl : Try.f52.body = some code52) (la52 n)) Try.func52 (enters Try.func52 (by kernel_rfl) (by kernel_rfl)) rfl rfl (ev52 n)
end Go.Proofs.Ytaehbfaldofmbaa.Ev
