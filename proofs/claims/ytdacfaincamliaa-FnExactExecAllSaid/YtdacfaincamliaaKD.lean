/- slices.Clone and slices.Delete at this program. Conditions: none. -/
import Derived.Test.YtdacfaincamliaaKC
namespace Go.Proofs.Ytdacfaincamliaa.Ev
open Go Go.RowKit Go.Shelf Go.Proofs
def Try.cloneA_ren : Go.Shelf.Ren := ⟨fun | 41 => 118 | n => n, fun | 4 => 4 | 22 => 25 | 23 => 3 | n => n, fun n => n⟩
theorem Try.cloneA : Go.Proofs.SlLaysE0.n41 Try.prog Try.cloneA_ren where
  mixed := by kernel_rfl
  f41 := ⟨ "slices.Clone[[]int,int]", by decide, Try.func118.trans (congrArg some (by kernel_rfl))⟩
  t4 := Try.underlying4
  a4 := Try.isAgg4
  z4 := Try.sizeOf4
  v4 := Try.zeroValue4
  t22 := Try.underlying25
  a22 := Try.isAgg25
  z22 := Try.sizeOf25
  v22 := Try.zeroValue25
def Try.cloneB_ren : Go.Shelf.Ren := ⟨fun | 41 => 148 | n => n, fun | 4 => 4 | 22 => 43 | 23 => 25 | n => n, fun n => n⟩
theorem Try.cloneB : Go.Proofs.SlLaysE0.n41 Try.prog Try.cloneB_ren where
  mixed := by kernel_rfl
  f41 := ⟨ "slices.Clone[[][]int,[]int]", by decide, Try.func148.trans (congrArg some (by kernel_rfl))⟩
  t4 := Try.underlying4
  a4 := Try.isAgg4
  z4 := Try.sizeOf4
  v4 := Try.zeroValue4
  t22 := Try.underlying43
  a22 := Try.isAgg43
  z22 := Try.sizeOf43
  v22 := Try.zeroValue43
def Try.deleteA_ren : Go.Shelf.Ren := ⟨fun | 45 => 158 | n => n, fun | 0 => 0 | 3 => 3 | 4 => 4 | 22 => 25 | 23 => 3 | n => n, fun n => n⟩
theorem Try.deleteA : Go.Proofs.SlLaysE.n45 Try.prog Try.deleteA_ren where
  mixed := by kernel_rfl
  f45 := ⟨ "slices.Delete[[]int,int]", by decide, Try.func158.trans (congrArg some (by kernel_rfl))⟩
  t0 := Try.underlying0
  a0 := Try.isAgg0
  z0 := Try.sizeOf0
  v0 := Try.zeroValue0
  t3 := Try.underlying3
  a3 := Try.isAgg3
  z3 := Try.sizeOf3
  v3 := Try.zeroValue3
  t4 := Try.underlying4
  a4 := Try.isAgg4
  z4 := Try.sizeOf4
  v4 := Try.zeroValue4
  t22 := Try.underlying25
  a22 := Try.isAgg25
  z22 := Try.sizeOf25
  v22 := Try.zeroValue25
  a23 := Try.isAgg3
  z23 := Try.sizeOf3
def F118 (n : Nat) (a0 : List Int) : Option (rdens [.c false (.v false (.rs 3 (.int .i64)))] [.c false (.r 3 (.int .i64))]) := if a0.length * 8 ≤ 140737488355328 then some (a0, ()) else none
noncomputable def con118 (n : Nat) : Con := conOf [.c false (.v false (.rs 3 (.int .i64)))] [.c false (.r 3 (.int .i64))] fun x => F118 n x.1
theorem con118_ok (n : Nat) : Con.ok Try.prog 118 (con118 n) := clone_ok Try.cloneA (enters Try.func118 (by kernel_rfl) (by kernel_rfl)) (t := .int .i64) false (.inr rfl) Try.t3 (.int .i64 0) 8 (by kernel_rfl) (by kernel_rfl) (by kernel_rfl) (by kernel_rfl) rfl (by decide) Try.sizeOf3
def F148 (n : Nat) (a0 : List (List Int)) : Option (rdens [.c false (.v true (.rs 25 (.rs 3 (.int .i64))))] [.c false (.r 25 (.rs 3 (.int .i64)))]) := if a0.length * 24 ≤ 140737488355328 then some (a0, ()) else none
noncomputable def con148 (n : Nat) : Con := conOf [.c false (.v true (.rs 25 (.rs 3 (.int .i64))))] [.c false (.r 25 (.rs 3 (.int .i64)))] fun x => F148 n x.1
theorem con148_ok (n : Nat) : Con.ok Try.prog 148 (con148 n) := clone_ok Try.cloneB (enters Try.func148 (by kernel_rfl) (by kernel_rfl)) (t := .rs 3 (.int .i64)) true (.inl rfl) Try.t25 (.slice none 0 0) 24 (by kernel_rfl) (by kernel_rfl) (by kernel_rfl) (by kernel_rfl) rfl (by decide) Try.sizeOf25
def F158 (n : Nat) (a0 : List Int) (a1 : Int) (a2 : Int) : Option (rdens [.t false (.rs 3 (.int .i64)), .c false (.v true (.int .i64)), .c false (.v true (.int .i64))] [.c false (.r 3 (.int .i64))]) := cutF a0 a1 a2
noncomputable def con158 (n : Nat) : Con := conOf [.t false (.rs 3 (.int .i64)), .c false (.v true (.int .i64)), .c false (.v true (.int .i64))] [.c false (.r 3 (.int .i64))] fun x => F158 n x.1 x.2.1 x.2.2.1
theorem con158_ok (n : Nat) : Con.ok Try.prog 158 (con158 n) := delete_ok Try.deleteA (enters Try.func158 (by kernel_rfl) (by kernel_rfl)) Try.zeroValue3 Try.t3 (by kernel_rfl) (by kernel_rfl)
end Go.Proofs.Ytdacfaincamliaa.Ev
