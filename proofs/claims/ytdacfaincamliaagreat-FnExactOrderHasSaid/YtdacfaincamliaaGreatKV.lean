/- slices.Sorted over slices.Values, at whole numbers: their contracts. Conditions: the slice is no longer than a memory bears. -/
import Derived.Test.YtdacfaincamliaaGreatKS
import Derived.Test.YtdacfaincamliaaGreatEvGen
import Derived.Test.YtdacfaincamliaaGreatProg
import Derived.Shelf.SortM.Plain
import Derived.Shelf.SortM.SortNone
import Derived.Ground.GgzProg
import Derived.Ground.SlgmProg
import Derived.RangeFuncLeaves
import Derived.Shelf.AbstractIn
import Derived.WalkKit
import Derived.OwnWalkIn
import Derived.TacticsInMore
import Derived.LoopNIn
import Derived.LoopIn
namespace Go.Proofs.YtdacfaincamliaaGreat.Ev
open Go Go.RowKit Go.Maps Go.Sort Go.Shelf Go.Proofs
attribute [local go_sem] Oper.semAt_some

set_option maxRecDepth 100000 in
set_option maxHeartbeats 2000000 in
/-- The closure of slices.Values gives the slice's elements. -/
theorem valsB (n : Nat) (hn : 1 ≤ n) (pa ad : Addr) (cap : Nat) (xs : List Int) (w : World) (hreach : xs.length * 8 ≤ 140737488355328) (hpa : pa.block < w.heap.size) (had : ad.block < w.heap.size) (hp : w.cell? pa = some (.slice (some ad) xs.length cap))
    (hc : ∀ j, j < xs.length → w.cell? (ad.add j) = some (.int .i64 (xs[j]?.getD 0))) : SeqB Fence.wide n Tryz.prog 83 #[.pointer (some pa)] encZ xs w := by
  intro l J W hJB hY h0
  have hpW : W.cell? pa = some (.slice (some ad) xs.length cap) := ((hJB [] W h0).cell (p := pa) hpa).trans hp
  refine callsIn_of_wp Tryz.func83 rfl trivial ?_ rfl
  simp only [Tryz.ntmps83, List.size_toArray, List.length_cons, List.length_nil, Nat.reduceAdd, Nat.reduceSub, Array.replicate_succ, Array.replicate_zero, List.push_toArray, List.append_toArray, List.nil_append, List.cons_append]
  gi_wp2
  gi_loopw [7] (fun i wr => ∃ k : Nat, k ≤ xs.length ∧ i = .int .i64 k ∧ J (xs.take k) wr)
    (fun i _ => xs.length - (Go.Proofs.intOf i).toNat)
  case atStart => exact ⟨0, Nat.zero_le _, rfl, h0⟩
  case round =>
    obtain ⟨k, hk, rfl, hJs⟩ := hrel
    by_cases hlt : k < xs.length
    · have hcx : wr.cell? (ad.add k) = some (.int .i64 (xs[k]?.getD 0)) := ((hJB _ _ hJs).cell (p := ad.add k) (by rw [add_block]; exact had)).trans (hc k hlt)
      have hg : xs[k]?.getD 0 = xs[k] := by rw [List.getElem?_eq_getElem hlt]; rfl
      rw [hg] at hcx
      obtain ⟨fn, tmps, assign, body, hy, hR⟩ := hY _ xs[k] wr hJs (by simp; omega)
      simp only [encZ] at hy
      gi_wp2
      refine hR.mono ?_
      rintro e W3 ⟨rfl, hJ3⟩
      gi_wp2
      go_roundw
      case rel => exact ⟨k + 1, by omega, by simp, by rw [List.take_add_one, List.getElem?_eq_getElem hlt]; exact hJ3⟩
      case measure => simp [Go.Proofs.intOf]; omega
    · obtain rfl : k = xs.length := by omega
      gi_wp2
      go_end0
      exact ⟨⟨_, rfl⟩, by rw [List.take_length] at hJs; exact hJs⟩

set_option maxRecDepth 100000 in
set_option maxHeartbeats 2000000 in
/-- So where there are none. -/
theorem valsN (n : Nat) (pa : Addr) (A : Option Addr) (cap : Nat) (w : World) (hpa : pa.block < w.heap.size) (hp : w.cell? pa = some (.slice A 0 cap)) : SeqB Fence.wide n Tryz.prog 83 #[.pointer (some pa)] encZ [] w := by
  intro l J W hJB hY h0
  have hpW : W.cell? pa = some (.slice A 0 cap) := ((hJB [] W h0).cell (p := pa) hpa).trans hp
  refine callsIn_of_wp Tryz.func83 rfl trivial ?_ rfl
  simp only [Tryz.ntmps83, List.size_toArray, List.length_cons, List.length_nil, Nat.reduceAdd, Nat.reduceSub, Array.replicate_succ, Array.replicate_zero, List.push_toArray, List.append_toArray, List.nil_append, List.cons_append]
  gi_wp2
  gi_loopw [7] (fun i wr => i = .int .i64 0 ∧ J [] wr) (fun _ _ => 0)
  case atStart => exact ⟨rfl, h0⟩
  case round =>
    obtain ⟨rfl, hJs⟩ := hrel
    gi_wp2
    go_end0
    exact ⟨⟨_, rfl⟩, hJs⟩

/-- Where the library's sorted rows lie. -/
def Tryz.sortedA_ren : Go.Shelf.Ren := ⟨fun | 6 => 78 | 8 => 81 | 9 => 82 | 11 => 84 | 13 => 86 | 12 => 85 | 23 => 96 | 24 => 97 | 14 => 87 | 15 => 88 | 16 => 89 | 17 => 90 | 18 => 91 | 19 => 92 | 20 => 93 | 21 => 94 | 22 => 95 | 25 => 98 | 26 => 99 | 27 => 100 | 28 => 101 | 29 => 102 | 30 => 103 | 31 => 104 | n => n, fun | 26 => 3 | 28 => 99 | 24 => 25 | 0 => 0 | 3 => 3 | 37 => 105 | 48 => 114 | 50 => 116 | 4 => 4 | 40 => 108 | 39 => 107 | 45 => 90 | 5 => 5 | 9 => 9 | 51 => 117 | 55 => 121 | 57 => 123 | 58 => 124 | 33 => 56 | n => n, fun | n => n⟩
theorem Tryz.sortedA : Go.Proofs.SlLaysZI.n6 Tryz.prog Tryz.sortedA_ren where
  mixed := by kernel_rfl
  f6 := ⟨ "slices.Sorted[int]", by decide, Tryz.func78.trans (congrArg some (by kernel_rfl))⟩
  f8 := ⟨ "slices.Collect[int]", by decide, Tryz.func81.trans (congrArg some (by kernel_rfl))⟩
  f11 := ⟨ "slices.AppendSeq[[]int,int]", by decide, Tryz.func84.trans (congrArg some (by kernel_rfl))⟩
  t0 := Tryz.underlying0
  a0 := Tryz.isAgg0
  z0 := Tryz.sizeOf0
  v0 := Tryz.zeroValue0
  t24 := Tryz.underlying25
  a24 := Tryz.isAgg25
  z24 := Tryz.sizeOf25
  v24 := Tryz.zeroValue25
  t26 := Tryz.underlying3
  a26 := Tryz.isAgg3
  z26 := Tryz.sizeOf3
  v26 := Tryz.zeroValue3
  t28 := Tryz.underlying99
  a28 := Tryz.isAgg99
  z28 := Tryz.sizeOf99
  v28 := Tryz.zeroValue99
  i26 := by kernel_rfl
def Tryz.sortA_ren : Go.Shelf.Ren := ⟨fun | 5 => 82 | 8 => 86 | 7 => 85 | 19 => 96 | 20 => 97 | 10 => 87 | 11 => 88 | 12 => 89 | 13 => 90 | 14 => 91 | 15 => 92 | 16 => 93 | 17 => 94 | 18 => 95 | 30 => 98 | 31 => 99 | 32 => 100 | 33 => 101 | 34 => 102 | 35 => 103 | 40 => 104 | n => n, fun | 23 => 25 | 25 => 3 | 3 => 3 | 32 => 105 | 22 => 25 | 0 => 0 | 44 => 114 | 46 => 116 | 4 => 4 | 36 => 108 | 35 => 107 | 41 => 90 | 5 => 5 | 9 => 9 | 53 => 117 | 57 => 121 | 63 => 123 | 64 => 124 | n => n, fun | n => n⟩
theorem Tryz.sortA : Go.Proofs.SlLaysM.n5 Tryz.prog Tryz.sortA_ren where
  mixed := by kernel_rfl
  f5 := ⟨ "slices.Sort[[]int,int]", by decide, Tryz.func82.trans (congrArg some (by kernel_rfl))⟩
  f7 := ⟨ "slices.pdqsortOrdered[int]", by decide, Tryz.func85.trans (congrArg some (by kernel_rfl))⟩
  f8 := Tryz.func86.trans (congrArg some (by kernel_rfl))
  f10 := ⟨ "slices.insertionSortOrdered[int]", by decide, Tryz.func87.trans (congrArg some (by kernel_rfl))⟩
  f11 := ⟨ "slices.heapSortOrdered[int]", by decide, Tryz.func88.trans (congrArg some (by kernel_rfl))⟩
  f12 := ⟨ "slices.breakPatternsOrdered[int]", by decide, Tryz.func89.trans (congrArg some (by kernel_rfl))⟩
  f13 := ⟨ "slices.choosePivotOrdered[int]", by decide, Tryz.func90.trans (congrArg some (by kernel_rfl))⟩
  f14 := ⟨ "slices.reverseRangeOrdered[int]", by decide, Tryz.func91.trans (congrArg some (by kernel_rfl))⟩
  f15 := ⟨ "slices.partialInsertionSortOrdered[int]", by decide, Tryz.func92.trans (congrArg some (by kernel_rfl))⟩
  f16 := ⟨ "cmp.Less[int]", by decide, Tryz.func93.trans (congrArg some (by kernel_rfl))⟩
  f17 := ⟨ "slices.partitionEqualOrdered[int]", by decide, Tryz.func94.trans (congrArg some (by kernel_rfl))⟩
  f18 := ⟨ "slices.partitionOrdered[int]", by decide, Tryz.func95.trans (congrArg some (by kernel_rfl))⟩
  f19 := Tryz.func96.trans (congrArg some (by kernel_rfl))
  f20 := Tryz.func97.trans (congrArg some (by kernel_rfl))
  f30 := ⟨ "slices.siftDownOrdered[int]", by decide, Tryz.func98.trans (congrArg some (by kernel_rfl))⟩
  f31 := Tryz.func99.trans (congrArg some (by kernel_rfl))
  f32 := Tryz.func100.trans (congrArg some (by kernel_rfl))
  f33 := ⟨ "slices.medianAdjacentOrdered[int]", by decide, Tryz.func101.trans (congrArg some (by kernel_rfl))⟩
  f34 := ⟨ "slices.medianOrdered[int]", by decide, Tryz.func102.trans (congrArg some (by kernel_rfl))⟩
  f35 := ⟨ "cmp.isNaN[int]", by decide, Tryz.func103.trans (congrArg some (by kernel_rfl))⟩
  f40 := ⟨ "slices.order2Ordered[int]", by decide, Tryz.func104.trans (congrArg some (by kernel_rfl))⟩
  t0 := Tryz.underlying0
  a0 := Tryz.isAgg0
  z0 := Tryz.sizeOf0
  v0 := Tryz.zeroValue0
  t3 := Tryz.underlying3
  a3 := Tryz.isAgg3
  z3 := Tryz.sizeOf3
  v3 := Tryz.zeroValue3
  t4 := Tryz.underlying4
  a4 := Tryz.isAgg4
  z4 := Tryz.sizeOf4
  v4 := Tryz.zeroValue4
  t5 := Tryz.underlying5
  a5 := Tryz.isAgg5
  z5 := Tryz.sizeOf5
  v5 := Tryz.zeroValue5
  t9 := Tryz.underlying9
  a9 := Tryz.isAgg9
  z9 := Tryz.sizeOf9
  v9 := Tryz.zeroValue9
  t22 := Tryz.underlying25
  a22 := Tryz.isAgg25
  z22 := Tryz.sizeOf25
  v22 := Tryz.zeroValue25
  t23 := Tryz.underlying25
  a23 := Tryz.isAgg25
  z23 := Tryz.sizeOf25
  v23 := Tryz.zeroValue25
  t25 := Tryz.underlying3
  a25 := Tryz.isAgg3
  z25 := Tryz.sizeOf3
  v25 := Tryz.zeroValue3
  t32 := Tryz.underlying105
  a32 := Tryz.isAgg105
  z32 := Tryz.sizeOf105
  v32 := Tryz.zeroValue105
  t35 := Tryz.underlying107
  a35 := Tryz.isAgg107
  z35 := Tryz.sizeOf107
  v35 := Tryz.zeroValue107
  t36 := Tryz.underlying108
  a36 := Tryz.isAgg108
  z36 := Tryz.sizeOf108
  v36 := Tryz.zeroValue108
  t41 := Tryz.underlying90
  a41 := Tryz.isAgg90
  z41 := Tryz.sizeOf90
  v41 := Tryz.zeroValue90
  t44 := Tryz.underlying114
  a44 := Tryz.isAgg114
  z44 := Tryz.sizeOf114
  v44 := Tryz.zeroValue114
  t46 := Tryz.underlying116
  a46 := Tryz.isAgg116
  z46 := Tryz.sizeOf116
  v46 := Tryz.zeroValue116
  t53 := Tryz.underlying117
  a53 := Tryz.isAgg117
  z53 := Tryz.sizeOf117
  v53 := Tryz.zeroValue117
  t57 := Tryz.underlying121
  a57 := Tryz.isAgg121
  z57 := Tryz.sizeOf121
  v57 := Tryz.zeroValue121
  t63 := Tryz.underlying123
  a63 := Tryz.isAgg123
  z63 := Tryz.sizeOf123
  v63 := Tryz.zeroValue123
  t64 := Tryz.underlying124
  a64 := Tryz.isAgg124
  z64 := Tryz.sizeOf124
  v64 := Tryz.zeroValue124

theorem sortsA (m : Nat) : AnyZI.SortsIn Tryz.prog Tryz.sortedA_ren Fence.wide m :=
  ⟨fun blk off cap ss W hH hblk hsz => callsIn_wide.2 (AnyM.slices_Sort_int Tryz.sortA blk off cap ss W hH hblk hsz),
   fun p cap W => callsIn_wide.2 (AnyM.slices_Sort_int_none Tryz.sortA p cap W)⟩

/-! ### slices.Values -/
def F79 (n : Nat) (a0 : List Int) : Option (rdens [.c false (.v true (.rs 3 (.int .i64)))] [.c false (.f (.cap true 83 [.rs 3 (.int .i64)]))]) := some ((a0, ()), ())
noncomputable def con79 (n : Nat) : Con := conAl (conOf [.c false (.v true (.rs 3 (.int .i64)))] [.c false (.f (.cap true 83 [.rs 3 (.int .i64)]))] fun x => F79 n x.1)
noncomputable def tb79 (n : Nat) : Tb := ⟨tiOf Tryz.prog, conL [], n, [], 4, lpL [], ctL [], [], true⟩
noncomputable def code79 : Code := Tryz.f79.body.getD .skip
theorem tb79_ok (n : Nat) : (tb79 n).ok Tryz.prog := tbOk (by kernel_rfl) trivial
theorem blocks79 : blocks code79 = [] := by kernel_rfl
theorem la79 (n : Nat) : LpAll (tb79 n) code79 := lpAll blocks79 (bl_nil) rfl (cs_no fun _ => rfl) (by kernel_rfl)
theorem ev79 (n : Nat) (x : pdens [.c false (.v true (.rs 3 (.int .i64)))]) : evSig (tb79 n) Tryz.f79 [.c false (.v true (.rs 3 (.int .i64)))] [.c false (.f (.cap true 83 [.rs 3 (.int .i64)]))] x = F79 n x.1 := by kernel_rfl
theorem con79_ok (n : Nat) : Con.ok Tryz.prog 79 (con79 n) := conAl_ok (conOf_ok (tb79_ok n) (body_la (by kernel_rfl : Tryz.f79.body = some code79) (la79 n)) Tryz.func79 (enters Tryz.func79 (by kernel_rfl) (by kernel_rfl)) rfl rfl (ev79 n))

/-! ### slices.Sorted -/
def F78 (n : Nat) (a0 : List Int × Unit) : Option (rdens [.c false (.f (.cap false 83 [.rs 3 (.int .i64)]))] [.c false (.r 3 (.int .i64))]) :=
  if a0.1.length * 8 ≤ 140737488355328 then some (a0.1.mergeSort fun a b => decide (a ≤ b), ()) else none
noncomputable def con78 (n : Nat) : Con := conOf [.c false (.f (.cap false 83 [.rs 3 (.int .i64)]))] [.c false (.r 3 (.int .i64))] fun x => F78 n x.1

theorem sorted_calls (pa : Addr) (A : Option Addr) (cap : Nat) (xs : List Int) (w : World) (S : Nat → Prop) (hS : ∀ k, S k → k < w.heap.size) (hreach : xs.length * 8 ≤ 140737488355328) (hpa : S pa.block) (hp : w.cell? pa = some (.slice A xs.length cap)) (hr : RdRow S (RdE S (.int .i64) w) 1 w A xs) :
    Calls Tryz.prog 78 #[.func (.func 83) #[] #[.pointer (some pa)]] w fun e w' => ∃ v : Value, e = .returned v ∧ w'.ownsRow w.heap.size 3 1 v xs.length ((xs.mergeSort fun x y => decide (x ≤ y)).map encZ) ∧ Below w.heap.size w w' := by
  refine (callsIn_wide (n := 6)).1 ?_
  have hmax : xs.length ≤ maxLen := by unfold maxLen; omega
  have hseq : SeqB Fence.wide 3 Tryz.prog 83 #[.pointer (some pa)] encZ xs w := by
    cases hx : xs with
    | nil => subst hx; exact valsN 3 pa A cap w (hS _ hpa) hp
    | cons y ys =>
      obtain ⟨ad, h1, h2, h3⟩ := hr.2 (by rw [hx]; simp)
      subst h1
      rw [← hx]
      refine valsB 3 (by omega) pa ad cap xs w hreach (hS _ hpa) (hS _ h2) hp fun j hj => ?_
      obtain ⟨c, k1, k2, k3⟩ := h3 j xs[j] (by simp [hj])
      have k2 : c = [.int .i64 xs[j]] := k2
      have := k3 0 (.int .i64 xs[j]) (by rw [k2]; rfl)
      rw [Nat.mul_one, Nat.add_zero] at this
      rw [this, List.getElem?_eq_getElem hj]
      rfl
  have cS := sortB Tryz.sortedA Fence.wide 6 trivial trivial trivial trivial rfl (by omega) (sortsA _) (enters_of Tryz.func82 (by kernel_rfl) rfl) 83 #[.pointer (some pa)] trivial (enters_of Tryz.func83 (by kernel_rfl) rfl) xs hmax hreach w hseq
  change CallsIn _ _ Tryz.prog 78 _ _ _ at cS
  exact cS.mono fun e w' ⟨v, h1, h2, _, h4⟩ => ⟨v, h1, h2, h4⟩

theorem con78_ok (n : Nat) : Con.ok Tryz.prog 78 (con78 n) := by
  refine conOf_gen (enters Tryz.func78 (by kernel_rfl) (by kernel_rfl)) rfl (pad := fun a => a) (fun args j y hj => ?_) fun ci args xs ys hys hD hs hl hsz hsig hO => ?_
  · rw [Array.getElem?_toList] at hj
    rw [Nat.zero_add, Array.getD_eq_getD_getElem?, hj]
    rfl
  · obtain ⟨xs, _⟩ := xs
    unfold F78 at hys
    split at hys
    rotate_left
    · cases hys
    rename_i hreach
    injection hys with hys
    subst hys
    obtain ⟨y, rfl⟩ : ∃ y, args = #[y] := by
      rcases args with ⟨l⟩
      match l, hsz with
      | [y], _ => exact ⟨y, rfl⟩
    obtain ⟨⟨h1, h2⟩, _, _⟩ := hsig
    have h1 : y.oneCell' = true := h1
    have h2 : CKsRel ci [.f (.cap false 83 [.rs 3 (.int .i64)])] (xs, ()) y.cells.toList := h2
    rw [one_cells h1] at h2
    obtain ⟨⟨ps, h3, h4⟩, _⟩ := h2
    rcases ps with ⟨l⟩
    match l, h4 with
    | [p], ⟨⟨ad, h5, h6, c, ⟨A, cap, h7, h8, h9⟩, h10⟩, _⟩ =>
      subst h3 h5
      have hp : ci.w.cell? ad = some (.slice A xs.1.length cap) := by
        have := h10 0 (.slice A xs.1.length cap) (by rw [h7]; rfl)
        rwa [show ad.add 0 = ad from by unfold Addr.add; split <;> simp_all] at this
      refine (sorted_calls ad A cap xs.1 ci.w ci.T hl hreach h6 hp h9).mono fun e w' hh => ?_
      obtain ⟨v, rfl, hrow, hb⟩ := hh
      let c3 : Cx := { ci with w := w' }
      have hone : v.oneCell' = true := by
        rcases hrow.2 with ⟨h, _⟩ | ⟨_, _, _, h, _⟩ <;> rw [h] <;> rfl
      have hbk : ∀ g, blk v = some g → ¬ ci.T g ∧ g < w'.heap.size := by
        intro g hg
        rcases hrow.2 with ⟨h, _⟩ | ⟨g', cap', cur, h, hbase, hc, _⟩
        · rw [h] at hg; cases hg
        · rw [h] at hg
          have hg : g' = g := blk_sl hg
          subst hg
          exact ⟨fun hT => by have := hl _ hT; omega, (Array.getElem?_eq_some_iff.mp hc).1⟩
      have hrow0 : w'.ownsRow 0 3 1 v (xs.1.mergeSort fun a b => decide (a ≤ b)).length ((xs.1.mergeSort fun x y => decide (x ≤ y)).map encZ) := by
        rw [List.length_mergeSort]
        exact ownsRow_base_a hrow (Nat.zero_le _)
      have hcs : CKsRel c3 [.r 3 (.int .i64)] (xs.1.mergeSort fun a b => decide (a ≤ b), ()) v.cells.toList := by
        rw [one_cells hone]
        refine ⟨⟨_, toO hrow0, fun j z hj => ?_⟩, hone, fun g _ h => h.elim, trivial⟩
        show _ = _
        have hlt := (List.getElem?_eq_some_iff.mp hj).1
        have : ((xs.1.mergeSort fun x y => decide (x ≤ y)).map encZ)[j]? = some (.int .i64 z) := by rw [List.getElem?_map, hj]; rfl
        rw [show Ty.sz (.int .i64) = 1 from rfl, Nat.mul_one]
        apply List.ext_getElem?
        intro q
        rw [List.getElem?_take, List.getElem?_drop]
        cases q with
        | zero => rw [if_pos (by omega), Nat.add_zero, this]; rfl
        | succ q => rw [if_neg (by omega)]; rfl
      refine ⟨c3, [v], rfl, rfl, ⟨hb.mono (Nat.zero_le _), fun k hk => hb.block k (hl k hk), fun _ h => h, fun _ h => h, fun _ h => .inl h⟩, rfl, hs, fun k hk => Nat.lt_of_lt_of_le (hl k hk) hb.size, ⟨⟨hone, hcs⟩, fun g _ h => h.elim, trivial⟩, fun g hg => ?_⟩
      rcases hg with hg | hg
      · have hg : OBc w' [.r 3 (.int .i64)] v.cells.toList g := hg
        rw [one_cells hone] at hg
        rcases hg with hg | hg
        · exact hbk g hg
        · exact hg.elim
      · exact hg.elim
end Go.Proofs.YtdacfaincamliaaGreat.Ev
