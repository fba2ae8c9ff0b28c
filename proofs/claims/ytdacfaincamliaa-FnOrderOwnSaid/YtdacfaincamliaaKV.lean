/- slices.Sorted over slices.Values, at whole numbers: their contracts. Conditions: the slice is no longer than a memory bears. -/
import Derived.Test.YtdacfaincamliaaKS
import Derived.Test.YtdacfaincamliaaEvGen
import Derived.Test.YtdacfaincamliaaProg
import Derived.Shelf.SortM.Plain
import Derived.Shelf.SortM.SortNone
import Derived.Ground.GgzProg
import Derived.Ground.SlgmProg
import Derived.RangeFuncLeaves
import Derived.Shelf.AbstractIn
import Derived.WalkKit
import Derived.OwnWalkIn
import Derived.TacticsInMore
import Derived.LoopNIn
import Derived.LoopIn
namespace Go.Proofs.Ytdacfaincamliaa.Ev
open Go Go.RowKit Go.Maps Go.Sort Go.Shelf Go.Proofs
attribute [local go_sem] Oper.semAt_some

set_option maxRecDepth 100000 in
set_option maxHeartbeats 2000000 in
/-- The closure of slices.Values gives the slice's elements. -/
theorem valsB (n : Nat) (hn : 1 ≤ n) (pa ad : Addr) (cap : Nat) (xs : List Int) (w : World) (hreach : xs.length * 8 ≤ 140737488355328) (hpa : pa.block < w.heap.size) (had : ad.block < w.heap.size) (hp : w.cell? pa = some (.slice (some ad) xs.length cap))
    (hc : ∀ j, j < xs.length → w.cell? (ad.add j) = some (.int .i64 (xs[j]?.getD 0))) : SeqB Fence.wide n Try.prog 157 #[.pointer (some pa)] encZ xs w := by
  intro l J W hJB hY h0
  have hpW : W.cell? pa = some (.slice (some ad) xs.length cap) := ((hJB [] W h0).cell (p := pa) hpa).trans hp
  refine callsIn_of_wp Try.func157 rfl trivial ?_ rfl
  simp only [Try.ntmps157, List.size_toArray, List.length_cons, List.length_nil, Nat.reduceAdd, Nat.reduceSub, Array.replicate_succ, Array.replicate_zero, List.push_toArray, List.append_toArray, List.nil_append, List.cons_append]
  gi_wp2
  gi_loopw [7] (fun i wr => ∃ k : Nat, k ≤ xs.length ∧ i = .int .i64 k ∧ J (xs.take k) wr)
    (fun i _ => xs.length - (Go.Proofs.intOf i).toNat)
  case atStart => exact ⟨0, Nat.zero_le _, rfl, h0⟩
  case round =>
    obtain ⟨k, hk, rfl, hJs⟩ := hrel
    by_cases hlt : k < xs.length
    · have hcx : wr.cell? (ad.add k) = some (.int .i64 (xs[k]?.getD 0)) := ((hJB _ _ hJs).cell (p := ad.add k) (by rw [add_block]; exact had)).trans (hc k hlt)
      have hg : xs[k]?.getD 0 = xs[k] := by rw [List.getElem?_eq_getElem hlt]; rfl
      rw [hg] at hcx
      obtain ⟨fn, tmps, assign, body, hy, hR⟩ := hY _ xs[k] wr hJs (by simp; omega)
      simp only [encZ] at hy
      gi_wp2
      refine hR.mono ?_
      rintro e W3 ⟨rfl, hJ3⟩
      gi_wp2
      go_roundw
      case rel => exact ⟨k + 1, by omega, by simp, by rw [List.take_add_one, List.getElem?_eq_getElem hlt]; exact hJ3⟩
      case measure => simp [Go.Proofs.intOf]; omega
    · obtain rfl : k = xs.length := by omega
      gi_wp2
      go_end0
      exact ⟨⟨_, rfl⟩, by rw [List.take_length] at hJs; exact hJs⟩

set_option maxRecDepth 100000 in
set_option maxHeartbeats 2000000 in
/-- So where there are none. -/
theorem valsN (n : Nat) (pa : Addr) (A : Option Addr) (cap : Nat) (w : World) (hpa : pa.block < w.heap.size) (hp : w.cell? pa = some (.slice A 0 cap)) : SeqB Fence.wide n Try.prog 157 #[.pointer (some pa)] encZ [] w := by
  intro l J W hJB hY h0
  have hpW : W.cell? pa = some (.slice A 0 cap) := ((hJB [] W h0).cell (p := pa) hpa).trans hp
  refine callsIn_of_wp Try.func157 rfl trivial ?_ rfl
  simp only [Try.ntmps157, List.size_toArray, List.length_cons, List.length_nil, Nat.reduceAdd, Nat.reduceSub, Array.replicate_succ, Array.replicate_zero, List.push_toArray, List.append_toArray, List.nil_append, List.cons_append]
  gi_wp2
  gi_loopw [7] (fun i wr => i = .int .i64 0 ∧ J [] wr) (fun _ _ => 0)
  case atStart => exact ⟨rfl, h0⟩
  case round =>
    obtain ⟨rfl, hJs⟩ := hrel
    gi_wp2
    go_end0
    exact ⟨⟨_, rfl⟩, hJs⟩

/-- Where the library's sorted rows lie. -/
def Try.sortedA_ren : Go.Shelf.Ren := ⟨fun | 6 => 138 | 8 => 155 | 9 => 156 | 11 => 159 | 13 => 161 | 12 => 160 | 23 => 171 | 24 => 172 | 14 => 162 | 15 => 163 | 16 => 164 | 17 => 165 | 18 => 166 | 19 => 167 | 20 => 168 | 21 => 169 | 22 => 170 | 25 => 173 | 26 => 174 | 27 => 175 | 28 => 176 | 29 => 177 | 30 => 178 | 31 => 179 | n => n, fun | 26 => 3 | 28 => 159 | 24 => 25 | 0 => 0 | 3 => 3 | 37 => 174 | 48 => 183 | 50 => 185 | 4 => 4 | 40 => 177 | 39 => 176 | 45 => 140 | 5 => 5 | 9 => 9 | 51 => 186 | 55 => 190 | 57 => 192 | 58 => 193 | 33 => 90 | n => n, fun | n => n⟩
theorem Try.sortedA : Go.Proofs.SlLaysZI.n6 Try.prog Try.sortedA_ren where
  mixed := by kernel_rfl
  f6 := ⟨ "slices.Sorted[int]", by decide, Try.func138.trans (congrArg some (by kernel_rfl))⟩
  f8 := ⟨ "slices.Collect[int]", by decide, Try.func155.trans (congrArg some (by kernel_rfl))⟩
  f11 := ⟨ "slices.AppendSeq[[]int,int]", by decide, Try.func159.trans (congrArg some (by kernel_rfl))⟩
  t0 := Try.underlying0
  a0 := Try.isAgg0
  z0 := Try.sizeOf0
  v0 := Try.zeroValue0
  t24 := Try.underlying25
  a24 := Try.isAgg25
  z24 := Try.sizeOf25
  v24 := Try.zeroValue25
  t26 := Try.underlying3
  a26 := Try.isAgg3
  z26 := Try.sizeOf3
  v26 := Try.zeroValue3
  t28 := Try.underlying159
  a28 := Try.isAgg159
  z28 := Try.sizeOf159
  v28 := Try.zeroValue159
  i26 := by kernel_rfl
def Try.sortA_ren : Go.Shelf.Ren := ⟨fun | 5 => 156 | 8 => 161 | 7 => 160 | 19 => 171 | 20 => 172 | 10 => 162 | 11 => 163 | 12 => 164 | 13 => 165 | 14 => 166 | 15 => 167 | 16 => 168 | 17 => 169 | 18 => 170 | 30 => 173 | 31 => 174 | 32 => 175 | 33 => 176 | 34 => 177 | 35 => 178 | 40 => 179 | n => n, fun | 23 => 25 | 25 => 3 | 3 => 3 | 32 => 174 | 22 => 25 | 0 => 0 | 44 => 183 | 46 => 185 | 4 => 4 | 36 => 177 | 35 => 176 | 41 => 140 | 5 => 5 | 9 => 9 | 53 => 186 | 57 => 190 | 63 => 192 | 64 => 193 | n => n, fun | n => n⟩
theorem Try.sortA : Go.Proofs.SlLaysM.n5 Try.prog Try.sortA_ren where
  mixed := by kernel_rfl
  f5 := ⟨ "slices.Sort[[]int,int]", by decide, Try.func156.trans (congrArg some (by kernel_rfl))⟩
  f7 := ⟨ "slices.pdqsortOrdered[int]", by decide, Try.func160.trans (congrArg some (by kernel_rfl))⟩
  f8 := Try.func161.trans (congrArg some (by kernel_rfl))
  f10 := ⟨ "slices.insertionSortOrdered[int]", by decide, Try.func162.trans (congrArg some (by kernel_rfl))⟩
  f11 := ⟨ "slices.heapSortOrdered[int]", by decide, Try.func163.trans (congrArg some (by kernel_rfl))⟩
  f12 := ⟨ "slices.breakPatternsOrdered[int]", by decide, Try.func164.trans (congrArg some (by kernel_rfl))⟩
  f13 := ⟨ "slices.choosePivotOrdered[int]", by decide, Try.func165.trans (congrArg some (by kernel_rfl))⟩
  f14 := ⟨ "slices.reverseRangeOrdered[int]", by decide, Try.func166.trans (congrArg some (by kernel_rfl))⟩
  f15 := ⟨ "slices.partialInsertionSortOrdered[int]", by decide, Try.func167.trans (congrArg some (by kernel_rfl))⟩
  f16 := ⟨ "cmp.Less[int]", by decide, Try.func168.trans (congrArg some (by kernel_rfl))⟩
  f17 := ⟨ "slices.partitionEqualOrdered[int]", by decide, Try.func169.trans (congrArg some (by kernel_rfl))⟩
  f18 := ⟨ "slices.partitionOrdered[int]", by decide, Try.func170.trans (congrArg some (by kernel_rfl))⟩
  f19 := Try.func171.trans (congrArg some (by kernel_rfl))
  f20 := Try.func172.trans (congrArg some (by kernel_rfl))
  f30 := ⟨ "slices.siftDownOrdered[int]", by decide, Try.func173.trans (congrArg some (by kernel_rfl))⟩
  f31 := Try.func174.trans (congrArg some (by kernel_rfl))
  f32 := Try.func175.trans (congrArg some (by kernel_rfl))
  f33 := ⟨ "slices.medianAdjacentOrdered[int]", by decide, Try.func176.trans (congrArg some (by kernel_rfl))⟩
  f34 := ⟨ "slices.medianOrdered[int]", by decide, Try.func177.trans (congrArg some (by kernel_rfl))⟩
  f35 := ⟨ "cmp.isNaN[int]", by decide, Try.func178.trans (congrArg some (by kernel_rfl))⟩
  f40 := ⟨ "slices.order2Ordered[int]", by decide, Try.func179.trans (congrArg some (by kernel_rfl))⟩
  t0 := Try.underlying0
  a0 := Try.isAgg0
  z0 := Try.sizeOf0
  v0 := Try.zeroValue0
  t3 := Try.underlying3
  a3 := Try.isAgg3
  z3 := Try.sizeOf3
  v3 := Try.zeroValue3
  t4 := Try.underlying4
  a4 := Try.isAgg4
  z4 := Try.sizeOf4
  v4 := Try.zeroValue4
  t5 := Try.underlying5
  a5 := Try.isAgg5
  z5 := Try.sizeOf5
  v5 := Try.zeroValue5
  t9 := Try.underlying9
  a9 := Try.isAgg9
  z9 := Try.sizeOf9
  v9 := Try.zeroValue9
  t22 := Try.underlying25
  a22 := Try.isAgg25
  z22 := Try.sizeOf25
  v22 := Try.zeroValue25
  t23 := Try.underlying25
  a23 := Try.isAgg25
  z23 := Try.sizeOf25
  v23 := Try.zeroValue25
  t25 := Try.underlying3
  a25 := Try.isAgg3
  z25 := Try.sizeOf3
  v25 := Try.zeroValue3
  t32 := Try.underlying174
  a32 := Try.isAgg174
  z32 := Try.sizeOf174
  v32 := Try.zeroValue174
  t35 := Try.underlying176
  a35 := Try.isAgg176
  z35 := Try.sizeOf176
  v35 := Try.zeroValue176
  t36 := Try.underlying177
  a36 := Try.isAgg177
  z36 := Try.sizeOf177
  v36 := Try.zeroValue177
  t41 := Try.underlying140
  a41 := Try.isAgg140
  z41 := Try.sizeOf140
  v41 := Try.zeroValue140
  t44 := Try.underlying183
  a44 := Try.isAgg183
  z44 := Try.sizeOf183
  v44 := Try.zeroValue183
  t46 := Try.underlying185
  a46 := Try.isAgg185
  z46 := Try.sizeOf185
  v46 := Try.zeroValue185
  t53 := Try.underlying186
  a53 := Try.isAgg186
  z53 := Try.sizeOf186
  v53 := Try.zeroValue186
  t57 := Try.underlying190
  a57 := Try.isAgg190
  z57 := Try.sizeOf190
  v57 := Try.zeroValue190
  t63 := Try.underlying192
  a63 := Try.isAgg192
  z63 := Try.sizeOf192
  v63 := Try.zeroValue192
  t64 := Try.underlying193
  a64 := Try.isAgg193
  z64 := Try.sizeOf193
  v64 := Try.zeroValue193

theorem sortsA (m : Nat) : AnyZI.SortsIn Try.prog Try.sortedA_ren Fence.wide m :=
  ⟨fun blk off cap ss W hH hblk hsz => callsIn_wide.2 (AnyM.slices_Sort_int Try.sortA blk off cap ss W hH hblk hsz),
   fun p cap W => callsIn_wide.2 (AnyM.slices_Sort_int_none Try.sortA p cap W)⟩

/-! ### slices.Values -/
def F139 (n : Nat) (a0 : List Int) : Option (rdens [.c false (.v true (.rs 3 (.int .i64)))] [.c false (.f (.cap true 157 [.rs 3 (.int .i64)]))]) := some ((a0, ()), ())
noncomputable def con139 (n : Nat) : Con := conAl (conOf [.c false (.v true (.rs 3 (.int .i64)))] [.c false (.f (.cap true 157 [.rs 3 (.int .i64)]))] fun x => F139 n x.1)
noncomputable def tb139 (n : Nat) : Tb := ⟨tiOf Try.prog, conL [], n, [], 4, lpL [], ctL [], [], true⟩
noncomputable def code139 : Code := Try.f139.body.getD .skip
theorem tb139_ok (n : Nat) : (tb139 n).ok Try.prog := tbOk (by kernel_rfl) trivial
theorem blocks139 : blocks code139 = [] := by kernel_rfl
theorem la139 (n : Nat) : LpAll (tb139 n) code139 := lpAll blocks139 (bl_nil) rfl (cs_no fun _ => rfl) (by kernel_rfl)
theorem ev139 (n : Nat) (x : pdens [.c false (.v true (.rs 3 (.int .i64)))]) : evSig (tb139 n) Try.f139 [.c false (.v true (.rs 3 (.int .i64)))] [.c false (.f (.cap true 157 [.rs 3 (.int .i64)]))] x = F139 n x.1 := by kernel_rfl
theorem con139_ok (n : Nat) : Con.ok Try.prog 139 (con139 n) := conAl_ok (conOf_ok (tb139_ok n) (body_la (by kernel_rfl : Try.f139.body = some code139) (la139 n)) Try.func139 (enters Try.func139 (by kernel_rfl) (by kernel_rfl)) rfl rfl (ev139 n))

/-! ### slices.Sorted -/
def F138 (n : Nat) (a0 : List Int × Unit) : Option (rdens [.c false (.f (.cap false 157 [.rs 3 (.int .i64)]))] [.c false (.r 3 (.int .i64))]) :=
  if a0.1.length * 8 ≤ 140737488355328 then some (a0.1.mergeSort fun a b => decide (a ≤ b), ()) else none
noncomputable def con138 (n : Nat) : Con := conOf [.c false (.f (.cap false 157 [.rs 3 (.int .i64)]))] [.c false (.r 3 (.int .i64))] fun x => F138 n x.1

theorem sorted_calls (pa : Addr) (A : Option Addr) (cap : Nat) (xs : List Int) (w : World) (S : Nat → Prop) (hS : ∀ k, S k → k < w.heap.size) (hreach : xs.length * 8 ≤ 140737488355328) (hpa : S pa.block) (hp : w.cell? pa = some (.slice A xs.length cap)) (hr : RdRow S (RdE S (.int .i64) w) 1 w A xs) :
    Calls Try.prog 138 #[.func (.func 157) #[] #[.pointer (some pa)]] w fun e w' => ∃ v : Value, e = .returned v ∧ w'.ownsRow w.heap.size 3 1 v xs.length ((xs.mergeSort fun x y => decide (x ≤ y)).map encZ) ∧ Below w.heap.size w w' := by
  refine (callsIn_wide (n := 6)).1 ?_
  have hmax : xs.length ≤ maxLen := by unfold maxLen; omega
  have hseq : SeqB Fence.wide 3 Try.prog 157 #[.pointer (some pa)] encZ xs w := by
    cases hx : xs with
    | nil => subst hx; exact valsN 3 pa A cap w (hS _ hpa) hp
    | cons y ys =>
      obtain ⟨ad, h1, h2, h3⟩ := hr.2 (by rw [hx]; simp)
      subst h1
      rw [← hx]
      refine valsB 3 (by omega) pa ad cap xs w hreach (hS _ hpa) (hS _ h2) hp fun j hj => ?_
      obtain ⟨c, k1, k2, k3⟩ := h3 j xs[j] (by simp [hj])
      have k2 : c = [.int .i64 xs[j]] := k2
      have := k3 0 (.int .i64 xs[j]) (by rw [k2]; rfl)
      rw [Nat.mul_one, Nat.add_zero] at this
      rw [this, List.getElem?_eq_getElem hj]
      rfl
  have cS := sortB Try.sortedA Fence.wide 6 trivial trivial trivial trivial rfl (by omega) (sortsA _) (enters_of Try.func156 (by kernel_rfl) rfl) 157 #[.pointer (some pa)] trivial (enters_of Try.func157 (by kernel_rfl) rfl) xs hmax hreach w hseq
  change CallsIn _ _ Try.prog 138 _ _ _ at cS
  exact cS.mono fun e w' ⟨v, h1, h2, _, h4⟩ => ⟨v, h1, h2, h4⟩

theorem con138_ok (n : Nat) : Con.ok Try.prog 138 (con138 n) := by
  refine conOf_gen (enters Try.func138 (by kernel_rfl) (by kernel_rfl)) rfl (pad := fun a => a) (fun args j y hj => ?_) fun ci args xs ys hys hD hs hl hsz hsig hO => ?_
  · rw [Array.getElem?_toList] at hj
    rw [Nat.zero_add, Array.getD_eq_getD_getElem?, hj]
    rfl
  · obtain ⟨xs, _⟩ := xs
    unfold F138 at hys
    split at hys
    rotate_left
    · cases hys
    rename_i hreach
    injection hys with hys
    subst hys
    obtain ⟨y, rfl⟩ : ∃ y, args = #[y] := by
      rcases args with ⟨l⟩
      match l, hsz with
      | [y], _ => exact ⟨y, rfl⟩
    obtain ⟨⟨h1, h2⟩, _, _⟩ := hsig
    have h1 : y.oneCell' = true := h1
    have h2 : CKsRel ci [.f (.cap false 157 [.rs 3 (.int .i64)])] (xs, ()) y.cells.toList := h2
    rw [one_cells h1] at h2
    obtain ⟨⟨ps, h3, h4⟩, _⟩ := h2
    rcases ps with ⟨l⟩
    match l, h4 with
    | [p], ⟨⟨ad, h5, h6, c, ⟨A, cap, h7, h8, h9⟩, h10⟩, _⟩ =>
      subst h3 h5
      have hp : ci.w.cell? ad = some (.slice A xs.1.length cap) := by
        have := h10 0 (.slice A xs.1.length cap) (by rw [h7]; rfl)
        rwa [show ad.add 0 = ad from by unfold Addr.add; split <;> simp_all] at this
      refine (sorted_calls ad A cap xs.1 ci.w ci.T hl hreach h6 hp h9).mono fun e w' hh => ?_
      obtain ⟨v, rfl, hrow, hb⟩ := hh
      let c3 : Cx := { ci with w := w' }
      have hone : v.oneCell' = true := by
        rcases hrow.2 with ⟨h, _⟩ | ⟨_, _, _, h, _⟩ <;> rw [h] <;> rfl
      have hbk : ∀ g, blk v = some g → ¬ ci.T g ∧ g < w'.heap.size := by
        intro g hg
        rcases hrow.2 with ⟨h, _⟩ | ⟨g', cap', cur, h, hbase, hc, _⟩
        · rw [h] at hg; cases hg
        · rw [h] at hg
          have hg : g' = g := blk_sl hg
          subst hg
          exact ⟨fun hT => by have := hl _ hT; omega, (Array.getElem?_eq_some_iff.mp hc).1⟩
      have hrow0 : w'.ownsRow 0 3 1 v (xs.1.mergeSort fun a b => decide (a ≤ b)).length ((xs.1.mergeSort fun x y => decide (x ≤ y)).map encZ) := by
        rw [List.length_mergeSort]
        exact ownsRow_base_a hrow (Nat.zero_le _)
      have hcs : CKsRel c3 [.r 3 (.int .i64)] (xs.1.mergeSort fun a b => decide (a ≤ b), ()) v.cells.toList := by
        rw [one_cells hone]
        refine ⟨⟨_, toO hrow0, fun j z hj => ?_⟩, hone, fun g _ h => h.elim, trivial⟩
        show _ = _
        have hlt := (List.getElem?_eq_some_iff.mp hj).1
        have : ((xs.1.mergeSort fun x y => decide (x ≤ y)).map encZ)[j]? = some (.int .i64 z) := by rw [List.getElem?_map, hj]; rfl
        rw [show Ty.sz (.int .i64) = 1 from rfl, Nat.mul_one]
        apply List.ext_getElem?
        intro q
        rw [List.getElem?_take, List.getElem?_drop]
        cases q with
        | zero => rw [if_pos (by omega), Nat.add_zero, this]; rfl
        | succ q => rw [if_neg (by omega)]; rfl
      refine ⟨c3, [v], rfl, rfl, ⟨hb.mono (Nat.zero_le _), fun k hk => hb.block k (hl k hk), fun _ h => h, fun _ h => h, fun _ h => .inl h⟩, rfl, hs, fun k hk => Nat.lt_of_lt_of_le (hl k hk) hb.size, ⟨⟨hone, hcs⟩, fun g _ h => h.elim, trivial⟩, fun g hg => ?_⟩
      rcases hg with hg | hg
      · have hg : OBc w' [.r 3 (.int .i64)] v.cells.toList g := hg
        rw [one_cells hone] at hg
        rcases hg with hg | hg
        · exact hbk g hg
        · exact hg.elim
      · exact hg.elim
end Go.Proofs.Ytdacfaincamliaa.Ev
