/- slices.Sorted over slices.Values, at whole numbers: their contracts. Conditions: the slice is no longer than a memory bears. -/
import Derived.Test.YtdacfaincamliaaKS
import Derived.Test.YtdacfaincamliaaEvGen
import Derived.Test.YtdacfaincamliaaProg
import Derived.Shelf.SortM.Plain
import Derived.Shelf.SortM.SortNone
import Derived.Ground.GgzProg
import Derived.Ground.SlgmProg
import Derived.RangeFuncLeaves
import Derived.Shelf.AbstractIn
import Derived.WalkKit
import Derived.OwnWalkIn
import Derived.TacticsInMore
import Derived.LoopNIn
import Derived.LoopIn
namespace Go.Proofs.Ytdacfaincamliaa.Ev
open Go Go.RowKit Go.Maps Go.Sort Go.Shelf Go.Proofs
attribute [local go_sem] Oper.semAt_some

set_option maxRecDepth 100000 in
set_option maxHeartbeats 2000000 in
/-- The closure of slices.Values gives the slice's elements. -/
theorem valsB (n : Nat) (hn : 1 ≤ n) (pa ad : Addr) (cap : Nat) (xs : List Int) (w : World) (hreach : xs.length * 8 ≤ 140737488355328) (hpa : pa.block < w.heap.size) (had : ad.block < w.heap.size) (hp : w.cell? pa = some (.slice (some ad) xs.length cap))
    (hc : ∀ j, j < xs.length → w.cell? (ad.add j) = some (.int .i64 (xs[j]?.getD 0))) : SeqB Fence.wide n Try.prog 157 #[.pointer (some pa)] encZ xs w := by
  intro l J W hJB hY h0
  have hpW : W.cell? pa = some (.slice (some ad) xs.length cap) := ((hJB [] W h0).cell (p := pa) hpa).trans hp
  refine callsIn_of_wp Try.func157 rfl trivial ?_ rfl
  simp only [Try.ntmps157, List.size_toArray, List.length_cons, List.length_nil, Nat.reduceAdd, Nat.reduceSub, Array.replicate_succ, Array.replicate_zero, List.push_toArray, List.append_toArray, List.nil_append, List.cons_append]
  gi_wp2
  gi_loopw [7] (fun i wr => ∃ k : Nat, k ≤ xs.length ∧ i = .int .i64 k ∧ J (xs.take k) wr)
    (fun i _ => xs.length - (Go.Proofs.intOf i).toNat)
  case atStart => exact ⟨0, Nat.zero_le _, rfl, h0⟩
  case round =>
    obtain ⟨k, hk, rfl, hJs⟩ := hrel
    by_cases hlt : k < xs.length
    · have hcx : wr.cell? (ad.add k) = some (.int .i64 (xs[k]?.getD 0)) := ((hJB _ _ hJs).cell (p := ad.add k) (by rw [add_block]; exact had)).trans (hc k hlt)
      have hg : xs[k]?.getD 0 = xs[k] := by rw [List.getElem?_eq_getElem hlt]; rfl
      rw [hg] at hcx
      obtain ⟨fn, tmps, assign, body, hy, hR⟩ := hY _ xs[k] wr hJs (by simp; omega)
      simp only [encZ] at hy
      gi_wp2
      refine hR.mono ?_
      rintro e W3 ⟨rfl, hJ3⟩
      gi_wp2
      go_roundw
      case rel => exact ⟨k + 1, by omega, by simp, by rw [List.take_add_one, List.getElem?_eq_getElem hlt]; exact hJ3⟩
      case measure => simp [Go.Proofs.intOf]; omega
    · obtain rfl : k = xs.length := by omega
      gi_wp2
      go_end0
      exact ⟨⟨_, rfl⟩, by rw [List.take_length] at hJs; exact hJs⟩

set_option maxRecDepth 100000 in
set_option maxHeartbeats 2000000 in
/-- So where there are none. -/
theorem valsN (n : Nat) (pa : Addr) (A : Option Addr) (cap : Nat) (w : World) (hpa : pa.block < w.heap.size) (hp : w.cell? pa = some (.slice A 0 cap)) : SeqB Fence.wide n Try.prog 157 #[.pointer (some pa)] encZ [] w := by
  intro l J W hJB hY h0
  have hpW : W.cell? pa = some (.slice A 0 cap) := ((hJB [] W h0).cell (p := pa) hpa).trans hp
  refine callsIn_of_wp Try.func157 rfl trivial ?_ rfl
  simp only [Try.ntmps157, List.size_toArray, List.length_cons, List.length_nil, Nat.reduceAdd, Nat.reduceSub, Array.replicate_succ, Array.replicate_zero, List.push_toArray, List.append_toArray, List.nil_append, List.cons_append]
  gi_wp2
  gi_loopw [7] (fun i wr => i = .int .i64 0 ∧ J [] wr) (fun _ _ => 0)
  case atStart => exact ⟨rfl, h0⟩
  case round =>
    obtain ⟨rfl, hJs⟩ := hrel
    gi_wp2
    go_end0
    exact ⟨⟨_, rfl⟩, hJs⟩

shelf_lay_g SlLaysZI.n6 Ggz 6 at Try 138 as Try.sortedA
shelf_lay_g SlLaysM.n5 Slgm 5 at Try 156 as Try.sortA

theorem sortsA (m : Nat) : AnyZI.SortsIn Try.prog Try.sortedA_ren Fence.wide m :=
  ⟨fun blk off cap ss W hH hblk hsz => callsIn_wide.2 (AnyM.slices_Sort_int Try.sortA blk off cap ss W hH hblk hsz),
   fun p cap W => callsIn_wide.2 (AnyM.slices_Sort_int_none Try.sortA p cap W)⟩

/-! ### slices.Values -/
def F139 (n : Nat) (a0 : List Int) : Option (rdens [.c false (.v true (.rs 3 (.int .i64)))] [.c false (.f (.cap true 157 [.rs 3 (.int .i64)]))]) := some ((a0, ()), ())
noncomputable def con139 (n : Nat) : Con := conAl (conOf [.c false (.v true (.rs 3 (.int .i64)))] [.c false (.f (.cap true 157 [.rs 3 (.int .i64)]))] fun x => F139 n x.1)
noncomputable def tb139 (n : Nat) : Tb := ⟨tiOf Try.prog, conL [], n, [], 4, lpL [], ctL [], [], true⟩
noncomputable def code139 : Code := Try.f139.body.getD .skip
theorem tb139_ok (n : Nat) : (tb139 n).ok Try.prog := tbOk (by kernel_rfl) trivial
theorem blocks139 : blocks code139 = [] := by kernel_rfl
theorem la139 (n : Nat) : LpAll (tb139 n) code139 := lpAll blocks139 (bl_nil) rfl (cs_no fun _ => rfl) (by kernel_rfl)
theorem ev139 (n : Nat) (x : pdens [.c false (.v true (.rs 3 (.int .i64)))]) : evSig (tb139 n) Try.f139 [.c false (.v true (.rs 3 (.int .i64)))] [.c false (.f (.cap true 157 [.rs 3 (.int .i64)]))] x = F139 n x.1 := by kernel_rfl
theorem con139_ok (n : Nat) : Con.ok Try.prog 139 (con139 n) := conAl_ok (conOf_ok (tb139_ok n) (body_la (by kernel_rfl : Try.f139.body = some code139) (la139 n)) Try.func139 (enters Try.func139 (by kernel_rfl) (by kernel_rfl)) rfl rfl (ev139 n))

/-! ### slices.Sorted -/
def F138 (n : Nat) (a0 : List Int × Unit) : Option (rdens [.c false (.f (.cap false 157 [.rs 3 (.int .i64)]))] [.c false (.r 3 (.int .i64))]) :=
  if a0.1.length * 8 ≤ 140737488355328 then some (a0.1.mergeSort fun a b => decide (a ≤ b), ()) else none
noncomputable def con138 (n : Nat) : Con := conOf [.c false (.f (.cap false 157 [.rs 3 (.int .i64)]))] [.c false (.r 3 (.int .i64))] fun x => F138 n x.1

theorem sorted_calls (pa : Addr) (A : Option Addr) (cap : Nat) (xs : List Int) (w : World) (S : Nat → Prop) (hS : ∀ k, S k → k < w.heap.size) (hreach : xs.length * 8 ≤ 140737488355328) (hpa : S pa.block) (hp : w.cell? pa = some (.slice A xs.length cap)) (hr : RdRow S (RdE S (.int .i64) w) 1 w A xs) :
    Calls Try.prog 138 #[.func (.func 157) #[] #[.pointer (some pa)]] w fun e w' => ∃ v : Value, e = .returned v ∧ w'.ownsRow w.heap.size 3 1 v xs.length ((xs.mergeSort fun x y => decide (x ≤ y)).map encZ) ∧ Below w.heap.size w w' := by
  refine (callsIn_wide (n := 6)).1 ?_
  have hmax : xs.length ≤ maxLen := by unfold maxLen; omega
  have hseq : SeqB Fence.wide 3 Try.prog 157 #[.pointer (some pa)] encZ xs w := by
    cases hx : xs with
    | nil => subst hx; exact valsN 3 pa A cap w (hS _ hpa) hp
    | cons y ys =>
      obtain ⟨ad, h1, h2, h3⟩ := hr.2 (by rw [hx]; simp)
      subst h1
      rw [← hx]
      refine valsB 3 (by omega) pa ad cap xs w hreach (hS _ hpa) (hS _ h2) hp fun j hj => ?_
      obtain ⟨c, k1, k2, k3⟩ := h3 j xs[j] (by simp [hj])
      have k2 : c = [.int .i64 xs[j]] := k2
      have := k3 0 (.int .i64 xs[j]) (by rw [k2]; rfl)
      rw [Nat.mul_one, Nat.add_zero] at this
      rw [this, List.getElem?_eq_getElem hj]
      rfl
  have cS := sortB Try.sortedA Fence.wide 6 trivial trivial trivial trivial rfl (by omega) (sortsA _) (enters_of Try.func156 (by kernel_rfl) rfl) 157 #[.pointer (some pa)] trivial (enters_of Try.func157 (by kernel_rfl) rfl) xs hmax hreach w hseq
  change CallsIn _ _ Try.prog 138 _ _ _ at cS
  exact cS.mono fun e w' ⟨v, h1, h2, _, h4⟩ => ⟨v, h1, h2, h4⟩

theorem con138_ok (n : Nat) : Con.ok Try.prog 138 (con138 n) := by
  refine conOf_gen (enters Try.func138 (by kernel_rfl) (by kernel_rfl)) rfl (pad := fun a => a) (fun args j y hj => ?_) fun ci args xs ys hys hD hs hl hsz hsig hO => ?_
  · rw [Array.getElem?_toList] at hj
    rw [Nat.zero_add, Array.getD_eq_getD_getElem?, hj]
    rfl
  · obtain ⟨xs, _⟩ := xs
    unfold F138 at hys
    split at hys
    rotate_left
    · cases hys
    rename_i hreach
    injection hys with hys
    subst hys
    obtain ⟨y, rfl⟩ : ∃ y, args = #[y] := by
      rcases args with ⟨l⟩
      match l, hsz with
      | [y], _ => exact ⟨y, rfl⟩
    obtain ⟨⟨h1, h2⟩, _, _⟩ := hsig
    have h1 : y.oneCell' = true := h1
    have h2 : CKsRel ci [.f (.cap false 157 [.rs 3 (.int .i64)])] (xs, ()) y.cells.toList := h2
    rw [one_cells h1] at h2
    obtain ⟨⟨ps, h3, h4⟩, _⟩ := h2
    rcases ps with ⟨l⟩
    match l, h4 with
    | [p], ⟨⟨ad, h5, h6, c, ⟨A, cap, h7, h8, h9⟩, h10⟩, _⟩ =>
      subst h3 h5
      have hp : ci.w.cell? ad = some (.slice A xs.1.length cap) := by
        have := h10 0 (.slice A xs.1.length cap) (by rw [h7]; rfl)
        rwa [show ad.add 0 = ad from by unfold Addr.add; split <;> simp_all] at this
      refine (sorted_calls ad A cap xs.1 ci.w ci.T hl hreach h6 hp h9).mono fun e w' hh => ?_
      obtain ⟨v, rfl, hrow, hb⟩ := hh
      let c3 : Cx := { ci with w := w' }
      have hone : v.oneCell' = true := by
        rcases hrow.2 with ⟨h, _⟩ | ⟨_, _, _, h, _⟩ <;> rw [h] <;> rfl
      have hbk : ∀ g, blk v = some g → ¬ ci.T g ∧ g < w'.heap.size := by
        intro g hg
        rcases hrow.2 with ⟨h, _⟩ | ⟨g', cap', cur, h, hbase, hc, _⟩
        · rw [h] at hg; cases hg
        · rw [h] at hg
          have hg : g' = g := by simpa [blk] using hg
          subst hg
          exact ⟨fun hT => by have := hl _ hT; omega, (Array.getElem?_eq_some_iff.mp hc).1⟩
      have hrow0 : w'.ownsRow 0 3 1 v (xs.1.mergeSort fun a b => decide (a ≤ b)).length ((xs.1.mergeSort fun x y => decide (x ≤ y)).map encZ) := by
        rw [List.length_mergeSort]
        exact ownsRow_base_a hrow (Nat.zero_le _)
      have hcs : CKsRel c3 [.r 3 (.int .i64)] (xs.1.mergeSort fun a b => decide (a ≤ b), ()) v.cells.toList := by
        rw [one_cells hone]
        refine ⟨⟨_, hrow0, fun j z hj => ?_⟩, hone, fun g _ h => h.elim, trivial⟩
        show _ = _
        have hlt := (List.getElem?_eq_some_iff.mp hj).1
        have : ((xs.1.mergeSort fun x y => decide (x ≤ y)).map encZ)[j]? = some (.int .i64 z) := by rw [List.getElem?_map, hj]; rfl
        rw [show Ty.sz (.int .i64) = 1 from rfl, Nat.mul_one]
        apply List.ext_getElem?
        intro q
        rw [List.getElem?_take, List.getElem?_drop]
        cases q with
        | zero => rw [if_pos (by omega), Nat.add_zero, this]; rfl
        | succ q => rw [if_neg (by omega)]; rfl
      refine ⟨c3, [v], rfl, rfl, ⟨hb.mono (Nat.zero_le _), fun k hk => hb.block k (hl k hk), fun _ h => h, fun _ h => h, fun _ h => .inl h⟩, rfl, hs, fun k hk => Nat.lt_of_lt_of_le (hl k hk) hb.size, ⟨⟨hone, hcs⟩, fun g _ h => h.elim, trivial⟩, fun g hg => ?_⟩
      rcases hg with hg | hg
      · have hg : OBc w' [.r 3 (.int .i64)] v.cells.toList g := hg
        rw [one_cells hone] at hg
        rcases hg with hg | hg
        · exact hbk g hg
        · exact hg.elim
      · exact hg.elim
end Go.Proofs.Ytdacfaincamliaa.Ev
