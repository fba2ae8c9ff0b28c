/- slices.Clone and slices.Delete: their contracts. Conditions: no longer than a memory bears. -/
import Derived.Test.YtdacfaincamliaaEvGen
import Derived.Test.YtdacfaincamliaaProg
import Derived.Shelf.SlicesE.Clone
import Derived.Shelf.SlicesE.Delete
namespace Go.Proofs.Ytdacfaincamliaa.Ev
open Go Go.RowKit Go.Shelf Go.Lib Go.Sort Go.Proofs

section
variable {P : Program} {ρ : Ren}
set_option maxHeartbeats 2000000 in
set_option maxRecDepth 100000 in
/-- slices.Clone of a slice that is not nil. -/
theorem clone_calls (L : SlLaysE0.n41 P ρ) (i0 : TypeInfo) (z : Value) (size bytes : Nat) (hi : P.info? (ρ.t 23) = some i0) (hz0 : i0.zero = some z) (hz1 : i0.size = size) (hz2 : i0.bytes = bytes) (hzs : z.cells.size = size) (hsz : 0 < size)
    (z23 : ∀ w, (Go.sizeOf (ρ.t 23)).run P w = .ok size w) (ad : Addr) (n c : Nat) (news : List Value) (w : World) (hl : news.length = n * size) (hn : n ≤ maxLen) (hbig : n * bytes ≤ 140737488355328)
    (hc : ∀ j u, news[j]? = some u → w.cell? (ad.add j) = some u) (h1 : ∀ u ∈ news, u.oneCell' = true) :
    Calls P (ρ.f 41) #[.slice (some ad) n c] w fun e w' => ∃ v, e = .returned v ∧ w'.ownsRow w.heap.size (ρ.t 23) size v n news ∧ Below w.heap.size w w' := by
  have mixed := L.mixed; have t4 := L.t4; have a4 := L.a4; have z4 := L.z4; have v4 := L.v4; have t22 := L.t22; have a22 := L.a22; have z22 := L.z22; have v22 := L.v22
  have q22 : ∀ (w : World) (a : Option Addr) (n c n' c' : Nat), (binOp .eql (ρ.t 22) (.slice a n c) (.slice none n' c')).run P w = .ok (.bool a.isNone) w := fun w a n c n' c' => Lib.run_eql_slice_nil w _ _ a n c n' c' L.t22
  have u22 : ∀ w, Sem.run P (underlying (ρ.t 22)) w = .ok (TypeDesc.slice (ρ.t 23)) w := run_underlying t22
  have A : Aside (∀ j u, news[j]? = some u → w.cell? (ad.add j) = some u) := hc
  clear hc
  obtain ⟨_, _, FG⟩ := L.f41
  go_enter FG, SlBodyN.n41_ntmps ρ
  go_wp2_with (at_builtin; refine wpList_append_own _ rfl _ _ (ρ.t 22) rfl w.heap.size (ρ.t 23) i0 z size bytes t22 hi hz0 hz1 hz2 hzs hsz _ _ _ rfl (World.ownsRow_made w #[] 0 (Nat.le_refl _) (Nat.zero_le _) (by simp)) ad n c news rfl ?qc1 ?qc2 ?qc3 ?qc4 ?qc5 ?qc6 ?_)
  case qc1 => exact hl
  case qc2 =>
    intro j u hj
    exact Lib.cell?_alloc_some _ (A.out j u hj)
  case qc3 => exact h1
  case qc4 => rw [Nat.zero_add]; exact hn
  case qc5 => rw [Nat.zero_add]; exact hbig
  case qc6 => simp
  intro v' w1 hown hgrow hnil
  go_wp2
  go_ret
  exact ⟨v', rfl, by simpa using hown, ((Below.refl _ w).alloc (Nat.le_refl _) _).grown hgrow (by simp) (by intro k hk; simp [Value.ownBlock] at hk; omega)⟩

theorem news_one {S : Nat → Prop} {t : Ty} {w : World} {xs : List t.den} {news : List Value} (h1 : news.length = xs.length * t.sz) (h3 : ∀ j x, xs[j]? = some x → RdE S t w x ((news.drop (j * t.sz)).take t.sz)) : ∀ u ∈ news, u.oneCell' = true := by
  intro u hu
  obtain ⟨k, hk, rfl⟩ := List.getElem_of_mem hu
  have hsz : 0 < t.sz := Nat.pos_of_ne_zero fun h0 => by rw [h1, h0] at hk; omega
  have hj : k / t.sz < xs.length := Nat.div_lt_of_lt_mul (by rw [Nat.mul_comm, ← h1]; exact hk)
  have hm := Nat.mod_lt k hsz
  refine RdE.one (h3 _ _ (List.getElem?_eq_getElem hj)) _ ?_
  have e : k / t.sz * t.sz + k % t.sz = k := by rw [Nat.mul_comm]; exact Nat.div_add_mod k t.sz
  refine List.mem_iff_getElem?.mpr ⟨k % t.sz, ?_⟩
  rw [List.getElem?_take, if_pos hm, List.getElem?_drop, e, List.getElem?_eq_getElem hk]

theorem clone_row (L : SlLaysE0.n41 P ρ) {t : Ty} (S I : Nat → Prop) (w : World) (hSI : ∀ (x : t.den) (cs : List Value), RdE S t w x cs → RdE I t w x cs) (i0 : TypeInfo) (z : Value) (bytes : Nat) (hi : P.info? (ρ.t 23) = some i0) (hz0 : i0.zero = some z) (hz1 : i0.size = t.sz) (hz2 : i0.bytes = bytes) (hzs : z.cells.size = t.sz) (hsz : 0 < t.sz)
    (z23 : ∀ w, (Go.sizeOf (ρ.t 23)).run P w = .ok t.sz w) (A : Option Addr) (cp : Nat) (xs : List t.den) (hreach : xs.length * bytes ≤ 140737488355328) (hr : RdRow S (RdE S t w) t.sz w A xs) :
    Calls P (ρ.f 41) #[.slice A xs.length cp] w fun e w' => ∃ v inner, e = .returned v ∧ oRow w' (ρ.t 23) t.sz v xs.length inner ∧ Below w.heap.size w w' ∧ (∀ g, blk v = some g → w.heap.size ≤ g) ∧ ∀ j x, xs[j]? = some x → RdE I t w x ((inner.drop (j * t.sz)).take t.sz) := by
  cases A with
  | none =>
    have h0 : xs.length = 0 := by
      rcases Nat.eq_zero_or_pos xs.length with h | h
      · exact h
      · obtain ⟨ad, h6, _⟩ := hr.2 h; cases h6
    refine (AnyE.slices_Clone_nil L xs.length cp w).mono ?_
    rintro e w' ⟨rfl, rfl⟩
    refine ⟨_, [], rfl, ⟨by rw [h0]; simp, .inl ⟨none, rfl, h0⟩⟩, Below.refl _ _, fun g hg => (by cases hg), fun j x hj => ?_⟩
    rw [List.eq_nil_of_length_eq_zero h0] at hj
    simp at hj
  | some ad =>
    have hrow : ∀ j x, xs[j]? = some x → ∃ cc : List Value, cc.length = t.sz ∧ RdE S t w x cc ∧ ∀ i u, cc[i]? = some u → w.cell? (ad.add (j * t.sz + i)) = some u := by
      intro j x hj
      obtain ⟨ad', h6, h7, h8⟩ := hr.2 (by have := (List.getElem?_eq_some_iff.mp hj).1; omega)
      injection h6 with h6
      subst h6
      exact h8 j x hj
    obtain ⟨news, n1, n2, n3⟩ := row_news (c := ⟨[], S, S, w, fun _ => undef, fun _ _ => False⟩) hrow
    refine (clone_calls L i0 z t.sz bytes hi hz0 hz1 hz2 hzs hsz z23 ad xs.length cp news w n1 hr.1 hreach n2 (news_one n1 n3)).mono ?_
    rintro e w' ⟨v, rfl, g1, g2⟩
    refine ⟨v, news, rfl, toO g1, g2, fun g hg => ?_, fun j x hj => hSI _ _ (n3 j x hj)⟩
    rcases g1.2 with ⟨h, _⟩ | ⟨g', cap, cur, h, hbase, _⟩
    · rw [h] at hg; cases hg
    · rw [h] at hg
      have hg := blk_sl hg
      omega

/-- The contract of slices.Clone. -/
theorem clone_ok (L : SlLaysE0.n41 P ρ) (henter : ∀ args w, (callFunc (ρ.f 41) args).run P w = .ok (.enter (ρ.f 41) args) w) {t : Ty} (want : Bool) (hw : want = true ∨ flat t = true) (i0 : TypeInfo) (z : Value) (bytes : Nat) (hi : P.info? (ρ.t 23) = some i0) (hz0 : i0.zero = some z) (hz1 : i0.size = t.sz) (hz2 : i0.bytes = bytes) (hzs : z.cells.size = t.sz) (hsz : 0 < t.sz)
    (z23 : ∀ w, (Go.sizeOf (ρ.t 23)).run P w = .ok t.sz w) :
    Con.ok P (ρ.f 41) (conOf [.c false (.v want (.rs (ρ.t 23) t))] [.c false (.r (ρ.t 23) t)] fun x => if x.1.length * bytes ≤ 140737488355328 then some (x.1, ()) else none) := by
  refine conOf_gen henter rfl (pad := fun a => a) (fun args j y hj => ?_) fun ci args xs ys hys hD hs hl hsz' hsig hO => ?_
  · rw [Array.getElem?_toList] at hj
    rw [Nat.zero_add, Array.getD_eq_getD_getElem?, hj]
    rfl
  · obtain ⟨xs, _⟩ := xs
    dsimp only at hys
    split at hys
    rotate_left
    · cases hys
    rename_i hreach
    injection hys with hys
    subst hys
    obtain ⟨y, rfl⟩ : ∃ y, args = #[y] := by
      rcases args with ⟨l⟩
      match l, hsz' with
      | [y], _ => exact ⟨y, rfl⟩
    obtain ⟨⟨h1, h2⟩, _, _⟩ := hsig
    have h1 : y.oneCell' = true := h1
    have h2 : CKsRel ci [.v want (.rs (ρ.t 23) t)] (xs, ()) y.cells.toList := h2
    rw [one_cells h1] at h2
    obtain ⟨⟨A, cp, h3, h4, h5⟩, _⟩ := h2
    have h3 : y = .slice A xs.length cp := by
      have h3 : [y] = [.slice A xs.length cp] := h3
      injection h3
    subst h3
    have hSI : ∀ (x : t.den) (cs : List Value), RdE (ci.S want) t ci.w x cs → RdE ci.I t ci.w x cs := fun x cs h => by
      rcases hw with rfl | hf
      · exact h
      · exact RdE.flat hf h
    refine (clone_row L (ci.S want) ci.I ci.w hSI i0 z bytes hi hz0 hz1 hz2 hzs hsz z23 A cp xs hreach h5).mono fun e w' hh => ?_
    obtain ⟨v, inner, rfl, hrow, hb, hbk, hel⟩ := hh
    let c3 : Cx := { ci with w := w' }
    have hone : v.oneCell' = true := by
      rcases hrow.2 with ⟨_, h, _⟩ | ⟨_, _, _, h, _⟩ <;> rw [h] <;> rfl
    have hbk2 : ∀ g, blk v = some g → ¬ ci.T g ∧ g < w'.heap.size := fun g hg => ⟨fun hT => by have := hl _ hT; have := hbk g hg; omega, ownsRow_lt hrow hg⟩
    have hcs : CKsRel c3 [.r (ρ.t 23) t] (xs, ()) v.cells.toList := by
      rw [one_cells hone]
      exact ⟨⟨inner, hrow, fun j x hj => (hel j x hj).step (fun k hk => hb.block k (hl k (hs k hk))) (fun _ h => h)⟩, hone, fun g _ h => h.elim, trivial⟩
    refine ⟨c3, [v], rfl, rfl, ⟨hb.mono (Nat.zero_le _), fun k hk => hb.block k (hl k hk), fun _ h => h, fun _ h => h, fun _ h => .inl h⟩, rfl, hs, fun k hk => Nat.lt_of_lt_of_le (hl k hk) hb.size, ⟨⟨hone, hcs⟩, fun g _ h => h.elim, trivial⟩, fun g hg => ?_⟩
    rcases hg with hg | hg
    · have hg : OBc w' [.r (ρ.t 23) t] v.cells.toList g := hg
      rw [one_cells hone] at hg
      rcases hg with hg | hg
      · exact hbk2 g hg
      · exact hg.elim
    · exact hg.elim

/-! ### slices.Delete -/
def encI (x : Int) : Value := .int .i64 x
theorem ownL_ints {w : World} : ∀ {xs : List Int} {B : List Nat} {cs : List Value}, OwnL (OwnE (.int .i64) w) 1 B xs cs → B = [] ∧ cs = xs.map encI
  | [], _, _, ⟨h1, h2⟩ => ⟨h1, h2⟩
  | x :: xs, _, _, ⟨B0, B1, c0, c1, hB, h, h0, ⟨h1, h1'⟩, h2⟩ => by
    obtain ⟨k1, k2⟩ := ownL_ints h2
    exact ⟨by rw [hB, h1, k1]; rfl, by rw [h, h1', k2]; rfl⟩
theorem ownL_ofInts {w : World} : ∀ xs : List Int, OwnL (OwnE (.int .i64) w) 1 [] xs (xs.map encI)
  | [] => ⟨rfl, rfl⟩
  | x :: xs => ⟨[], [], [encI x], xs.map encI, rfl, rfl, rfl, ⟨rfl, rfl⟩, ownL_ofInts xs⟩
theorem delete_row (L : SlLaysE.n45 P ρ) (v23 : ∀ w, (zeroValue (ρ.t 23)).run P w = .ok (encI 0) w) (i0 : TypeInfo) (hi0 : P.info? (ρ.t 23) = some i0) (hz1 : i0.size = 1) (xs ys : List Int) (i j : Nat) (hij : i < j) (hjl : j ≤ xs.length) (hys : xs.take i ++ xs.drop j = ys) (w : World) (v : Value) (h5 : oRow w (ρ.t 23) 1 v xs.length (xs.map encI)) :
    Calls P (ρ.f 45) #[v, .int .i64 i, .int .i64 j] w fun e w' => ∃ g n, blk v = some g ∧ g < w.heap.size ∧ e = .returned (.slice (some ⟨g, 0, none⟩) ys.length n) ∧ oRow w' (ρ.t 23) 1 (.slice (some ⟨g, 0, none⟩) ys.length n) ys.length (ys.map encI) ∧ Below 0 w w' ∧ w'.heap.size = w.heap.size ∧ ∀ k, k ≠ g → w'.heap[k]? = w.heap[k]? := by
  rcases h5.2 with ⟨A, _, h0⟩ | ⟨g, cap, cur, rfl, _, hg, q1, q2, q3, q4⟩
  · omega
  rw [Nat.mul_one] at q4 q3
  have hcell : ∀ k, k < xs.length → cur[k]? = some (encI (xs[k]?.getD 0)) := by
    intro k hk
    have h := congrArg (fun l => l[k]?) q4
    simp only [List.getElem?_take, if_pos hk, List.getElem?_map, Array.getElem?_toList] at h
    rw [h, List.getElem?_eq_getElem hk]
    rfl
  have hH : Holds encI w g 0 xs.toArray := by
    intro k hk
    have hk : k < xs.length := by simpa using hk
    refine ⟨?_, ?_⟩
    · unfold World.cell?
      simp only [hg, Nat.zero_add]
      have := hcell k hk
      rw [List.getElem?_eq_getElem hk] at this
      simp only [this]
      rw [getElem!_pos _ k (by simpa using hk)]
      simp
    · unfold World.frozen?
      simp [hg]
  refine (AnyE.slices_Delete L encI (fun _ => rfl) 0 v23 i0 hi0 hz1 g 0 (cap + 1) i j xs.toArray w hH (by simpa using q1) (by unfold maxLen at q2; exact q2) (by omega) (by simpa using hjl)).mono fun e w' hh => ?_
  obtain ⟨rfl, q, rfl⟩ := hh
  have hyl : ys.length = xs.length - (j - i) := by rw [← hys]; simp; omega
  have eD : (xs.toArray.toList.take i ++ xs.toArray.toList.drop j ++ List.replicate (j - i) 0).toArray = (ys ++ List.replicate (j - i) 0).toArray := by
    rw [← hys]
  generalize hD : (ys ++ List.replicate (j - i) (0 : Int)).toArray = D at eD
  rw [eD]
  have hDs : D.size = xs.length := by rw [← hD]; simp only [List.size_toArray, List.length_append, List.length_replicate, hyl]; omega
  have hheap : ∀ k, (putRow encI (Sort.ahead w q) g 0 D).heap[k]? = if k = g then some (.cells (putCells encI 0 D cur) (ρ.t 23) (0, 0)) else w.heap[k]? := by
    intro k
    show ((w.heap).modify g (onCells (putCells encI 0 D)))[k]? = _
    rw [Array.getElem?_modify]
    by_cases e : k = g
    · subst e
      rw [if_pos rfl, if_pos rfl, hg]
      rfl
    · rw [if_neg (fun h => e h.symm), if_neg e]
  have hsize : (putRow encI (Sort.ahead w q) g 0 D).heap.size = w.heap.size := by
    show ((w.heap).modify g _).size = _
    simp
  have hgl : g < w.heap.size := (Array.getElem?_eq_some_iff.mp hg).1
  refine ⟨g, cap + 1, rfl, hgl, by rw [hyl]; simp, ⟨by simp, .inr ⟨g, cap, putCells encI 0 D cur, rfl, Nat.zero_le _, by rw [hheap, if_pos rfl], by omega, q2, by simp [putCells, q3], ?_⟩⟩, ⟨rfl, rfl, rfl, by omega, fun k hk => by omega⟩, hsize, fun k hk => by rw [hheap, if_neg hk]⟩
  rw [Nat.mul_one]
  apply List.ext_getElem?
  intro k
  rw [List.getElem?_take, List.getElem?_map]
  by_cases hk : k < ys.length
  · rw [if_pos hk, Array.getElem?_toList]
    have hkc : k < cur.size := by omega
    unfold putCells
    rw [Array.getElem?_mapIdx, Array.getElem?_eq_getElem hkc, Option.map_some, if_pos ⟨Nat.zero_le _, by omega⟩, Nat.sub_zero, getElem!_pos D k (by omega)]
    rw [List.getElem?_eq_getElem hk]
    subst hD
    simp only [List.getElem_toArray, Option.map_some]
    rw [List.getElem_append_left hk]
  · rw [if_neg hk, List.getElem?_eq_none (by omega)]
    rfl
def cutF (xs : List Int) (a b : Int) : Option (List Int × Unit) := if 0 ≤ a ∧ a < b ∧ b ≤ (xs.length : Int) then some (xs.take a.toNat ++ xs.drop b.toNat, ()) else none
theorem delete_ok (L : SlLaysE.n45 P ρ) (henter : ∀ args w, (callFunc (ρ.f 45) args).run P w = .ok (.enter (ρ.f 45) args) w) (v23 : ∀ w, (zeroValue (ρ.t 23)).run P w = .ok (encI 0) w) (i0 : TypeInfo) (hi0 : P.info? (ρ.t 23) = some i0) (hz1 : i0.size = 1) :
    Con.ok P (ρ.f 45) (conOf [.t false (.rs (ρ.t 23) (.int .i64)), .c false (.v true (.int .i64)), .c false (.v true (.int .i64))] [.c false (.r (ρ.t 23) (.int .i64))] fun x => cutF x.1 x.2.1 x.2.2.1) := by
  refine conOf_gen henter rfl (pad := fun a => a) (fun args j y hj => ?_) fun ci args xs ys hys hD hs hl hsz' hsig hO => ?_
  · rw [Array.getElem?_toList] at hj
    rw [Nat.zero_add, Array.getD_eq_getD_getElem?, hj]
    rfl
  · obtain ⟨y, ya, yb, rfl⟩ : ∃ y ya yb, args = #[y, ya, yb] := by
      rcases args with ⟨l⟩
      match l, hsz' with
      | [y, ya, yb], _ => exact ⟨y, ya, yb, rfl⟩
    have main : ∀ (xs : List Int) (a b : Int) (ys : List Int), cutF xs a b = some (ys, ()) → y.oneCell' = true → CKsRel ci [.o (.rs (ρ.t 23) (.int .i64))] (xs, ()) y.cells.toList → ya = .int .i64 a → yb = .int .i64 b → (∀ g, blk y = some g → ¬ ci.T g) →
        Calls P (ρ.f 45) #[y, ya, yb] ci.w fun e w' => ∃ (c3 : Cx) (v : Value), e = .returned v ∧ v.oneCell' = true ∧ Step ci c3 ∧ c3.w = w' ∧ (∀ k, c3.I k → c3.T k) ∧ (∀ k, c3.T k → k < c3.w.heap.size) ∧ CKsRel c3 [.r (ρ.t 23) (.int .i64)] (ys, ()) [v] ∧ ∀ g, blk v = some g → ¬ c3.T g ∧ g < c3.w.heap.size := by
      rintro xs a b ys hys h1 h2 rfl rfl hT
      unfold cutF at hys
      split at hys
      rotate_left
      · cases hys
      rename_i hab
      injection hys with hys
      injection hys with hys
      obtain ⟨i, rfl⟩ := Int.eq_ofNat_of_zero_le hab.1
      obtain ⟨j, rfl⟩ := Int.eq_ofNat_of_zero_le (show 0 ≤ b by omega)
      rw [Int.toNat_natCast, Int.toNat_natCast] at hys
      rw [one_cells h1] at h2
      obtain ⟨⟨B, ⟨v, inner, B', h3, h4, h5, h6, h7⟩, _⟩, _, _⟩ := h2
      have h3 : [y] = [v] := h3
      injection h3 with h3 _
      subst h3
      obtain ⟨_, rfl⟩ := ownL_ints h7
      refine (delete_row L v23 i0 hi0 hz1 xs ys i j (by omega) (by omega) hys ci.w y h5).mono fun e w' hh => ?_
      obtain ⟨g, n, k1, k2, rfl, k3, k4, k5, k6⟩ := hh
      have hT := hT g k1
      refine ⟨{ ci with w := w' }, _, rfl, rfl, ⟨k4, fun k hk => k6 k (fun e => hT (by rw [← e]; exact hk)), fun _ h => h, fun _ h => h, fun _ h => .inl h⟩, rfl, hs, fun k hk => by show k < w'.heap.size; rw [k5]; exact hl k hk, ⟨⟨ys.map encI, k3, fun k z hk => ?_⟩, rfl, fun g _ h => h.elim, trivial⟩, fun g' hg' => ?_⟩
      · show _ = _
        have hlt := (List.getElem?_eq_some_iff.mp hk).1
        have : (ys.map encI)[k]? = some (.int .i64 z) := by rw [List.getElem?_map, hk]; rfl
        rw [show Ty.sz (.int .i64) = 1 from rfl, Nat.mul_one]
        apply List.ext_getElem?
        intro r
        rw [List.getElem?_take, List.getElem?_drop]
        cases r with
        | zero => rw [if_pos (by omega), Nat.add_zero, this]; rfl
        | succ r => rw [if_neg (by omega)]; rfl
      · have := blk_sl hg'
        subst this
        exact ⟨hT, by show g < w'.heap.size; rw [k5]; exact k2⟩
    obtain ⟨⟨h1, h2⟩, _, ⟨k1, k2⟩, _, ⟨m1, m2⟩, _, _⟩ := hsig
    have k1 : ya.oneCell' = true := k1
    have k2 : CKsRel ci [.v true (.int .i64)] (xs.2.1, ()) ya.cells.toList := k2
    rw [one_cells k1] at k2
    have k3 : [ya] = [.int .i64 xs.2.1] := k2.1
    have m1 : yb.oneCell' = true := m1
    have m2 : CKsRel ci [.v true (.int .i64)] (xs.2.2.1, ()) yb.cells.toList := m2
    rw [one_cells m1] at m2
    have m3 : [yb] = [.int .i64 xs.2.2.1] := m2.1
    have h1 : y.oneCell' = true := h1
    have hT : ∀ g, blk y = some g → ¬ ci.T g := fun g hg => hO g (.inl (by
      show OBc ci.w [.o (.rs (ρ.t 23) (.int .i64))] y.cells.toList g
      rw [one_cells h1]
      exact .inl ⟨y, rfl, .inl hg⟩))
    refine (main xs.1 xs.2.1 xs.2.2.1 ys.1 hys h1 h2 (by injection k3) (by injection m3) hT).mono fun e w' hh => ?_
    obtain ⟨c3, v, rfl, hv, g1, g2, g3, g4, g5, g6⟩ := hh
    refine ⟨c3, [v], rfl, rfl, g1, g2, g3, g4, ⟨⟨hv, ?_⟩, fun g _ h => h.elim, trivial⟩, fun g hg => ?_⟩
    · show CKsRel c3 [.r (ρ.t 23) (.int .i64)] (ys.1, ()) v.cells.toList
      rw [one_cells hv]
      exact g5
    · rcases hg with hg | hg
      · have hg : OBc c3.w [.r (ρ.t 23) (.int .i64)] v.cells.toList g := hg
        rw [one_cells hv] at hg
        rcases hg with hg | hg
        · exact g6 g hg
        · exact hg.elim
      · exact hg.elim
end
end Go.Proofs.Ytdacfaincamliaa.Ev
