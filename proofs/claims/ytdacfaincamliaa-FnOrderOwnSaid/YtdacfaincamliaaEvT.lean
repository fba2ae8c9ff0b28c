/- Two variables that are made and set in one region that draws: whatever the order. Conditions: none. -/
import Derived.Test.YtdacfaincamliaaEvZ
namespace Go.Proofs.Ytdacfaincamliaa.Ev
open Go Go.RowKit

section
variable {P : Program} {R : Type} {tb : Tb}
variable {c : Cx} {st : St} {a : Act} {o : Oper} {K : AV → St → Option R} {r : R}

/-- The worlds in which what was is as it was. -/
def Old (c : Cx) (w : World) : Prop := c.w.heap.size ≤ w.heap.size ∧ ∀ k, k < c.w.heap.size → w.heap[k]? = c.w.heap[k]?

theorem wanted_plain {ops : Array Oper} {o : Oper} (h : o.guard = none) (a : Act) : Region.wanted o (yielded ops a.tmps) = true := by simp [Region.wanted, h]

theorem evQ_goes (htb : tb.ok P) {ops : Array Oper} {Q : Exit → Act → World → Prop} (hp : ∀ ch a w, ¬ Q (.panic ch) a w) (hsel : Region.noSelect ops = true) (hfx : ∀ o, o ∈ ops.toList → dstOk tb.fixed o) {Kc : St → Option R} :
    ∀ {is : List Nat} {fuel : Nat} {l : Array Bool} {a : Act} {c : Cx} {st : St}, Rel c st a.tmps → evQ tb ops is l st Kc = some r →
      (∀ a' st', Kc st' = some r → Rel c st' a'.tmps → Kp tb.fixed a' a → wpAnyD P .any ops Q (fun _ _ w => Old c w) fuel (qSet is l) a' c.w) →
      wpAnyD P .any ops Q (fun _ _ w => Old c w) (fuel + is.length) l a c.w
  | [], fuel, l, a, c, st, hr, h, hq => hq a st h hr (Kp.refl _ _)
  | i :: is, fuel, l, a, c, st, hr, h, hq => by
    unfold evQ at h
    split at h
    rotate_left
    · cases h
    rename_i o hi
    split at h
    rotate_left
    · cases h
    rename_i hc
    simp only [Bool.and_eq_true] at hc
    obtain ⟨⟨hrd, hfree⟩, hQ⟩ := hc
    have hmem : i ∈ Region.ready .any ops l := by simpa using hrd
    unfold isQ at hQ
    simp only [Bool.and_eq_true, Bool.or_eq_true, Option.isNone_iff_eq_none] at hQ
    obtain ⟨hquick, hgd⟩ := hQ
    have hfo := hfx o (opMem hi)
    have fin : ∀ {S0 : World → Prop} {v : AV} {y : Value}, (∀ w, Old c w → S0 w) → (∀ w, S0 w → (execOp a.eval o).run P w = .ok (.value y) w) → evQ tb ops is (l.setIfInBounds i true) (st.put o.dst v) Kc = some r → avRel c v y → wpAnyD P .any ops Q (fun _ _ w => Old c w) (fuel + (i :: is).length) l a c.w := by
      intro S0 v y h0 hrun h2 hv
      have hrest := evQ_goes htb hp hsel hfx (hr.put (a := a) (dst := o.dst) hv) h2 fun a' st' k1 k2 k3 => hq a' st' k1 k2 (k3.trans (Kp.put hfo _ _))
      exact wpAnyD_first (S0 := S0) (Inv := fun _ w => Old c w) hi (Region.noSelect_spec hsel) (fun ch _ _ hh => absurd hh (hp ch _ _)) (fun _ w hI => h0 w hI) (fun _ _ hI => hI) (fun _ _ _ hS => hS) (fuel + is.length) l a c.w (Region.free_spec hi hfree)
        ⟨Nat.le_refl _, fun _ _ => rfl⟩ (fun _ _ _ _ _ _ _ _ _ _ _ hS => hS) hmem (.inl ⟨wanted_plain hgd a, hrun⟩) hrest
    rcases hquick with hq1 | hq1
    · obtain ⟨v, y, hrun, h2, hv⟩ := evOp_pure htb hq1 hr h
      exact fin (S0 := fun _ => True) (fun _ _ => trivial) (fun w _ => hrun w) h2 hv
    · obtain ⟨v, y, b, hrun, h2, hv, hb, _⟩ := evOp_load htb hq1 hr h
      exact fin (S0 := fun w => w.heap[b]? = c.w.heap[b]?) (fun w hw => hw.2 b hb) (fun w hw => hrun w hw) h2 hv

theorem store_guard {ops : Array Oper} {d j : Nat} (h : setsAt ops d j = true) : ∃ o, ops[j]? = some o ∧ o.guard = none := by
  unfold setsAt at h
  split at h
  · rename_i o ho
    split at h
    · simp only [Bool.and_eq_true, Option.isNone_iff_eq_none] at h
      exact ⟨o, ho, h.2⟩
    · cases h
  · cases h
theorem al_spec {ops : Array Oper} {j : Nat} {o : Oper} (h : isAlAt ops j = true) (ho : ops[j]? = some o) : o.guard = none := by
  unfold isAlAt isAl at h
  rw [ho] at h
  simp only [Bool.and_eq_true, Option.isNone_iff_eq_none] at h
  exact h.1.2

theorem al_exec (htb : tb.ok P) {ops : Array Oper} {z d : Nat} {oz : Oper} {te : TypeId} {i : TI} (hz : ops[z]? = some oz) (hop : oz.op = .alloc te) (hgd : oz.guard = none) (hds : oz.dst = some d) (hti : tb.ti te = some i) {Q : Exit → Act → World → Prop} {X : Act → World → Prop} {w : World}
    (hX : ∀ conc : Array Value, conc.toList = i.zero → X (a.put (some d) (.pointer (some ⟨w.heap.size, 0, none⟩))) (w.alloc (.cells conc te))) : wpOp P ops Q z X a w := by
  unfold wpOp
  simp only [hz]
  rw [if_pos (wanted_plain hgd a)]
  refine .inl ?_
  obtain ⟨f, zv, hf, hf2, hf3, hf4, hf5⟩ := (htb.ok0.ti _ _ hti).info
  have hrun : (execOp a.eval oz).run P w = .ok (.value (.pointer (some ⟨w.heap.size, 0, none⟩))) (w.alloc (.cells zv.cells te)) := by
    unfold execOp
    rw [hop]
    simp only [Instr.alloc, zeroValue, typeInfo, newVar, newRow, Sem.run_bind, run_program, Result.andThen_ok, hf, hf4, Sem.run_pure, run_newObj]
    rfl
  refine wp_val hrun ?_
  rw [hds]
  exact hX zv.cells hf5

/-- Both are made, in whatever order. -/
theorem two_rel (htb : tb.ok P) {tx ty : TypeId} {ix iy : TI} (hix : tb.ti tx = some ix) (hiy : tb.ti ty = some iy) {dx dy gx gy : Nat} {w2 : World} {cx cy : Array Value} (hr : Rel c st a.tmps) (hold : ∀ k, k < c.w.heap.size → w2.heap[k]? = c.w.heap[k]?) (hb : Below 0 c.w w2)
    (hx : w2.heap[gx]? = some (.cells cx tx (0, 0))) (hy : w2.heap[gy]? = some (.cells cy ty (0, 0))) (hcx : cx.toList = ix.zero) (hcy : cy.toList = iy.zero) (hgx : c.w.heap.size ≤ gx) (hgy : c.w.heap.size ≤ gy) (hne : gx ≠ gy) :
    ∃ c2, c2.w = w2 ∧ Rel c2 ((((st.add (.box tx (ix.zero.map .v))).put (some dx) (.lf (.ptr (fresh st.store) 0))).add (.box ty (iy.zero.map .v))).put (some dy) (.lf (.ptr (fresh ((st.add (.box tx (ix.zero.map .v))).put (some dx) (.lf (.ptr (fresh st.store) 0))).store) 0))) ((a.put (some dx) (.pointer (some ⟨gx, 0, none⟩))).put (some dy) (.pointer (some ⟨gy, 0, none⟩))).tmps ∧ Step c c2 ∧
      TameM false [fresh st.store, fresh ((st.add (.box tx (ix.zero.map .v))).put (some dx) (.lf (.ptr (fresh st.store) 0))).store] c c2 ∧ (fresh st.store ∉ c.D ∧ fresh ((st.add (.box tx (ix.zero.map .v))).put (some dx) (.lf (.ptr (fresh st.store) 0))).store ∉ c.D) := by
  have hix' := htb.ok0.ti _ _ hix
  have hiy' := htb.ok0.ti _ _ hiy
  have hnT : ∀ g, c.w.heap.size ≤ g → ¬ c.T g := fun g hg hT => by have := hr.s.lt g hT; omega
  have hρ1 : (c.grow w2 (fresh st.store) (.pointer (some ⟨gx, 0, none⟩))).ρ (fresh st.store) = .pointer (some ⟨gx, 0, none⟩) := if_pos rfl
  obtain ⟨p1, s1⟩ := hr.growA (w1 := w2) (y0 := .pointer (some ⟨gx, 0, none⟩)) (e := .box tx (ix.zero.map .v)) hold hb (fun g hg i hi h2 => by
      have h3 := hr.s.ltX hi h2
      have : gx = g := by simpa [blk] using hg
      omega) ⟨gx, cx, hρ1, hnT gx hgx, hx, by rw [hcx]; exact all2_v _ _ hix'.zone⟩
  have q1 := p1.put (a := a) (dst := some dx) (v := .lf (.ptr (fresh st.store) 0)) (y := .pointer (some ⟨gx, 0, none⟩)) ⟨List.mem_append_right _ (List.mem_singleton.mpr rfl), gx, hρ1, rfl⟩
  generalize hst1 : (st.add (.box tx (ix.zero.map .v))).put (some dx) (.lf (.ptr (fresh st.store) 0)) = st1 at q1 ⊢
  have hids : (c.grow w2 (fresh st.store) (.pointer (some ⟨gx, 0, none⟩))).D = st1.store.map (·.1) := q1.s.ids
  have hfr : ∀ i, i ∈ c.D → i ≠ fresh st.store := fun i hi => fresh_not i (by rw [← hr.s.ids]; exact hi)
  have hfr2 : ∀ i, i ∈ c.D ++ [fresh st.store] → i ≠ fresh st1.store := fun i hi => fresh_not i (by rw [← hids]; exact hi)
  have hρ2 : ((c.grow w2 (fresh st.store) (.pointer (some ⟨gx, 0, none⟩))).grow w2 (fresh st1.store) (.pointer (some ⟨gy, 0, none⟩))).ρ (fresh st1.store) = .pointer (some ⟨gy, 0, none⟩) := if_pos rfl
  have how1 : ∀ g, (c.grow w2 (fresh st.store) (.pointer (some ⟨gx, 0, none⟩))).ow (fresh st.store) g → g = gx := by
    rintro g (hg | hg)
    · rw [hρ1] at hg
      have : gx = g := by simpa [blk] using hg
      exact this.symm
    · have hg : (if fresh st.store = fresh st.store then False else c.X (fresh st.store) g) := hg
      rw [if_pos rfl] at hg
      exact hg.elim
  obtain ⟨p2, s2⟩ := q1.growA (w1 := w2) (y0 := .pointer (some ⟨gy, 0, none⟩)) (e := .box ty (iy.zero.map .v)) (fun _ _ => rfl) (Below.refl _ _) (fun g hg i hi h2 => by
      have hgg : gy = g := by simpa [blk] using hg
      have hi : i ∈ c.D ++ [fresh st.store] := hi
      rcases List.mem_append.mp hi with hi | hi
      · have h3 := hr.s.ltX hi (grow_ow (hfr i hi) h2)
        omega
      · rw [List.mem_singleton] at hi
        rw [hi] at h2
        have := how1 g h2
        omega) ⟨gy, cy, hρ2, hnT gy hgy, hy, by rw [hcy]; exact all2_v _ _ hiy'.zone⟩
  have q2 := p2.put (a := a.put (some dx) (.pointer (some ⟨gx, 0, none⟩))) (dst := some dy) (v := .lf (.ptr (fresh st1.store) 0)) (y := .pointer (some ⟨gy, 0, none⟩)) ⟨List.mem_append_right _ (List.mem_singleton.mpr rfl), gy, hρ2, rfl⟩
  have key : ∀ i, i ∈ ((c.grow w2 (fresh st.store) (.pointer (some ⟨gx, 0, none⟩))).grow w2 (fresh st1.store) (.pointer (some ⟨gy, 0, none⟩))).D → ∀ g, g < c.w.heap.size → ((c.grow w2 (fresh st.store) (.pointer (some ⟨gx, 0, none⟩))).grow w2 (fresh st1.store) (.pointer (some ⟨gy, 0, none⟩))).ow i g → i ∈ c.D ∧ c.ow i g := by
    intro i hi g hlt h2
    have hi : i ∈ (c.D ++ [fresh st.store]) ++ [fresh st1.store] := hi
    rcases List.mem_append.mp hi with hi | hi
    · have h3 := grow_ow (hfr2 i hi) h2
      rcases List.mem_append.mp hi with hi | hi
      · exact ⟨hi, grow_ow (hfr i hi) h3⟩
      · rw [List.mem_singleton] at hi
        rw [hi] at h3
        have := how1 g h3
        omega
    · rw [List.mem_singleton] at hi
      rw [hi] at h2
      rcases h2 with h2 | h2
      · rw [hρ2] at h2
        have : gy = g := by simpa [blk] using h2
        omega
      · have h2 : (if fresh st1.store = fresh st1.store then False else (c.grow w2 (fresh st.store) (.pointer (some ⟨gx, 0, none⟩))).X (fresh st1.store) g) := h2
        rw [if_pos rfl] at h2
        exact h2.elim
  have keyρ : ∀ i, i ∈ c.D → ((c.grow w2 (fresh st.store) (.pointer (some ⟨gx, 0, none⟩))).grow w2 (fresh st1.store) (.pointer (some ⟨gy, 0, none⟩))).ρ i = c.ρ i := fun i hi => by
    show (if i = fresh st1.store then _ else (if i = fresh st.store then _ else c.ρ i)) = _
    rw [if_neg (hfr2 i (List.mem_append_left _ hi)), if_neg (hfr i hi)]
  refine ⟨_, rfl, q2, s1.trans s2, ⟨hb.size, fun k hk _ _ => hold k hk, fun i hi g hg hlt => ?_, fun i hM hi g hg hlt => ?_, fun k hk _ => .inl hk, fun i hi g hg hlt => ?_⟩, fun h => hfr _ h rfl, fun h => hfr2 _ (List.mem_append_left _ h) rfl⟩
  · obtain ⟨h1, h2⟩ := key i hi g hlt (.inl (ownBlock_blk hg))
    exact .inl ⟨i, h1, by rw [← keyρ i h1]; exact hg⟩
  · obtain ⟨h1, h2⟩ := key i hi g hlt hg
    exact ⟨i, hM, h1, h2⟩
  · obtain ⟨h1, h2⟩ := key i hi g hlt hg
    exact ⟨i, h1, h2⟩

theorem evTwo_goes (htb : tb.ok P) {ops : Array Oper} {Q : Exit → Act → World → Prop} (hp : ∀ ch a w, ¬ Q (.panic ch) a w) (hsel : Region.noSelect ops = true) (hfx : ∀ o, o ∈ ops.toList → dstOk tb.fixed o) {g : Two} (hg : Two.ok ops g = true) {Kc : St → Option R} (hr : Rel c st a.tmps) (h : evTwo tb ops g st Kc = some r)
    (hq : ∀ a' c' st', Kc st' = some r → Rel c' st' a'.tmps → Step c c' → Kp tb.fixed a' a → Q .normal a' c'.w) : wpAnyD P .any ops Q (fun _ _ w => Old c w) ops.size (Array.replicate ops.size false) a c.w := by
  unfold Two.ok at hg
  simp only [Bool.and_eq_true, beq_iff_eq, bne_iff_ne, ne_eq, List.isEmpty_iff] at hg
  obtain ⟨⟨⟨⟨⟨⟨⟨⟨⟨⟨⟨⟨⟨hdd, hax⟩, hay⟩, hss⟩, htt⟩, hdx⟩, hdy⟩, r0⟩, rx⟩, ry⟩, rxy⟩, rs⟩, rt⟩, hsz⟩ := hg
  unfold evTwo at h
  suffices main : wpAnyD P .any ops Q (fun _ _ w => Old c w) (4 + (qList ops g).length) (Array.replicate ops.size false) a c.w by
    rwa [show 4 + (qList ops g).length = ops.size by omega] at main
  refine evQ_goes htb hp hsel hfx hr h fun a1 st1 h1 hr1 hk1 => ?_
  clear h hr
  generalize hL : qSet (qList ops g) (Array.replicate ops.size false) = L at r0 rx ry rxy rs rt ⊢
  split at h1
  rotate_left
  · cases h1
  rename_i ox oy os ot ex ey es et
  split at h1
  rotate_left
  · cases h1
  rename_i tx ty opx opy
  split at h1
  rotate_left
  · cases h1
  rename_i ix iy hix hiy
  have gdx := al_spec hax ex
  have gdy := al_spec hay ey
  have dsx : ox.dst = some g.dx := by unfold dstAt at hdx; rw [ex] at hdx; exact hdx
  have dsy : oy.dst = some g.dy := by unfold dstAt at hdy; rw [ey] at hdy; exact hdy
  obtain ⟨os', es', gds⟩ := store_guard hss
  obtain ⟨ot', et', gdt⟩ := store_guard htt
  rw [es] at es'
  injection es' with es'
  rw [et] at et'
  injection et' with et'
  subst es' et'
  simp only at h1
  split at h1
  rotate_left
  · cases h1
  rename_i hin1
  -- both are made
  have made : ∀ {w2 : World} {gx gy : Nat} {cx cy : Array Value}, (∀ k, k < c.w.heap.size → w2.heap[k]? = c.w.heap[k]?) → Below 0 c.w w2 → w2.heap[gx]? = some (.cells cx tx (0, 0)) → w2.heap[gy]? = some (.cells cy ty (0, 0)) → cx.toList = ix.zero → cy.toList = iy.zero → c.w.heap.size ≤ gx → c.w.heap.size ≤ gy → gx ≠ gy →
      wpAnyD P .any ops Q (fun _ _ w => Old c w) 2 ((L.setIfInBounds g.x true).setIfInBounds g.y true) ((a1.put (some g.dx) (.pointer (some ⟨gx, 0, none⟩))).put (some g.dy) (.pointer (some ⟨gy, 0, none⟩))) w2 := by
    intro w2 gx gy cx cy k1 k2 k3 k4 k5 k6 k7 k8 k9
    obtain ⟨c2, rfl, hr2, st2, tm2, nf1, nf2⟩ := two_rel htb hix hiy (dx := g.dx) (dy := g.dy) hr1 k1 k2 k3 k4 k5 k6 k7 k8 k9
    have old : ∀ {c' : Cx}, TameM false [fresh st1.store, fresh ((st1.add (.box tx (ix.zero.map .v))).put (some g.dx) (.lf (.ptr (fresh st1.store) 0))).store] c c' → Old c c'.w := fun {c'} tm => ⟨tm.size, fun k hk => tm.old k hk (fun h => by cases h) fun i hi hiD => by
      rcases List.mem_cons.mp hi with rfl | hi
      · exact absurd hiD nf1
      · rw [List.mem_singleton] at hi
        rw [hi] at hiD
        exact absurd hiD nf2⟩
    have hkx : Kp tb.fixed ((a1.put (some g.dx) (.pointer (some ⟨gx, 0, none⟩))).put (some g.dy) (.pointer (some ⟨gy, 0, none⟩))) a := by
      have e1 := Kp.put (o := ox) (hfx _ (opMem ex)) a1 (.pointer (some ⟨gx, 0, none⟩))
      have e2 := Kp.put (o := oy) (hfx _ (opMem ey)) (a1.put ox.dst (.pointer (some ⟨gx, 0, none⟩))) (.pointer (some ⟨gy, 0, none⟩))
      rw [dsx] at e1
      rw [dsy, dsx] at e2
      exact (e2.trans e1).trans hk1
    generalize ((a1.put (some g.dx) (.pointer (some ⟨gx, 0, none⟩))).put (some g.dy) (.pointer (some ⟨gy, 0, none⟩))) = a2 at hr2 hkx ⊢
    refine ⟨fun h0 => (by rw [rxy] at h0; cases h0), fun j hj => ?_⟩
    rw [rxy, List.mem_singleton] at hj
    subst hj
    unfold wpOp
    simp only [es]
    rw [if_pos (wanted_plain gds a2)]
    refine .inl (store_in htb hin1 hr2 h1 _ _ fun v y c3 st3 n1 n2 n3 n4 n5 => ?_)
    refine ⟨old (tm2.trans n5), fun h0 => (by rw [rs] at h0; cases h0), fun j hj => ?_⟩
    rw [rs, List.mem_singleton] at hj
    subst hj
    split at n1
    rotate_left
    · cases n1
    rename_i hin2
    unfold wpOp
    simp only [et]
    rw [if_pos (wanted_plain gdt _)]
    refine .inl (store_in htb hin2 (n2.put (a := a2) (dst := os.dst) n3) n1 _ _ fun v' y' c4 st4 m1 m2 m3 m4 m5 => ?_)
    refine ⟨old ((tm2.trans n5).trans m5), rt, ?_⟩
    exact hq _ c4 _ m1 (m2.put (a := a2.put os.dst y) (dst := ot.dst) m3) ((st2.trans n4).trans m4) (((Kp.put (hfx _ (opMem et)) _ _).trans (Kp.put (hfx _ (opMem es)) _ _)).trans hkx)
  have one : ∀ conc te, Below 0 c.w (c.w.alloc (.cells conc te)) := fun conc te => alloc_below _ _
  refine ⟨fun h0 => (by rw [r0] at h0; cases h0), fun j hj => ?_⟩
  rw [r0] at hj
  rcases List.mem_cons.mp hj with rfl | hj
  · refine al_exec htb ex opx gdx dsx hix fun conc hc => ⟨⟨(one conc tx).size, alloc_old _ _⟩, fun h0 => (by rw [rx] at h0; cases h0), fun j hj => ?_⟩
    rw [rx, List.mem_singleton] at hj
    subst hj
    refine al_exec htb ey opy gdy dsy hiy fun conc2 hc2 => ?_
    have hs1 : (c.w.alloc (.cells conc tx)).heap.size = c.w.heap.size + 1 := by simp
    have hold2 : ∀ k, k < c.w.heap.size → ((c.w.alloc (.cells conc tx)).alloc (.cells conc2 ty)).heap[k]? = c.w.heap[k]? := fun k hk => (alloc_old _ _ k (by omega)).trans (alloc_old _ _ k hk)
    have hb2 := (one conc tx).trans (alloc_below (c.w.alloc (.cells conc tx)) (.cells conc2 ty))
    refine ⟨⟨hb2.size, hold2⟩, made hold2 hb2 ?_ (heap_alloc_new _ _) hc hc2 (Nat.le_refl _) (by omega) (by omega)⟩
    rw [alloc_old _ _ _ (by omega)]
    exact heap_alloc_new _ _
  · rw [List.mem_singleton] at hj
    subst hj
    refine al_exec htb ey opy gdy dsy hiy fun conc hc => ⟨⟨(one conc ty).size, alloc_old _ _⟩, fun h0 => (by rw [ry] at h0; cases h0), fun j hj => ?_⟩
    rw [ry, List.mem_singleton] at hj
    subst hj
    refine al_exec htb ex opx gdx dsx hix fun conc2 hc2 => ?_
    have hs1 : (c.w.alloc (.cells conc ty)).heap.size = c.w.heap.size + 1 := by simp
    have hold2 : ∀ k, k < c.w.heap.size → ((c.w.alloc (.cells conc ty)).alloc (.cells conc2 tx)).heap[k]? = c.w.heap[k]? := fun k hk => (alloc_old _ _ k (by omega)).trans (alloc_old _ _ k hk)
    have hb2 := (one conc ty).trans (alloc_below (c.w.alloc (.cells conc ty)) (.cells conc2 tx))
    refine ⟨⟨hb2.size, hold2⟩, ?_⟩
    have hm := made (gx := (c.w.alloc (.cells conc ty)).heap.size) (gy := c.w.heap.size) hold2 hb2 (heap_alloc_new _ _) (by rw [alloc_old _ _ _ (by omega)]; exact heap_alloc_new _ _) hc2 hc (by omega) (Nat.le_refl _) (by omega)
    have e1 : (L.setIfInBounds g.y true).setIfInBounds g.x true = (L.setIfInBounds g.x true).setIfInBounds g.y true := by
      by_cases e : g.x = g.y
      · rw [e]
      · exact Array.setIfInBounds_comm _ _ (fun h => e h.symm)
    have e2 : ∀ u v : Value, (a1.put (some g.dy) u).put (some g.dx) v = (a1.put (some g.dx) v).put (some g.dy) u := fun u v => by
      simp only [Act.put]
      rw [Array.setIfInBounds_comm _ _ (fun h => hdd h.symm)]
    rw [e1, e2]
    exact hm

end
end Go.Proofs.Ytdacfaincamliaa.Ev
