/- The evaluator's steps that make or write memory are true of the machine. Conditions: none. -/
import Derived.Test.YtdacfaincamliaaEvMem
namespace Go.Proofs.Ytdacfaincamliaa.Ev
open Go Go.RowKit

section
variable {P : Program} {c : Cx} {st : St} {R : Type} {a : Act} {tb : Tb} {o : Oper} {K : AV → St → Option R} {r : R}

theorem all2_id {f : AV → AV} {c1 : Cx} {env : List AV} {l : List Value} (h : All2 (avRel c) env l) (hm : ∀ v y, avRel c v y → avRel c1 (f v) y) : All2 (avRel c1) (env.map f) l := All2.map (h.mono hm)

theorem mem_ids {store : List (Nat × Ent)} {i : Nat} (h : i ∈ store.map (·.1)) : ∃ e, (i, e) ∈ store := by
  obtain ⟨p, hp, rfl⟩ := List.mem_map.mp h
  exact ⟨p.2, hp⟩

theorem entRel.move {c1 : Cx} {id : Nat} {e : Ent} {f : Leaf → Leaf} (h : entRel c id e) (hl : ∀ l y, leafRel c l y → leafRel c1 (f l) y) (hf : ∀ l, idsL l = [] → f l = l) (hρ : c1.ρ id = c.ρ id)
    (hb : ∀ g, c.ow id g → c1.w.heap[g]? = c.w.heap[g]?) (hT : ∀ g, blk (c.ρ id) = some g → ¬ c1.T g) (hX : ∀ g, c.X id g → c1.X id g) : entRel c1 id (mapE f e) := by
  have hb0 : ∀ g, blk (c.ρ id) = some g → c1.w.heap[g]? = c.w.heap[g]? := fun g hg => hb g (.inl hg)
  cases e with
  | box t cells =>
    obtain ⟨g, conc, h1, _, h2, h3⟩ := h
    have hbg : blk (c.ρ id) = some g := by rw [h1]; rfl
    exact ⟨g, conc, by rw [hρ]; exact h1, hT g hbg, (hb0 g hbg).trans h2, All2.map (h3.mono hl)⟩
  | row e t xs =>
    obtain ⟨inner, h1, _, h3⟩ := h
    refine ⟨inner, by rw [hρ]; exact ownsRow_move h1 hb0, by rw [hρ]; exact hT, h3.mono_mem fun l hm y hy => ?_⟩
    have := hl l y hy
    rwa [hf l (by
      obtain ⟨x, _, hx⟩ := List.mem_flatMap.mp hm
      exact idsL_leaves true t x l hx)] at this
  | lrow e t n cells =>
    obtain ⟨inner, h1, _, h3⟩ := h
    exact ⟨inner, by rw [hρ]; exact ownsRow_move h1 hb0, by rw [hρ]; exact hT, All2.map (h3.mono hl)⟩
  | deep e t xs =>
    obtain ⟨inner, B, h1, h2, h3, h4, h5⟩ := h
    exact ⟨inner, B, by rw [hρ]; exact ownsRow_move h1 hb0, by rw [hρ]; exact fun g hg => ⟨hT g hg, (h2 g hg).2⟩, h3, fun g hg => hX g (h4 g hg), h5.moveE fun g hg => hb g (.inr (h4 g hg))⟩
  | zip e t l cells r =>
    obtain ⟨i0, i1, i2, B0, B2, h1, h2, h3, h4, h5, h6, h7, h8⟩ := h
    exact ⟨i0, i1, i2, B0, B2, by rw [hρ]; exact ownsRow_move h1 hb0, by rw [hρ]; exact fun g hg => ⟨hT g hg, (h2 g hg).2⟩, h3, fun g hg => hX g (h4 g hg), h5.moveE fun g hg => hb g (.inr (h4 g (List.mem_append_left _ hg))), h6, All2.map (h7.mono hl),
      h8.moveE fun g hg => hb g (.inr (h4 g (List.mem_append_right _ hg)))⟩

theorem mapE_id {f : Leaf → Leaf} (hf : ∀ l, f l = l) (e : Ent) : mapE f e = e := by
  cases e with
  | box t cells => simp only [mapE]; rw [show cells.map f = cells from by rw [List.map_congr_left (fun l _ => hf l)]; simp]
  | row e t xs => rfl
  | lrow e t n cells => simp only [mapE]; rw [show cells.map f = cells from by rw [List.map_congr_left (fun l _ => hf l)]; simp]
  | deep e t xs => rfl
  | zip e t l cells r => simp only [mapE]; rw [show cells.map f = cells from by rw [List.map_congr_left (fun l _ => hf l)]; simp]

theorem fresh_not {store : List (Nat × Ent)} : ∀ i, i ∈ store.map (·.1) → i ≠ fresh store := by
  intro i hi
  have : ∀ (l : List Nat), i ∈ l → i ≤ l.foldr max 0 := by
    intro l
    induction l with
    | nil => intro h; cases h
    | cons x r ih =>
      intro h
      rcases List.mem_cons.mp h with rfl | h
      · exact Nat.le_max_left _ _
      · exact Nat.le_trans (ih h) (Nat.le_max_right _ _)
  have := this _ hi
  unfold fresh
  omega

/-- The context behind a new entry, B its blocks beside. -/
def Cx.growX (c : Cx) (w1 : World) (id : Nat) (y : Value) (B : Nat → Prop) : Cx := { D := c.D ++ [id], I := c.I, T := c.T, w := w1, ρ := fun i => if i = id then y else c.ρ i, X := fun i g => if i = id then B g else c.X i g }
abbrev Cx.grow (c : Cx) (w1 : World) (id : Nat) (y : Value) : Cx := c.growX w1 id y fun _ => False

theorem leaf_growX (hs : SRel c st.store) {w1 : World} {y0 : Value} {B : Nat → Prop} (hold : ∀ k, k < c.w.heap.size → w1.heap[k]? = c.w.heap[k]?) : ∀ l y, leafRel c l y → leafRel (c.growX w1 (fresh st.store) y0 B) l y := by
  intro l y h
  refine leafRel.move (c' := c.growX w1 (fresh st.store) y0 B) (fun k hk => hold k (hs.lt k hk)) hs.sub (fun _ h => h) (fun _ h => h) (fun i _ hi => ⟨List.mem_append_left _ hi, ?_⟩) h
  show (if i = fresh st.store then y0 else c.ρ i) = c.ρ i
  rw [if_neg (fresh_not i (by rw [← hs.ids]; exact hi))]
theorem leaf_grow (hs : SRel c st.store) {w1 : World} {y0 : Value} (hold : ∀ k, k < c.w.heap.size → w1.heap[k]? = c.w.heap[k]?) : ∀ l y, leafRel c l y → leafRel (c.grow w1 (fresh st.store) y0) l y := leaf_growX hs hold

theorem Rel.growX {tmps : Array Value} (h : Rel c st tmps) {w1 : World} {y0 : Value} {e : Ent} {B : Nat → Prop} (hold : ∀ k, k < c.w.heap.size → w1.heap[k]? = c.w.heap[k]?) (hb : Below 0 c.w w1)
    (hy : ∀ g, blk y0 = some g → ∀ i, i ∈ c.D → ¬ c.ow i g) (hB : ∀ g, B g → (¬ c.T g ∧ g < w1.heap.size) ∧ ∀ i, i ∈ c.D → ¬ c.ow i g) (he : entRel (c.growX w1 (fresh st.store) y0 B) (fresh st.store) e) :
    Rel (c.growX w1 (fresh st.store) y0 B) (st.add e) tmps ∧ Step c (c.growX w1 (fresh st.store) y0 B) := by
  have hs := h.s
  have hl := leaf_growX (y0 := y0) (B := B) hs hold
  have hne : ∀ i, i ∈ c.D → i ≠ fresh st.store := fun i hi => fresh_not i (by rw [← hs.ids]; exact hi)
  have hρ : ∀ i, i ∈ c.D → (c.growX w1 (fresh st.store) y0 B).ρ i = c.ρ i := fun i hi => if_neg (hne i hi)
  have hρ0 : (c.growX w1 (fresh st.store) y0 B).ρ (fresh st.store) = y0 := if_pos rfl
  have hX : ∀ i g, i ∈ c.D → ((c.growX w1 (fresh st.store) y0 B).X i g ↔ c.X i g) := fun i g hi => by
    show (if i = fresh st.store then B g else c.X i g) ↔ c.X i g
    rw [if_neg (hne i hi)]
  have hX0 : ∀ g, (c.growX w1 (fresh st.store) y0 B).X (fresh st.store) g ↔ B g := fun g => by
    show (if fresh st.store = fresh st.store then B g else c.X (fresh st.store) g) ↔ B g
    rw [if_pos rfl]
  have how : ∀ i g, i ∈ c.D → ((c.growX w1 (fresh st.store) y0 B).ow i g ↔ c.ow i g) := fun i g hi => by
    unfold Cx.ow
    rw [hρ i hi, hX i g hi]
  refine ⟨⟨⟨?_, ?_, ?_, ?_, ?_, hs.sub, fun k hk => Nat.lt_of_lt_of_le (hs.lt k hk) hb.size⟩, ?_⟩, ⟨hb, fun k hk => hold k (hs.lt k hk), fun _ h => h, fun _ h => h, fun _ h => .inl h⟩⟩
  · show c.D ++ [_] = (st.store ++ [_]).map _
    rw [List.map_append, hs.ids]
    rfl
  · show (c.D ++ [_]).Nodup
    rw [List.nodup_append]
    refine ⟨hs.nodup, by simp, fun i hi j hj => ?_⟩
    rw [List.mem_singleton] at hj
    rw [hj]
    exact hne i hi
  · intro i e' hm
    rcases List.mem_append.mp hm with hm | hm
    · have hiD : i ∈ c.D := by rw [hs.ids]; exact List.mem_map.mpr ⟨_, hm, rfl⟩
      have := (hs.ent i e' hm).move (f := fun l => l) hl (fun _ _ => rfl) (hρ i hiD) (fun g hg => hold g (hs.ltX hiD hg)) (fun g hg => (hs.ent i e' hm).notT hg) (fun g hg => (hX i g hiD).mpr hg)
      rwa [mapE_id (fun _ => rfl)] at this
    · rw [List.mem_singleton] at hm
      injection hm with h1 h2
      rw [h1, h2]
      exact he
  · have key : ∀ g, (c.growX w1 (fresh st.store) y0 B).ow (fresh st.store) g → ∀ i, i ∈ c.D → ¬ c.ow i g := by
      rintro g (hg | hg)
      · rw [hρ0] at hg
        exact hy g hg
      · exact (hB g ((hX0 g).mp hg)).2
    intro i j g hi hj hij hg
    rcases List.mem_append.mp hi with hi | hi <;> rcases List.mem_append.mp hj with hj | hj
    · rw [how i g hi] at hg
      rw [how j g hj]
      exact hs.apartX i j g hi hj hij hg
    · rw [List.mem_singleton] at hj
      rw [how i g hi] at hg
      rw [hj]
      exact fun h2 => key g h2 i hi hg
    · rw [List.mem_singleton] at hi
      rw [hi] at hg
      rw [how j g hj]
      exact key g hg j hj
    · rw [List.mem_singleton] at hi hj
      exact absurd (hi.trans hj.symm) hij
  · intro i g hi hg
    rcases List.mem_append.mp hi with hi | hi
    · have := hs.ext i g hi ((hX i g hi).mp hg)
      exact ⟨this.1, Nat.lt_of_lt_of_le this.2 hb.size⟩
    · rw [List.mem_singleton] at hi
      rw [hi] at hg
      exact (hB g ((hX0 g).mp hg)).1
  · exact h.env.mono fun _ _ => avRel.imp hl

theorem Rel.growA {tmps : Array Value} (h : Rel c st tmps) {w1 : World} {y0 : Value} {e : Ent} (hold : ∀ k, k < c.w.heap.size → w1.heap[k]? = c.w.heap[k]?) (hb : Below 0 c.w w1)
    (hy : ∀ g, blk y0 = some g → ∀ i, i ∈ c.D → ¬ c.ow i g) (he : entRel (c.grow w1 (fresh st.store) y0) (fresh st.store) e) :
    Rel (c.grow w1 (fresh st.store) y0) (st.add e) tmps ∧ Step c (c.grow w1 (fresh st.store) y0) := h.growX hold hb hy (fun _ h => h.elim) he

theorem Rel.grow {tmps : Array Value} (h : Rel c st tmps) {w1 : World} {y0 : Value} {e : Ent} (hold : ∀ k, k < c.w.heap.size → w1.heap[k]? = c.w.heap[k]?) (hb : Below 0 c.w w1)
    (hy : ∀ g, blk y0 = some g → c.w.heap.size ≤ g) (he : entRel (c.grow w1 (fresh st.store) y0) (fresh st.store) e) :
    Rel (c.grow w1 (fresh st.store) y0) (st.add e) tmps ∧ Step c (c.grow w1 (fresh st.store) y0) :=
  h.growA hold hb (fun g hg i hi h2 => by
    have h3 := h.s.ltX hi h2
    have h4 := hy g hg
    omega) he

theorem alloc_old (w : World) (ob : Obj) : ∀ k, k < w.heap.size → (w.alloc ob).heap[k]? = w.heap[k]? := fun k hk => heap_alloc_old w ob hk
theorem alloc_below (w : World) (ob : Obj) : Below 0 w (w.alloc ob) := ⟨rfl, rfl, rfl, by simp, fun k hk => absurd hk (Nat.not_lt_zero k)⟩

theorem Tame.grow {ap : Bool} {w1 : World} {id : Nat} {y0 : Value} (hs : c.w.heap.size ≤ w1.heap.size) (hold : ∀ k, k < c.w.heap.size → w1.heap[k]? = c.w.heap[k]?) (hne : ∀ i, i ∈ c.D → i ≠ id) (hy : ∀ g, blk y0 = some g → c.w.heap.size ≤ g) : Tame ap c (c.grow w1 id y0) := by
  intro M
  have key : ∀ i, i ∈ (c.grow w1 id y0).D → ∀ g, (c.grow w1 id y0).ow i g → g < c.w.heap.size → i ∈ c.D ∧ (c.grow w1 id y0).ρ i = c.ρ i ∧ c.ow i g := by
    intro i hi g hg hlt
    rcases List.mem_append.mp hi with hi | hi
    · have e1 : (c.grow w1 id y0).ρ i = c.ρ i := if_neg (hne i hi)
      refine ⟨hi, e1, ?_⟩
      rcases hg with hg | hg
      · exact .inl (by rw [← e1]; exact hg)
      · have hg : (if i = id then False else c.X i g) := hg
        rw [if_neg (hne i hi)] at hg
        exact .inr hg
    · rw [List.mem_singleton] at hi
      have : (c.grow w1 id y0).ρ i = y0 := by rw [hi]; exact if_pos rfl
      rcases hg with hg | hg
      · rw [this] at hg
        have := hy g hg
        omega
      · have hg : (if i = id then False else c.X i g) := hg
        rw [if_pos hi] at hg
        exact hg.elim
  refine ⟨hs, fun k hk _ _ => hold k hk, fun i hi g hg hlt => ?_, fun i hM hi g hg hlt => ?_, fun k hk _ => .inl hk, fun i hi g hg hlt => ?_⟩
  · obtain ⟨h1, h2, _⟩ := key i hi g (.inl (ownBlock_blk hg)) hlt
    exact .inl ⟨i, h1, by rw [← h2]; exact hg⟩
  · obtain ⟨h1, h2, h3⟩ := key i hi g hg hlt
    exact ⟨i, hM, h1, h3⟩
  · obtain ⟨h1, h2, h3⟩ := key i hi g hg hlt
    exact ⟨i, h1, h3⟩

/-- A block is made. -/
theorem goes_new {ap : Bool} {e : TypeId} {ls : List Leaf} {cells : Array Value} (hr : Rel c st a.tmps) (hls : All2 (leafRel c) ls cells.toList)
    (hrun : (execOp a.eval o).run P c.w = .ok (.value (.pointer (some ⟨c.w.heap.size, 0, none⟩))) (c.w.alloc (.cells cells e)))
    (h : K (.lf (.ptr (fresh st.store) 0)) (st.add (.box e ls)) = some r) : OpGoesT P o c a K r ap := by
  intro next Q hn
  have hlt : ¬ c.T c.w.heap.size := fun ht => Nat.lt_irrefl _ (hr.s.lt _ ht)
  obtain ⟨h1, h2⟩ := hr.grow (w1 := c.w.alloc (.cells cells e)) (y0 := .pointer (some ⟨c.w.heap.size, 0, none⟩)) (e := .box e ls) (alloc_old _ _) (alloc_below _ _) (fun g hg => by
      have : c.w.heap.size = g := by first | exact blk_sl hg | simpa [blk] using hg
      omega) ⟨c.w.heap.size, cells, if_pos rfl, hlt, heap_alloc_new _ _, hls.mono (leaf_grow hr.s (alloc_old _ _))⟩
  exact wp_val hrun (hn _ _ _ _ h h1 ⟨List.mem_append_right _ (List.mem_singleton.mpr rfl), c.w.heap.size, if_pos rfl, rfl⟩ h2 (Tame.grow h2.below.size (alloc_old _ _) (fun i hi => fresh_not i (by rw [← hr.s.ids]; exact hi)) fun g hg => by
    have : c.w.heap.size = g := by first | exact blk_sl hg | simpa [blk] using hg
    omega))

theorem goes_alloc (htb : tb.ok0 P) {ap : Bool} {e : TypeId} (ho : o.op = .alloc e) (hr : Rel c st a.tmps)
    (h : (match tb.ti e with | some i => K (.lf (.ptr (fresh st.store) 0)) (st.add (.box e (i.zero.map .v))) | none => none) = some r) : OpGoesT P o c a K r ap := by
  split at h
  · rename_i i hi
    have hti := htb.ti _ _ hi
    obtain ⟨f, z, hf, hf2, hf3, hf4, hf5⟩ := hti.info
    refine goes_new (cells := z.cells) hr (by rw [hf5]; exact all2_v c _ hti.zone) ?_ h
    unfold execOp
    rw [ho]
    simp only [Instr.alloc, zeroValue, typeInfo, newVar, newRow, Sem.run_bind, run_program, Result.andThen_ok, hf, hf4, Sem.run_pure, run_newObj]
    rfl
  · cases h

theorem leavesOf_rel {v : AV} {ls : List Leaf} (h : v.leavesOf = some ls) {y : Value} (hv : avRel c v y) : All2 (leafRel c) ls y.cells.toList := by
  unfold AV.leavesOf at h
  split at h
  · rename_i l
    injection h with h
    subst h
    rw [one_cells (leaf_one (c := c) (l := l) hv)]
    exact ⟨hv, trivial⟩
  · rename_i ls'
    injection h with h
    subst h
    obtain ⟨cs, rfl, h2⟩ := hv
    exact h2
  · cases h

theorem goes_box {ap : Bool} {e : TypeId} {x : Operand} (ho : o.op = .box e x) (hr : Rel c st a.tmps)
    (h : (match tb.ti e, (st.ev x).leavesOf with
    | some _, some ls => K (.lf (.ptr (fresh st.store) 0)) (st.add (.box e ls))
    | _, _ => none) = some r) : OpGoesT P o c a K r ap := by
  split at h
  · rename_i ls _ hls
    refine goes_new (cells := (a.eval x).cells) hr (leavesOf_rel hls (hr.ev x)) ?_ h
    unfold execOp
    rw [ho]
    simp only [Instr.box, newVar, newRow, Sem.run_bind, Result.andThen_ok, Sem.run_pure, run_newObj]
    rfl
  · cases h

/-- A row is made. -/
theorem goes_row {ap : Bool} {e : TypeId} {t : Ty} {xs : List t.den} {w1 : World} {y : Value} {inner : List Value} (hr : Rel c st a.tmps)
    (hrun : (execOp a.eval o).run P c.w = .ok (.value y) w1) (hg : c.w.grownBy w1 none) (hy1 : y.oneCell' = true) (hy : ∀ g, blk y = some g → c.w.heap.size ≤ g)
    (hown : oRow w1 e t.sz y xs.length inner) (hin : All2 (leafRel c) (xs.flatMap (leaves true t)) inner)
    (h : K (.lf (.own (fresh st.store))) (st.add (.row e t xs)) = some r) : OpGoesT P o c a K r ap := by
  intro next Q hn
  have hold : ∀ k, k < c.w.heap.size → w1.heap[k]? = c.w.heap[k]? := fun k hk => hg.block k hk (by simp)
  have hb : Below 0 c.w w1 := ⟨hg.os, hg.tape, hg.output, hg.size, fun k hk => absurd hk (Nat.not_lt_zero k)⟩
  have hρ : (c.grow w1 (fresh st.store) y).ρ (fresh st.store) = y := if_pos rfl
  obtain ⟨h1, h2⟩ := hr.grow (w1 := w1) (y0 := y) (e := .row e t xs) hold hb hy
    ⟨inner, by rw [hρ]; exact hown, fun g hg' ht => by
      rw [hρ] at hg'
      have := hy g hg'
      have := hr.s.lt g ht
      omega, hin.mono (leaf_grow hr.s hold)⟩
  exact wp_val hrun (hn _ _ _ _ h h1 ⟨List.mem_append_right _ (List.mem_singleton.mpr rfl), hρ.symm, hy1⟩ h2 (Tame.grow hg.size hold (fun i hi => fresh_not i (by rw [← hr.s.ids]; exact hi)) hy))

/-- A row of which each cell is known is made. -/
theorem goes_lrow {ap : Bool} {e : TypeId} {t : Ty} {n : Nat} {cells : List Leaf} {w1 : World} {y : Value} {inner : List Value} (hr : Rel c st a.tmps)
    (hrun : (execOp a.eval o).run P c.w = .ok (.value y) w1) (hg : c.w.grownBy w1 none) (hy1 : y.oneCell' = true) (hy : ∀ g, blk y = some g → c.w.heap.size ≤ g)
    (hown : oRow w1 e t.sz y n inner) (hin : All2 (leafRel c) cells inner)
    (h : K (.lf (.own (fresh st.store))) (st.add (.lrow e t n cells)) = some r) : OpGoesT P o c a K r ap := by
  intro next Q hn
  have hold : ∀ k, k < c.w.heap.size → w1.heap[k]? = c.w.heap[k]? := fun k hk => hg.block k hk (by simp)
  have hb : Below 0 c.w w1 := ⟨hg.os, hg.tape, hg.output, hg.size, fun k hk => absurd hk (Nat.not_lt_zero k)⟩
  have hρ : (c.grow w1 (fresh st.store) y).ρ (fresh st.store) = y := if_pos rfl
  obtain ⟨h1, h2⟩ := hr.grow (w1 := w1) (y0 := y) (e := .lrow e t n cells) hold hb hy
    ⟨inner, by rw [hρ]; exact hown, fun g hg' ht => by
      rw [hρ] at hg'
      have := hy g hg'
      have := hr.s.lt g ht
      omega, hin.mono (leaf_grow hr.s hold)⟩
  exact wp_val hrun (hn _ _ _ _ h h1 ⟨List.mem_append_right _ (List.mem_singleton.mpr rfl), hρ.symm, hy1⟩ h2 (Tame.grow hg.size hold (fun i hi => fresh_not i (by rw [← hr.s.ids]; exact hi)) hy))

/-! ### One entry turned -/
/-- The context behind a write into one entry. -/
def Cx.turn (c : Cx) (w1 : World) (id : Nat) (y : Value) : Cx := { c with w := w1, ρ := fun i => if i = id then y else c.ρ i }

theorem Rel.turn {tmps : Array Value} (h : Rel c st tmps) {w1 : World} {id : Nat} {y : Value} {e e1 : Ent} {f : Leaf → Leaf} (hl : lookup st.store id = some e)
    (hold : ∀ k, k < c.w.heap.size → some k ≠ blk (c.ρ id) → w1.heap[k]? = c.w.heap[k]?) (hb : Below 0 c.w w1)
    (hy : ∀ g, blk y = some g → blk (c.ρ id) = some g ∨ c.w.heap.size ≤ g)
    (hf : ∀ l v, leafRel c l v → leafRel (c.turn w1 id y) (f l) v) (hf0 : ∀ l, idsL l = [] → f l = l)
    (he : entRel (c.turn w1 id y) id e1) : Rel (c.turn w1 id y) ((st.map f).setEnt id e1) tmps ∧ Step c (c.turn w1 id y) := by
  have hs := h.s
  have hidD : id ∈ c.D := lookup_D hs hl
  have hent := hs.ent _ _ (lookup_mem hl)
  have hρ0 : (c.turn w1 id y).ρ id = y := if_pos rfl
  have hρ : ∀ i, i ≠ id → (c.turn w1 id y).ρ i = c.ρ i := fun i hi => if_neg hi
  have hTold : ∀ k, c.T k → w1.heap[k]? = c.w.heap[k]? := fun k hk => hold k (hs.lt k hk) (fun hh => hent.notT hh.symm hk)
  have how : ∀ i g, i ≠ id → ((c.turn w1 id y).ow i g ↔ c.ow i g) := fun i g hi => by
    unfold Cx.ow
    rw [hρ i hi]
    exact Iff.rfl
  have how0 : ∀ g, (c.turn w1 id y).ow id g → c.ow id g ∨ c.w.heap.size ≤ g := by
    rintro g (hg | hg)
    · rw [hρ0] at hg
      rcases hy g hg with h1 | h1
      · exact .inl (.inl h1)
      · exact .inr h1
    · exact .inl (.inr hg)
  refine ⟨⟨⟨?_, hs.nodup, ?_, ?_, fun i g hi hg => ⟨(hs.ext i g hi hg).1, Nat.lt_of_lt_of_le (hs.ext i g hi hg).2 hb.size⟩, hs.sub, fun k hk => Nat.lt_of_lt_of_le (hs.lt k hk) hb.size⟩, ?_⟩, ⟨hb, hTold, fun _ h => h, fun _ h => h, fun _ h => .inl h⟩⟩
  · show c.D = _
    rw [hs.ids]
    simp only [St.setEnt, St.map, List.map_map]
    refine List.map_congr_left fun p _ => ?_
    simp only [Function.comp]
    split
    · rename_i hp; exact hp
    · rfl
  · intro i e' hm
    simp only [St.setEnt, St.map, List.map_map] at hm
    obtain ⟨p, hp, hpe⟩ := List.mem_map.mp hm
    simp only [Function.comp] at hpe
    split at hpe
    · injection hpe with h1 h2
      rw [← h1, ← h2]
      exact he
    · rename_i hne
      injection hpe with h1 h2
      rw [← h1, ← h2]
      have hpe' := hs.ent p.1 p.2 hp
      have hpD : p.1 ∈ c.D := by rw [hs.ids]; exact List.mem_map.mpr ⟨_, hp, rfl⟩
      exact hpe'.move hf hf0 (hρ _ hne) (fun g hg => hold g (hs.ltX hpD hg) fun hh => hs.apartX p.1 id g hpD hidD hne hg (.inl hh.symm)) (fun g hg => hpe'.notT hg) (fun g hg => hg)
  · intro i j g hi hj hij hg
    by_cases hi0 : i = id
    · have hj0 : j ≠ id := fun hh => hij (hi0.trans hh.symm)
      rw [hi0] at hg
      rw [how j g hj0]
      rcases how0 g hg with h1 | h1
      · exact hs.apartX id j g hidD hj (fun hh => hj0 hh.symm) h1
      · intro h2
        have := hs.ltX hj h2
        omega
    · rw [how i g hi0] at hg
      by_cases hj0 : j = id
      · rw [hj0]
        intro h2
        rcases how0 g h2 with h1 | h1
        · exact hs.apartX i id g hi hidD hi0 hg h1
        · have := hs.ltX hi hg
          omega
      · rw [how j g hj0]
        exact hs.apartX i j g hi hj hij hg
  · exact All2.map (h.env.mono fun _ _ => avRel.impf hf)

theorem St.map_id (st : St) : st.map (fun l => l) = st := by
  have h1 : ∀ v : V1, mapV (fun l => l) v = v := by intro v; cases v <;> simp [mapV]
  have h2 : ∀ v : AV, mapA (fun l => l) v = v := by
    intro v
    cases v with
    | one v => simp [mapA, h1]
    | tup vs => simp only [mapA]; rw [show vs.map (mapV fun l => l) = vs from by rw [List.map_congr_left (fun v _ => h1 v)]; simp]
    | fn f caps => simp [mapA]
    | dead => rfl
  unfold St.map
  have e1 : st.env.map (mapA fun l => l) = st.env := by rw [List.map_congr_left (fun v _ => h2 v)]; simp
  have e2 : (st.store.map fun p => (p.1, mapE (fun l => l) p.2)) = st.store := by rw [List.map_congr_left (fun p _ => by rw [mapE_id (fun _ => rfl)])]; simp
  rw [e1, e2]

/-- Where the handle stays as it is. -/
theorem leaf_same (hs : SRel c st.store) {w1 : World} {id : Nat} {e : Ent} (hl : lookup st.store id = some e) (hold : ∀ k, k < c.w.heap.size → some k ≠ blk (c.ρ id) → w1.heap[k]? = c.w.heap[k]?) :
    ∀ l v, leafRel c l v → leafRel (c.turn w1 id (c.ρ id)) l v := by
  have hent := hs.ent _ _ (lookup_mem hl)
  intro l v h
  refine leafRel.move (c' := c.turn w1 id (c.ρ id)) (fun k hk => hold k (hs.lt k hk) (fun hh => hent.notT hh.symm hk)) hs.sub (fun _ h => h) (fun _ h => h) (fun i _ hi => ⟨hi, ?_⟩) h
  show (if i = id then c.ρ id else c.ρ i) = c.ρ i
  split
  · rename_i hh; rw [hh]
  · rfl

/-- Where what held the handle is forgotten. -/
theorem leaf_kill (hs : SRel c st.store) {w1 : World} {id : Nat} {e : Ent} {y : Value} (hl : lookup st.store id = some e) (hold : ∀ k, k < c.w.heap.size → some k ≠ blk (c.ρ id) → w1.heap[k]? = c.w.heap[k]?)
    (hrow : ∀ g, c.ρ id ≠ .pointer (some ⟨g, 0, none⟩)) : ∀ l v, leafRel c l v → leafRel (c.turn w1 id y) (killL id l) v := by
  have hent := hs.ent _ _ (lookup_mem hl)
  intro l v h
  have mv : (∀ i, i ∈ idsL l → i ≠ id) → leafRel (c.turn w1 id y) l v := fun hne =>
    leafRel.move (c' := c.turn w1 id y) (fun k hk => hold k (hs.lt k hk) (fun hh => hent.notT hh.symm hk)) hs.sub (fun _ h => h) (fun _ h => h) (fun i hi hD => ⟨hD, if_neg (hne i hi)⟩) h
  cases l with
  | own j =>
    simp only [killL]
    split
    · exact leaf_one h
    · rename_i hj; exact mv fun i hi => by simp [idsL] at hi; rw [hi]; exact hj
  | elp j sz i off =>
    simp only [killL]
    split
    · exact leaf_one h
    · rename_i hj; exact mv fun i hi => by simp [idsL] at hi; rw [hi]; exact hj
  | ptr j off =>
    refine mv fun i hi => ?_
    simp [idsL] at hi
    rw [hi]
    rintro rfl
    obtain ⟨_, g, h1, _⟩ := h
    exact hrow g h1
  | v x => exact mv fun i hi => by cases hi
  | rd lt e t xs => exact mv fun i hi => by cases hi
  | rdp lt t x off => exact mv fun i hi => by cases hi
  | clo lt f agg t x => exact mv fun i hi => by cases hi
  | fnc f => exact mv fun i hi => by cases hi
  | cap lt f ts x => exact mv fun i hi => by cases hi
  | dead => exact mv fun i hi => by cases hi

end
end Go.Proofs.Ytdacfaincamliaa.Ev
