/- The evaluator's steps that make or write memory are true of the machine, part 2. Conditions: none. -/
import Derived.Test.YtdacfaincamliaaEvTake
import Derived.Laws.Tables
import Derived.Great.BuildSlice
namespace Go.Proofs.Ytdacfaincamliaa.Ev
open Go Go.RowKit

section
variable {P : Program} {c : Cx} {st : St} {R : Type} {a : Act} {tb : Tb} {o : Oper} {K : AV → St → Option R} {r : R}

def setSeg {α : Type} (l : List α) (off : Nat) (new : List α) : List α := l.take off ++ new ++ l.drop (off + new.length)
theorem setSeg_length {α : Type} {l new : List α} {off : Nat} (h : off + new.length ≤ l.length) : (setSeg l off new).length = l.length := by
  simp only [setSeg, List.length_append, List.length_take, List.length_drop]; omega
theorem setAt_rel {ls new : List Leaf} {cs ns : List Value} (off : Nat) (h : All2 (leafRel c) ls cs) (hn : All2 (leafRel c) new ns) : All2 (leafRel c) (setAt ls off new) (setSeg cs off ns) := by
  unfold setAt setSeg
  rw [← hn.length]
  exact ((h.take off).append hn).append (h.drop _)

theorem foldl_set (off : Nat) : ∀ (vs : List Value) (k : Nat) (cells : Array Value), off + k + vs.length ≤ cells.size →
    ((vs.zipIdx k).foldl (fun cs (p : Value × Nat) => cs.setIfInBounds (off + p.2) p.1) cells).toList = setSeg cells.toList (off + k) vs
  | [], k, cells, _ => by simp [setSeg]
  | v :: vs, k, cells, h => by
    simp only [List.zipIdx_cons, List.foldl_cons]
    rw [foldl_set off vs (k + 1) _ (by simp at h ⊢; omega)]
    unfold setSeg
    rw [Array.toList_setIfInBounds]
    have := list_seg_step cells.toList (off + k) v vs (by simp at h ⊢; omega)
    rw [show off + (k + 1) = off + k + 1 by omega, this]
    simp [Nat.add_assoc, Nat.add_comm 1]

theorem fill_rel {flds : Nat → Option (Nat × Nat)} {place : Nat → Option (Nat × Nat)} (hp : ∀ i x, flds i = some x → place i = some x) (hr : Rel c st a.tmps) :
    ∀ {parts : List (Nat × Operand)} {ls : List Leaf} {cells : Array Value} {K : List Leaf → Option R}, fillL flds st parts ls K = some r → All2 (leafRel c) ls cells.toList →
      ∃ ls' cells', Instr.fill place cells (parts.map fun (i, x) => (i, a.eval x)) = some cells' ∧ K ls' = some r ∧ All2 (leafRel c) ls' cells'.toList ∧ cells'.size = cells.size
  | [], ls, cells, K, h, ha => ⟨ls, cells, rfl, h, ha, rfl⟩
  | (i, x) :: rest, ls, cells, K, h, ha => by
    simp only [fillL] at h
    split at h
    · rename_i off size new hf hl
      split at h
      · rename_i hcond
        obtain ⟨hnl, hof⟩ := hcond
        have hv := leavesOf_rel hl (hr.ev x)
        have hsz : (a.eval x).cells.size = size := by rw [← hnl, hv.length]; simp
        have hcl := ha.length
        have hb : off + (a.eval x).cells.size ≤ cells.size := by rw [hsz, ← Array.length_toList, ← hcl]; exact hof
        have e1 := foldl_set off (a.eval x).cells.toList 0 cells (by simpa using hb)
        have e2 : (Array.foldl (fun cs (p : Value × Nat) => cs.setIfInBounds (off + p.2) p.1) cells (a.eval x).cells.zipIdx).toList = setSeg cells.toList off (a.eval x).cells.toList := by
          rw [← Array.foldl_toList, Array.toList_zipIdx]
          simpa using e1
        have h2 := setAt_rel off ha hv
        rw [← e2] at h2
        obtain ⟨ls', cells', k1, k2, k3, k4⟩ := fill_rel hp hr h h2
        refine ⟨ls', cells', ?_, k2, k3, ?_⟩
        · simp only [List.map_cons, Instr.fill, hp _ _ hf]
          rw [if_neg (by simp; constructor; exact hsz; omega)]
          exact k1
        · rw [k4, ← Array.length_toList, e2, setSeg_length (by simpa using hb), Array.length_toList]
      · cases h
    · cases h

theorem places_some (htb : tb.ok0 P) : ∀ (fs : List Field), (fs.all fun f => (tb.ti f.type).isSome) = true →
    ∃ pl, fs.mapM (fun f => (P.info? f.type).map fun i => (f.offset, i.size)) = some pl ∧ ∀ (i : Nat) (f : Field) (j : TI), fs[i]? = some f → tb.ti f.type = some j → pl[i]? = some (f.offset, j.size)
  | [], _ => ⟨[], rfl, by simp⟩
  | f :: fs, h => by
    simp only [List.all_cons, Bool.and_eq_true] at h
    obtain ⟨j, hj⟩ := Option.isSome_iff_exists.mp h.1
    obtain ⟨k, z, hk, hk2, _⟩ := (htb.ti _ _ hj).info
    obtain ⟨pl, h1, h2⟩ := places_some htb fs h.2
    refine ⟨(f.offset, k.size) :: pl, by simp [List.mapM_cons, hk, h1], fun i g j' hi hg => ?_⟩
    cases i with
    | zero =>
      simp at hi
      subst hi
      rw [hj] at hg
      injection hg with hg
      subst hg
      simp [hk2]
    | succ i => simpa using h2 i g j' (by simpa using hi) hg

theorem fieldAt_in {s : TypeId} {i off size : Nat} (h : fieldAt tb s i = some (off, size)) : ∃ (ii : TI) (fs : Array Field) (f : Field) (j : TI), tb.ti s = some ii ∧ ii.desc = .struct fs ∧ fs[i]? = some f ∧ tb.ti f.type = some j ∧ f.offset = off ∧ j.size = size := by
  unfold fieldAt fieldsOf at h
  split at h
  · rename_i fs hfs
    split at h
    · rename_i f hf
      split at h
      · rename_i j hj
        injection h with h
        injection h with h1 h2
        split at hfs
        · rename_i ii hii
          split at hfs
          · rename_i fs' hd
            injection hfs with hfs
            subst hfs
            exact ⟨ii, _, f, j, hii, hd, hf, hj, h1, h2⟩
          · cases hfs
        · cases hfs
      · cases h
    · cases h
  · cases h

theorem goes_build (htb : tb.ok0 P) {t : TypeId} {parts : Array (Nat × Operand)} (ho : o.op = .build t parts) (hr : Rel c st a.tmps)
    (h : (match tb.ti t with
    | some i => match i.desc with | .struct fs => if (fs.toList.all fun f => (tb.ti f.type).isSome) = true then fillL (fieldAt tb t) st parts.toList (i.zero.map .v) fun ls => K (.one (.agg ls)) st else none | _ => none
    | none => none) = some r) : Quiet P o c a st K r := by
  split at h
  · rename_i i hi
    split at h
    · rename_i fs hd
      split at h
      · rename_i hall
        have hti := htb.ti _ _ hi
        obtain ⟨f, z, hf, hf2, hf3, hf4, hf5⟩ := hti.info
        have hu := hti.under
        rw [hd] at hu
        obtain ⟨pl, hp1, hp2⟩ := places_some htb fs.toList hall
        obtain ⟨ls', cells', k1, k2, k3, _⟩ := fill_rel (place := fun i => pl.toArray[i]?) (by
          intro j x hx
          obtain ⟨off, size⟩ := x
          obtain ⟨ii, fs', fd, jj, g1, g2, g3, g4, g5, g6⟩ := fieldAt_in hx
          rw [hi] at g1
          injection g1 with g1
          subst g1
          rw [hd] at g2
          injection g2 with g2
          subst g2
          have := hp2 j fd jj (by simpa using g3) g4
          simp [this, g5, g6]) hr h (cells := z.cells) (by rw [hf5]; exact all2_v c _ hti.zone)
        refine goes_quiet hr (fun w => ?_) k2 ⟨cells', rfl, k3⟩
        have hb : P.built t (parts.map fun (i, x) => (i, a.eval x)).toList = some cells' := by
          unfold Program.built
          simp only [hf, hu, hf4, hp1]
          rw [Array.toList_map]
          exact k1
        unfold execOp
        rw [ho]
        simp only [Sem.run_bind, run_build w t _ cells' hb, Result.andThen_ok, Sem.run_pure]
      · cases h
    · cases h
  · cases h

/-! ### Slices that are made -/
theorem later_goes {ap : Bool} {c' : Cx} {st' : St} {K' : AV → St → Option R} (hL : Step c c') (hw : c'.w = c.w) (hT : Tame ap c c') (h : ∀ (_ : Rel c' st' a.tmps), OpGoesT P o c' a K' r ap) (hr : Rel c' st' a.tmps) : OpGoesT P o c a K' r ap := by
  intro next Q hn
  have := h hr next Q fun v y c2 st2 h1 h2 h3 h4 h5 => hn v y c2 st2 h1 h2 h3 (hL.trans h4) (hT.trans h5)
  rwa [hw] at this

theorem zeros_rel (c : Cx) {z : Value} {zl : List Value} {sz : Nat} (hz : z.cells.toList = zl) (hl : zl.length = sz) (hone : ∀ x ∈ zl, x.oneCell' = true) (hsz : 0 < sz) (n : Nat) :
    All2 (leafRel c) ((List.range n).map fun j => Leaf.v (zl.getD (j % sz) (default : Value))) ((Array.range n).map (z.cells[· % z.cells.size]!)).toList := by
  have hzs : z.cells.size = sz := by rw [← hl, ← hz]; simp
  rw [Array.toList_map, Array.toList_range]
  have : ∀ (l : List Nat), All2 (leafRel c) (l.map fun j => Leaf.v (zl.getD (j % sz) (default : Value))) (l.map (z.cells[· % z.cells.size]!)) := by
    intro l
    induction l with
    | nil => trivial
    | cons j l ih =>
      refine ⟨?_, ih⟩
      have hlt : j % sz < sz := Nat.mod_lt _ hsz
      have e1 : z.cells[j % z.cells.size]! = zl.getD (j % sz) default := by
        rw [hzs, ← hz, List.getD_eq_getElem?_getD, Array.getElem?_toList, getElem!_def]
        cases z.cells[j % sz]? <;> rfl
      show leafRel c (.v (zl.getD (j % sz) default)) (z.cells[j % z.cells.size]!)
      rw [e1]
      refine ⟨rfl, hone _ ?_⟩
      rw [List.getD_eq_getElem?_getD, List.getElem?_eq_getElem (by omega)]
      exact List.getElem_mem _
  exact this _

theorem setEnt_mem {st : St} {id j : Nat} {E e : Ent} (h : (j, e) ∈ (st.setEnt id E).store) : (j = id ∧ e = E) ∨ (j ≠ id ∧ (j, e) ∈ st.store) := by
  simp only [St.setEnt] at h
  obtain ⟨p, hp, hpe⟩ := List.mem_map.mp h
  split at hpe
  · injection hpe with h1 h2
    exact .inl ⟨h1.symm, h2.symm⟩
  · rename_i hne
    subst hpe
    exact .inr ⟨hne, hp⟩

theorem setEnt_ids (st : St) (id : Nat) (e : Ent) : (st.setEnt id e).store.map (·.1) = st.store.map (·.1) := by
  simp only [St.setEnt, List.map_map]
  refine List.map_congr_left fun p _ => ?_
  simp only [Function.comp]
  split <;> simp_all
theorem Rel.setEnt {tmps : Array Value} (hr : Rel c st tmps) {id : Nat} {e : Ent} (he : entRel c id e) : Rel c (st.setEnt id e) tmps := by
  refine ⟨⟨by rw [setEnt_ids]; exact hr.s.ids, hr.s.nodup, fun i e' hm => ?_, hr.s.apartX, hr.s.ext, hr.s.sub, hr.s.lt⟩, hr.env⟩
  rcases setEnt_mem hm with ⟨rfl, rfl⟩ | ⟨_, h⟩
  · exact he
  · exact hr.s.ent i e' h

/-- A later context of the same world, in which what was owned is owned, by whomsoever. -/
structure LaterA (c c' : Cx) : Prop where
  step : Step c c'
  w : c'.w = c.w
  ρ : ∀ i, i ∈ c'.D → c'.ρ i = c.ρ i
  D : ∀ i, i ∈ c'.D → i ∈ c.D
  own : ∀ i g, i ∈ c'.D → c'.ow i g → ∃ j, j ∈ c.D ∧ c.ow j g
  T : ∀ k, c'.T k → c.T k ∨ ∃ i, i ∈ c.D ∧ c.ow i k
theorem Later.toA {c c' : Cx} (h : Later c c') : LaterA c c' := ⟨h.step, h.w, h.ρ, h.D, fun i g hi hg => ⟨i, h.D i hi, h.ow hi hg⟩, h.T⟩
theorem LaterA.trans {a b c : Cx} (h : LaterA a b) (k : LaterA b c) : LaterA a c :=
  ⟨h.step.trans k.step, k.w.trans h.w, fun i hi => (k.ρ i hi).trans (h.ρ i (k.D i hi)), fun i hi => h.D i (k.D i hi), fun i g hi hg => by
    obtain ⟨j, h1, h2⟩ := k.own i g hi hg
    exact h.own j g h1 h2, fun g hg => by
    rcases k.T g hg with h1 | ⟨i, h1, h2⟩
    · exact h.T g h1
    · exact .inr (h.own i g h1 h2)⟩

/-- An entry takes blocks over from such as are no more. -/
theorem absorb {tmps : Array Value} {st0 : St} {D' B : List Nat} {id : Nat} {E : Ent} (hr : Rel c st0 tmps) (h1 : Rel { c with D := D' } st tmps) (hD : ∀ i, i ∈ D' → i ∈ c.D) (hid : id ∈ D') (hB : ∀ g, g ∈ B → ∃ i, i ∈ c.D ∧ i ∉ D' ∧ c.ow i g)
    (Xn : Nat → Prop) (hX : ∀ g, Xn g → g ∈ B ∨ c.X id g) (he : entRel { c with D := D', X := fun i g => if i = id then Xn g else c.X i g } id E) :
    Rel { c with D := D', X := fun i g => if i = id then Xn g else c.X i g } (st.setEnt id E) tmps ∧ LaterA c { c with D := D', X := fun i g => if i = id then Xn g else c.X i g } := by
  have hl : ∀ l y, leafRel { c with D := D' } l y → leafRel { c with D := D', X := fun i g => if i = id then Xn g else c.X i g } l y := fun l y h =>
    leafRel.move (c := { c with D := D' }) (c' := { c with D := D', X := fun i g => if i = id then Xn g else c.X i g }) (agree.refl c.T c.w) hr.s.sub (fun _ h => h) (fun _ h => h) (fun i _ hi => ⟨hi, rfl⟩) h
  have hidD := hD id hid
  have how : ∀ i g, i ≠ id → (({ c with D := D', X := fun i g => if i = id then Xn g else c.X i g } : Cx).ow i g ↔ c.ow i g) := fun i g hi => by
    unfold Cx.ow
    simp only [hi, if_false]
  have how0 : ∀ g, ({ c with D := D', X := fun i g => if i = id then Xn g else c.X i g } : Cx).ow id g → c.ow id g ∨ ∃ i, i ∈ c.D ∧ i ∉ D' ∧ c.ow i g := by
    rintro g (hg | hg)
    · exact .inl (.inl hg)
    · have hg : (if id = id then Xn g else c.X id g) := hg
      rw [if_pos rfl] at hg
      rcases hX g hg with h9 | h9
      · exact .inr (hB g h9)
      · exact .inl (.inr h9)
  have key : ∀ g, ({ c with D := D', X := fun i g => if i = id then Xn g else c.X i g } : Cx).ow id g → ∀ j, j ∈ D' → j ≠ id → ¬ c.ow j g := by
    intro g hg j hj hne hh
    rcases how0 g hg with h9 | ⟨i, i1, i2, i3⟩
    · exact hr.s.apartX id j g hidD (hD j hj) (fun e => hne e.symm) h9 hh
    · exact hr.s.apartX i j g i1 (hD j hj) (fun e => i2 (by rw [e]; exact hj)) i3 hh
  refine ⟨⟨⟨by rw [setEnt_ids]; exact h1.s.ids, h1.s.nodup, fun i e' hm => ?_, fun i j g hi hj hij hg => ?_, fun i g hi hg => ?_, hr.s.sub, hr.s.lt⟩, h1.env.mono fun _ _ => avRel.imp hl⟩, ⟨⟨Below.refl _ _, agree.refl _ _, fun _ h => h, fun _ h => h, fun _ h => .inl h⟩, rfl, fun _ _ => rfl, hD, fun i g hi hg => ?_, fun _ h => .inl h⟩⟩
  · rcases setEnt_mem hm with ⟨rfl, rfl⟩ | ⟨hne, h⟩
    · exact he
    · have := (h1.s.ent i e' h).move (c1 := { c with D := D', X := fun i g => if i = id then Xn g else c.X i g }) (f := fun l => l) hl (fun _ _ => rfl) rfl (fun _ _ => rfl) (fun g hg => (h1.s.ent i e' h).notT hg) (fun g hg => by
        show (if i = id then Xn g else c.X i g)
        rw [if_neg hne]
        exact hg)
      rwa [mapE_id (fun _ => rfl)] at this
  · by_cases hi0 : i = id
    · rw [hi0] at hg
      have hj0 : j ≠ id := fun e => hij (hi0.trans e.symm)
      rw [how j g hj0]
      exact key g hg j hj hj0
    · rw [how i g hi0] at hg
      by_cases hj0 : j = id
      · rw [hj0]
        exact fun hh => key g hh i hi hi0 hg
      · rw [how j g hj0]
        exact hr.s.apartX i j g (hD i hi) (hD j hj) hij hg
  · have hg : (if i = id then Xn g else c.X i g) := hg
    split at hg
    · rcases hX g hg with h9 | h9
      · obtain ⟨k, k1, _, k3⟩ := hB g h9
        exact ⟨hr.s.notTX k1 k3, hr.s.ltX k1 k3⟩
      · exact hr.s.ext id g hidD h9
    · exact hr.s.ext i g (hD i hi) hg
  · by_cases hi0 : i = id
    · rw [hi0] at hg
      rcases how0 g hg with h9 | ⟨k, k1, _, k3⟩
      · exact ⟨id, hidD, h9⟩
      · exact ⟨k, k1, k3⟩
    · exact ⟨i, hD i hi, (how i g hi0).mp hg⟩

/-! ### Rows of which each cell is known, as lists -/
theorem solid1_some {tmps : Array Value} {id : Nat} {K' : St → Option R} (h : solid1 false id st K' = some r) (hr : Rel c st tmps) : ∃ st' c', K' st' = some r ∧ Rel c' st' tmps ∧ Later c c' := by
  unfold solid1 at h
  split at h
  · rename_i e t n cells hl
    rw [if_neg (by simp)] at h
    obtain ⟨inner, m1, m2, m3⟩ := hr.entOf hl
    obtain ⟨xs, st1, c1, g1, g2, g3, g4, g5, g6⟩ := readTys_some (need := .keep) (c0 := c) h hr (Later.refl hr.s) m3
    split at g1
    · rename_i e1 t1 n1 cells1 hl1
      have hid1 : id ∈ c1.D := lookup_D g2.s hl1
      obtain ⟨_, _, q2, _⟩ := g2.entOf hl1
      exact ⟨_, c1, g1, g2.setEnt ⟨inner, by rw [g3.w, g3.ρ id hid1, g5]; exact m1, q2, rows_rel (S := rdS .keep c1) (fun k hk => hk) (by rw [m1.1, g5]) g6⟩, g3⟩
    · cases g1
  · rw [if_neg (by simp)] at h
    exact ⟨st, c, h, hr, Later.refl hr.s⟩
  · exact ⟨st, c, h, hr, Later.refl hr.s⟩
theorem solids_some {tmps : Array Value} : ∀ {ids : List Nat} {st : St} {c : Cx} {K' : St → Option R}, solids false ids st K' = some r → Rel c st tmps → ∃ st' c', K' st' = some r ∧ Rel c' st' tmps ∧ Later c c'
  | [], st, c, K', h, hr => ⟨st, c, h, hr, Later.refl hr.s⟩
  | id :: ids, st, c, K', h, hr => by
    obtain ⟨st1, c1, h1, h2, h3⟩ := solid1_some h hr
    obtain ⟨st2, c2, k1, k2, k3⟩ := solids_some h1 h2
    exact ⟨st2, c2, k1, k2, h3.trans k3 k3.D⟩
theorem solid_some {tmps : Array Value} {vs : List AV} {K' : St → Option R} (h : st.solid false vs K' = some r) (hr : Rel c st tmps) : ∃ st' c', K' st' = some r ∧ Rel c' st' tmps ∧ Later c c' := solids_some h hr
theorem solid_goes {ap : Bool} {vs : List AV} {K' : St → Option R} (h : st.solid false vs K' = some r) (hr : Rel c st a.tmps) (hk : ∀ {st' : St} {c' : Cx}, Rel c' st' a.tmps → K' st' = some r → OpGoesT P o c' a K r ap) : OpGoesT P o c a K r ap := by
  obtain ⟨st1, c1, h1, h2, h3⟩ := solid_some h hr
  exact later_goes h3.step h3.w h3.tame (fun hr1 => hk hr1 h1) h2

/-- So where rows are taken over. -/
theorem absorb_ow {D' : List Nat} {id i g : Nat} {Xn : Nat → Prop} (hi : i ≠ id) (hg : ({ c with D := D', X := fun i g => if i = id then Xn g else c.X i g } : Cx).ow i g) : c.ow i g := by
  rcases hg with hg | hg
  · exact .inl hg
  · have hg : (if i = id then Xn g else c.X i g) := hg
    rw [if_neg hi] at hg
    exact .inr hg
theorem solid1_someA {tmps : Array Value} {dp : Bool} {id : Nat} {K' : St → Option R} (h : solid1 dp id st K' = some r) (hr : Rel c st tmps) : ∃ st' c', K' st' = some r ∧ Rel c' st' tmps ∧ LaterA c c' ∧ ∀ i g, i ≠ id → i ∈ c'.D → c'.ow i g → c.ow i g := by
  cases dp with
  | false =>
    obtain ⟨st', c', h1, h2, h3⟩ := solid1_some h hr
    exact ⟨st', c', h1, h2, h3.toA, fun i g _ hi hg => h3.ow hi hg⟩
  | true =>
    unfold solid1 at h
    split at h
    · rename_i e t n cells hl
      rw [if_pos rfl] at h
      obtain ⟨inner, m1, m2, m3⟩ := hr.entOf hl
      obtain ⟨xs, st1, D', B, g1, g2, g3, g4, g5, g6, g7⟩ := takeOs_some (c0 := c) h hr (Later.refl hr.s) m3 m1.1
      split at g1
      · rename_i e1 t1 n1 cells1 hl1
        have hid1 : id ∈ D' := lookup_D g2.s hl1
        obtain ⟨q1, q2⟩ := absorb (E := .deep e t xs) hr g2 g3 hid1 g7 (fun g => g ∈ B) (fun g hg => .inl hg) ⟨inner, B, by rw [g5]; exact m1, fun g hg => ⟨m2 g hg, fun h9 => by
          obtain ⟨i, i1, i2, i3⟩ := g7 g h9
          exact hr.s.apartX id i g (g3 id hid1) i1 (fun e => i2 (by rw [← e]; exact hid1)) (.inl hg) i3⟩, g6, fun g hg => by
            show (if id = id then g ∈ B else c.X id g)
            rw [if_pos rfl]; exact hg, g4⟩
        exact ⟨_, _, g1, q1, q2, fun i g hi _ hg => absorb_ow hi hg⟩
      · cases g1
    · rename_i e t l cells r' hl
      rw [if_pos rfl] at h
      obtain ⟨i0, i1, i2, B0, B2, m1, m2, m3, m4, m5, m6, m7, m8⟩ := hr.entOf hl
      obtain ⟨y, st1, D', B, g1, g2, g3, g4, g6, g7⟩ := takeO_some (c0 := c) h hr (Later.refl hr.s) m7
      split at g1
      · rename_i e1 t1 l1 cells1 r1 hl1
        have hid1 : id ∈ D' := lookup_D g2.s hl1
        have hdj : ∀ g, g ∈ B → ¬ c.ow id g := fun g h9 hh => by
          obtain ⟨i, i1, i2, i3⟩ := g7 g h9
          exact hr.s.apartX id i g (g3 id hid1) i1 (fun e => i2 (by rw [← e]; exact hid1)) hh i3
        rw [List.nodup_append] at m3
        obtain ⟨n1, n2, n3⟩ := m3
        obtain ⟨q1, q2⟩ := absorb (E := .deep e t (l ++ y :: r')) hr g2 g3 hid1 g7 (fun g => g ∈ B0 ++ (B ++ B2)) (fun g hg => by
          rcases List.mem_append.mp hg with hg | hg
          · exact .inr (m4 g (List.mem_append_left _ hg))
          · rcases List.mem_append.mp hg with hg | hg
            · exact .inl hg
            · exact .inr (m4 g (List.mem_append_right _ hg)))
          ⟨i0 ++ (i1 ++ i2), B0 ++ (B ++ B2), by rw [List.length_append, List.length_cons, show l.length + (r'.length + 1) = l.length + 1 + r'.length by omega]; exact m1, fun g hg => ⟨(m2 g hg).1, fun h9 => by
            rcases List.mem_append.mp h9 with h9 | h9
            · exact (m2 g hg).2 (List.mem_append_left _ h9)
            · rcases List.mem_append.mp h9 with h9 | h9
              · exact hdj g h9 (.inl hg)
              · exact (m2 g hg).2 (List.mem_append_right _ h9)⟩, by
            rw [List.nodup_append, List.nodup_append]
            refine ⟨n1, ⟨g6, n2, fun a ha b hb => ?_⟩, fun a ha b hb => ?_⟩
            · rintro rfl
              exact hdj a ha (.inr (m4 a (List.mem_append_right _ hb)))
            · rintro rfl
              rcases List.mem_append.mp hb with hb | hb
              · exact hdj a hb (.inr (m4 a (List.mem_append_left _ ha)))
              · exact n3 a ha a hb rfl, fun g hg => by
            show (if id = id then g ∈ B0 ++ (B ++ B2) else c.X id g)
            rw [if_pos rfl]; exact hg, m5.append ⟨B, B2, i1, i2, rfl, rfl, m6, g4, m8⟩⟩
        exact ⟨_, _, g1, q1, q2, fun i g hi _ hg => absorb_ow hi hg⟩
      · cases g1
    · exact ⟨st, c, h, hr, (Later.refl hr.s).toA, fun i g _ _ hg => hg⟩
theorem solids_someA {tmps : Array Value} {dp : Bool} : ∀ {ids : List Nat} {st : St} {c : Cx} {K' : St → Option R}, solids dp ids st K' = some r → Rel c st tmps → ∃ st' c', K' st' = some r ∧ Rel c' st' tmps ∧ LaterA c c' ∧ ∀ i g, i ∉ ids → i ∈ c'.D → c'.ow i g → c.ow i g
  | [], st, c, K', h, hr => ⟨st, c, h, hr, (Later.refl hr.s).toA, fun _ _ _ _ hg => hg⟩
  | id :: ids, st, c, K', h, hr => by
    obtain ⟨st1, c1, h1, h2, h3, h4⟩ := solid1_someA h hr
    obtain ⟨st2, c2, k1, k2, k3, k4⟩ := solids_someA h1 h2
    exact ⟨st2, c2, k1, k2, h3.trans k3, fun i g hi hD hg => h4 i g (fun e => hi (by rw [e]; exact List.mem_cons_self)) (k3.D i hD) (k4 i g (fun e => hi (List.mem_cons_of_mem _ e)) hD hg)⟩
theorem solid_someA {tmps : Array Value} {dp : Bool} {vs : List AV} {K' : St → Option R} (h : st.solid dp vs K' = some r) (hr : Rel c st tmps) : ∃ st' c', K' st' = some r ∧ Rel c' st' tmps ∧ LaterA c c' := by
  obtain ⟨st', c', h1, h2, h3, _⟩ := solids_someA h hr
  exact ⟨st', c', h1, h2, h3⟩
theorem solid_someN {tmps : Array Value} {dp : Bool} {vs : List AV} {K' : St → Option R} (h : st.solid dp vs K' = some r) (hr : Rel c st tmps) : ∃ st' c', K' st' = some r ∧ Rel c' st' tmps ∧ LaterA c c' ∧ ∀ i g, i ∉ solidIds vs st → i ∈ c'.D → c'.ow i g → c.ow i g := solids_someA h hr
theorem solid_goesA {dp : Bool} {vs : List AV} {K' : St → Option R} (h : st.solid dp vs K' = some r) (hr : Rel c st a.tmps) (hk : ∀ {st' : St} {c' : Cx}, Rel c' st' a.tmps → K' st' = some r → OpGoes P o c' a K r) : OpGoes P o c a K r := by
  obtain ⟨st1, c1, h1, h2, h3⟩ := solid_someA h hr
  intro next Q hn
  rw [← h3.w]
  exact hk h2 h1 next Q fun v y c' st' k1 k2 k3 k4 => hn v y c' st' k1 k2 k3 (h3.step.trans k4)

theorem zeroO_own {w : World} : ∀ {t : Ty} {cs : List Value} {z : t.den}, zeroO t cs = some z → OwnE t w [] z cs
  | .int k, cs, z, h => by
    simp only [zeroO] at h
    split at h
    · split at h
      · rename_i hk
        subst hk
        cases h
        exact ⟨rfl, rfl⟩
      · cases h
    · cases h
  | .bool, cs, z, h => by
    simp only [zeroO] at h
    split at h
    · cases h
      exact ⟨rfl, rfl⟩
    · cases h
  | .str, cs, z, h => by
    simp only [zeroO] at h
    split at h
    · cases h
      exact ⟨rfl, rfl⟩
    · cases h
  | .rs e t, cs, z, h => by
    simp only [zeroO] at h
    split at h
    · cases h
      exact ⟨.slice none 0 0, [], [], rfl, rfl, oRow_nil w e t.sz, rfl, rfl, rfl⟩
    · cases h
  | .pair a b, cs, z, h => by
    simp only [zeroO] at h
    split at h
    · rename_i x y hx hy
      cases h
      exact ⟨[], [], _, _, rfl, (List.take_append_drop _ _).symm, zeroO_own hx, zeroO_own hy⟩
    · cases h
theorem ownL_rep {w : World} {t : Ty} {z : t.den} {zc : List Value} (hz : OwnE t w [] z zc) (hzl : zc.length = t.sz) : ∀ (m : Nat) (cs : List Value), cs.length = m * t.sz → (∀ j, j < m → (cs.drop (j * t.sz)).take t.sz = zc) → OwnL (OwnE t w) t.sz [] (List.replicate m z) cs
  | 0, cs, hl, _ => ⟨rfl, List.length_eq_zero_iff.mp (by omega)⟩
  | m + 1, cs, hl, h => by
    have hsz : (m + 1) * t.sz = m * t.sz + t.sz := Nat.succ_mul _ _
    have h0 := h 0 (by omega)
    rw [Nat.zero_mul, List.drop_zero] at h0
    refine ⟨[], [], zc, cs.drop t.sz, rfl, by rw [← h0, List.take_append_drop], hzl, hz, ownL_rep hz hzl m _ (by rw [List.length_drop]; omega) fun j hj => ?_⟩
    have := h (j + 1) (by omega)
    rw [List.drop_drop, show t.sz + j * t.sz = (j + 1) * t.sz by rw [Nat.succ_mul]; omega]
    exact this
/-- A row of whatever kind is made. -/
theorem goes_rowE {ap : Bool} {E : Ent} {w1 : World} {y : Value} (hr : Rel c st a.tmps)
    (hrun : (execOp a.eval o).run P c.w = .ok (.value y) w1) (hg : c.w.grownBy w1 none) (hy1 : y.oneCell' = true) (hy : ∀ g, blk y = some g → c.w.heap.size ≤ g)
    (he : ∀ cg : Cx, cg.w = w1 → cg.ρ (fresh st.store) = y → (∀ g, blk y = some g → ¬ cg.T g) → entRel cg (fresh st.store) E)
    (h : K (.lf (.own (fresh st.store))) (st.add E) = some r) : OpGoesT P o c a K r ap := by
  intro next Q hn
  have hold : ∀ k, k < c.w.heap.size → w1.heap[k]? = c.w.heap[k]? := fun k hk => hg.block k hk (by simp)
  have hb : Below 0 c.w w1 := ⟨hg.os, hg.tape, hg.output, hg.size, fun k hk => absurd hk (Nat.not_lt_zero k)⟩
  have hρ : (c.grow w1 (fresh st.store) y).ρ (fresh st.store) = y := if_pos rfl
  obtain ⟨h1, h2⟩ := hr.grow (w1 := w1) (y0 := y) (e := E) hold hb hy (he _ rfl hρ fun g hg' ht => by
      have := hy g hg'
      have := hr.s.lt g ht
      omega)
  exact wp_val hrun (hn _ _ _ _ h h1 ⟨List.mem_append_right _ (List.mem_singleton.mpr rfl), hρ.symm, hy1⟩ h2 (Tame.grow hg.size hold (fun i hi => fresh_not i (by rw [← hr.s.ids]; exact hi)) hy))

theorem run_buildSlice0 (w : World) (t e : TypeId) (ie : TypeInfo) (hu : P.underlying t = some (.slice e)) (hie : P.info? e = some ie) :
    (Instr.buildSlice t 0 #[]).run P w = .ok (.slice (some ⟨w.heap.size, 0, none⟩) 0 0) (w.alloc (.cells #[] e)) := by
  simp [Instr.buildSlice, run_underlying hu, sizeOf, typeInfo, hie, newRow, Instr.fill]
  congr 2
  exact Array.eq_empty_of_size_eq_zero (by simp)

theorem goes_buildSlice (htb : tb.ok0 P) {ap : Bool} {t : TypeId} {len : Nat} {parts : Array (Nat × Operand)} (ho : o.op = .buildSlice t len parts) (hr : Rel c st a.tmps)
    (h : (match tb.ti t with
    | some i =>
      match i.desc with
      | .slice e =>
        match tb.ti e with
        | some ie =>
          match ie.ty with
          | some ty =>
            if ie.size = ty.sz ∧ 0 < ty.sz ∧ len * ie.size ≤ 16777216 then
              fillL (fun i => some (i * ie.size, ie.size)) st parts.toList ((List.range (len * ie.size)).map fun j => .v (ie.zero.getD (j % ie.size) (default : Value))) fun ls =>
                if flat ty = false ∧ (0 < len ∨ tb.deep = true) then K (.lf (.own (fresh st.store))) (st.add (.lrow e ty len ls))
                else readTys .keep ty len ls st fun xs st' => K (.lf (.own (fresh st'.store))) (st'.add (.row e ty xs))
            else none
          | none => none
        | none => none
      | _ => none
    | none => none) = some r) : OpGoesT P o c a K r ap := by
  split at h
  · rename_i i hi
    split at h
    · rename_i e hd
      split at h
      · rename_i ie hie
        split at h
        · rename_i ty hty
          split at h
          · rename_i hcond
            obtain ⟨hsz, hpos, hsmall⟩ := hcond
            have hti := htb.ti _ _ hi
            have hte := htb.ti _ _ hie
            obtain ⟨f, z, hf, hf2, hf3, hf4, hf5⟩ := hte.info
            have hu := hti.under
            rw [hd] at hu
            have hzc := zeros_rel c hf5 hte.zlen hte.zone (by omega) (len * ie.size)
            obtain ⟨ls', cells', k1, k2, k3, k4⟩ := fill_rel (place := fun i => some (i * ie.size, ie.size)) (fun i x hx => hx) hr h hzc
            have hcs : cells'.size = len * ie.size := by rw [k4]; simp
            have hrun : (Instr.buildSlice t len (parts.map fun (i, x) => (i, a.eval x))).run P c.w = .ok (.slice (some ⟨c.w.heap.size, 0, none⟩) len len) (c.w.alloc (.cells cells' e)) := by
              by_cases h0 : len = 0
              · subst h0
                have hp : parts = #[] := by
                  rcases parts with ⟨l⟩
                  cases l with
                  | nil => rfl
                  | cons p l =>
                    simp only [List.map_cons, Instr.fill] at k1
                    split at k1
                    · cases k1
                    · rename_i hh
                      simp only [Bool.or_eq_true, decide_eq_true_eq, not_or, Array.size_map, Array.size_range, Nat.zero_mul, ne_eq, Decidable.not_not] at hh
                      omega
                subst hp
                have hc0 : cells' = #[] := Array.eq_empty_of_size_eq_zero (by simpa using hcs)
                rw [hc0]
                have := run_buildSlice0 c.w t e f hu hf
                simpa using this
              · refine run_buildSlice c.w t e len _ cells' f z hu hf hf4 (by rw [hf2]; omega) (by rw [hf2, hsz]; exact Nat.mul_ne_zero h0 (by omega)) ?_
                rw [Array.toList_map, hf2]
                exact k1
            split at k2
            · refine goes_lrow (w1 := c.w.alloc (.cells cells' e)) (y := .slice (some ⟨c.w.heap.size, 0, none⟩) len len) (inner := cells'.toList) hr ?_ (World.grownBy_alloc _ _ none) rfl (fun g hg => ?_) ?_ k3 k2
              · unfold execOp
                rw [ho]
                simp only [Sem.run_bind, hrun, Result.andThen_ok, Sem.run_pure]
              · have : c.w.heap.size = g := by first | exact blk_sl hg | simpa [blk] using hg
                omega
              · refine toO <| World.ownsRow_lit c.w cells' len (Nat.zero_le _) ?_ (by rw [hcs, hsz])
                have : len ≤ len * ie.size := Nat.le_mul_of_pos_right _ (by omega)
                unfold maxLen
                omega
            obtain ⟨xs, st1, c1, g1, g2, g3, g4, g5, g6⟩ := readTys_some (need := .keep) (c0 := c) k2 hr (Later.refl hr.s) k3
            refine later_goes (c' := c1) (st' := st1) g3.step g3.w g3.tame (fun hr1 => ?_) g2
            refine goes_row (w1 := c1.w.alloc (.cells cells' e)) (y := .slice (some ⟨c1.w.heap.size, 0, none⟩) len len) (inner := cells'.toList) hr1 ?_ (World.grownBy_alloc _ _ none) rfl (fun g hg => ?_) ?_ ?_ g1
            · unfold execOp
              rw [ho]
              simp only [g3.w, Sem.run_bind, hrun, Result.andThen_ok, Sem.run_pure]
            · have : c1.w.heap.size = g := by first | exact blk_sl hg | simpa [blk] using hg
              omega
            · rw [g5]
              refine toO <| World.ownsRow_lit c1.w cells' len (Nat.zero_le _) ?_ (by rw [hcs, hsz])
              have : len ≤ len * ie.size := Nat.le_mul_of_pos_right _ (by omega)
              unfold maxLen
              omega
            · exact rows_rel (S := rdS .keep c1) (fun k hk => hk) (by rw [Array.length_toList, hcs, g5, hsz]) g6
          · cases h
        · cases h
      · cases h
    · cases h
  · cases h

theorem goes_makeSlice (htb : tb.ok0 P) {ap : Bool} {t : TypeId} {l cc : Operand} (ho : o.op = .makeSlice t l cc) (hr : Rel c st a.tmps)
    (h : (match tb.ti t with
    | some i =>
      match i.desc with
      | .slice e =>
        match tb.ti e with
        | some ie =>
          match ie.ty with
          | some ty =>
            if ie.size = ty.sz ∧ 0 < ty.sz ∧ 0 < ie.bytes then
              intOf (st.ev l) fun k n => intOf (st.ev cc) fun k' n' =>
                if k = .i64 ∧ k' = .i64 then
                  if n = n' then
                    if 0 ≤ n then
                      if n.toNat * ie.bytes ≤ 140737488355328 then
                        if flat ty = false ∧ tb.deep = true then
                          match zeroO ty ie.zero with
                          | some z => K (.lf (.own (fresh st.store))) (st.add (.deep e ty (List.replicate n.toNat z)))
                          | none => none
                        else readTy .keep ty (ie.zero.map .v) st fun z st' => K (.lf (.own (fresh st'.store))) (st'.add (.row e ty (List.replicate n.toNat z)))
                      else none
                    else none
                  else none
                else none
            else none
          | none => none
        | none => none
      | _ => none
    | none => none) = some r) : OpGoesT P o c a K r ap := by
  split at h
  · rename_i i hi
    split at h
    · rename_i e hd
      split at h
      · rename_i ie hie
        split at h
        · rename_i ty hty
          split at h
          · rename_i hcond
            obtain ⟨hsz, hpos, hby⟩ := hcond
            obtain ⟨k, n, hn, h1⟩ := intOf_some h
            clear h
            obtain ⟨k', n', hn', h⟩ := intOf_some h1
            clear h1
            split at h
            · rename_i hkk
              obtain ⟨rfl, rfl⟩ := hkk
              split at h
              · rename_i hnn
                subst hnn
                split at h
                · rename_i h0
                  split at h
                  · rename_i hlim
                    have hti := htb.ti _ _ hi
                    have hte := htb.ti _ _ hie
                    obtain ⟨f, z, hf, hf2, hf3, hf4, hf5⟩ := hte.info
                    have hu := hti.under
                    rw [hd] at hu
                    obtain ⟨m, rfl⟩ := Int.eq_ofNat_of_zero_le h0
                    simp only [Int.toNat_natCast] at h hlim
                    have hm0 : m ≤ m * ie.bytes := Nat.le_mul_of_pos_right _ hby
                    have hsegs : ∀ j, j < m → (((madeCells z.cells (m * ie.size)).toList.drop (j * ty.sz)).take ty.sz) = ie.zero := by
                      intro j hjm
                      have hzs : z.cells.size = ie.size := by rw [← hte.zlen, ← hf5]; simp
                      apply List.ext_getElem?
                      intro q
                      rw [List.getElem?_take]
                      split
                      · rename_i hq
                        have hb : j * ty.sz + ty.sz ≤ m * ty.sz := by rw [← Nat.succ_mul]; exact Nat.mul_le_mul_right _ hjm
                        rw [List.getElem?_drop, Array.getElem?_toList]
                        have hlt : j * ty.sz + q < m * ie.size := by rw [hsz]; omega
                        simp only [madeCells, Array.getElem?_map]
                        rw [Array.getElem?_eq_getElem (by simpa using hlt)]
                        simp only [Array.getElem_range, Option.map_some]
                        rw [hzs, hsz, show (j * ty.sz + q) % ty.sz = q by rw [Nat.add_comm, Nat.add_mul_mod_self_right, Nat.mod_eq_of_lt hq], ← hf5, Array.getElem?_toList, getElem!_def]
                        rw [Array.getElem?_eq_getElem (by rw [hzs]; omega)]
                      · rename_i hq
                        rw [List.getElem?_eq_none (by rw [hte.zlen]; omega)]
                    split at h
                    · split at h
                      · rename_i zz hzz
                        obtain ⟨w1, q1, q2, q3⟩ := run_make_full (P := P) c.w 0 t e f z ie.size hu hf hf4 hf2 .i64 .i64 m (by rw [hf3, Nat.mul_comm]; omega) (by unfold maxLen; omega) (Nat.zero_le _)
                        have hl := hr.ev l
                        rw [hn] at hl
                        have hc := hr.ev cc
                        rw [hn'] at hc
                        refine goes_rowE (w1 := w1) (y := .slice (some ⟨c.w.heap.size, 0, none⟩) m m) hr ?_ q3 rfl (fun g hg => ?_) (fun cg hw hρ hT => ?_) h
                        · unfold execOp
                          rw [ho]
                          simp only [hl.1, hc.1, Sem.run_bind, q1, Result.andThen_ok, Sem.run_pure]
                        · have : c.w.heap.size = g := by first | exact blk_sl hg | simpa [blk] using hg
                          omega
                        · refine ⟨_, [], by rw [hw, hρ, List.length_replicate, ← hsz]; exact toO q2, fun g hg => ⟨hT g (by rw [← hρ]; exact hg), by simp⟩, List.nodup_nil, fun g hg => (by cases hg), ?_⟩
                          rw [hw]
                          refine ownL_rep (zeroO_own hzz) (by rw [hte.zlen, hsz]) m _ (by rw [Array.length_toList, size_madeCells, hsz]) hsegs
                      · cases h
                    obtain ⟨zx, st1, c1, g1, g2, g3, g4, g5⟩ := readTy_some (need := .keep) (c0 := c) h hr (Later.refl hr.s) (by
                      have := all2_v c ie.zero hte.zone
                      exact this)
                    have hm1 : m ≤ m * ie.bytes := Nat.le_mul_of_pos_right _ hby
                    obtain ⟨w1, q1, q2, q3⟩ := run_make_full (P := P) c1.w 0 t e f z ie.size hu hf hf4 hf2 .i64 .i64 m (by rw [hf3, Nat.mul_comm]; omega) (by unfold maxLen; omega) (Nat.zero_le _)
                    refine later_goes (c' := c1) (st' := st1) g3.step g3.w g3.tame (fun hr1 => ?_) g2
                    have hl := hr.ev l
                    rw [hn] at hl
                    have hc := hr.ev cc
                    rw [hn'] at hc
                    refine goes_row (w1 := w1) (y := .slice (some ⟨c1.w.heap.size, 0, none⟩) m m) (inner := (madeCells z.cells (m * ie.size)).toList) hr1 ?_ q3 rfl (fun g hg => ?_) ?_ ?_ g1
                    · unfold execOp
                      rw [ho]
                      simp only [hl.1, hc.1, Sem.run_bind, q1, Result.andThen_ok, Sem.run_pure]
                    · have : c1.w.heap.size = g := by first | exact blk_sl hg | simpa [blk] using hg
                      omega
                    · rw [List.length_replicate, ← hsz]
                      exact toO q2
                    · have hzs : z.cells.size = ie.size := by rw [← hte.zlen, ← hf5]; simp
                      refine rows_rel (S := rdS .keep c1) (fun k hk => hk) (by rw [Array.length_toList, size_madeCells, List.length_replicate, hsz]) (fun j x hj => ?_)
                      obtain ⟨hj1, hj2⟩ := List.getElem?_eq_some_iff.mp hj
                      rw [List.getElem_replicate] at hj2
                      subst hj2
                      have hjm : j < m := by simpa using hj1
                      have e1 : (((madeCells z.cells (m * ie.size)).toList.drop (j * ty.sz)).take ty.sz) = ie.zero := by
                        apply List.ext_getElem?
                        intro q
                        rw [List.getElem?_take]
                        split
                        · rename_i hq
                          have hb : j * ty.sz + ty.sz ≤ m * ty.sz := by rw [← Nat.succ_mul]; exact Nat.mul_le_mul_right _ hjm
                          rw [List.getElem?_drop, Array.getElem?_toList]
                          have hlt : j * ty.sz + q < m * ie.size := by rw [hsz]; omega
                          simp only [madeCells, Array.getElem?_map]
                          rw [Array.getElem?_eq_getElem (by simpa using hlt)]
                          simp only [Array.getElem_range, Option.map_some]
                          rw [hzs, hsz, show (j * ty.sz + q) % ty.sz = q by rw [Nat.add_comm, Nat.add_mul_mod_self_right, Nat.mod_eq_of_lt hq], ← hf5, Array.getElem?_toList, getElem!_def]
                          rw [Array.getElem?_eq_getElem (by rw [hzs]; omega)]
                        · rename_i hq
                          rw [List.getElem?_eq_none (by rw [hte.zlen]; omega)]
                      rw [e1]
                      exact g5
                  · cases h
                · cases h
              · cases h
            · cases h
          · cases h
        · cases h
      · cases h
    · cases h
  · cases h

end
end Go.Proofs.Ytdacfaincamliaa.Ev
