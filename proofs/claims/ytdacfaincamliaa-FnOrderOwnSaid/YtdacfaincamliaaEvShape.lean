/- States in their own form: what variables hold is read off, and laid anew. Conditions: none. -/
import Derived.Test.YtdacfaincamliaaEvWrite4
namespace Go.Proofs.Ytdacfaincamliaa.Ev
open Go Go.RowKit

section
variable {P : Program} {R : Type} {tb : Tb} {c : Cx} {st : St} {r : R} {a : Act}

/-! ### What no variable leads to -/
theorem keepVars_rel {vars : List Nat} : ∀ {env : List AV} {l : List Value} (i : Nat), All2 (avRel c) env l → All2 (avRel c) (keepVars vars i env) l
  | [], [], _, h => h
  | v :: env, y :: l, i, h => by
    refine ⟨?_, keepVars_rel (i + 1) h.2⟩
    split
    · exact h.1
    · trivial
  | [], _ :: _, _, h => h.elim
  | _ :: _, [], _, h => h.elim

theorem Rel.norm {tmps : Array Value} (hr : Rel c st tmps) (vars : List Nat) : ∃ c', Rel c' (st.norm vars) tmps ∧ Step c c' ∧ c'.w = c.w := by
  have h1 : Rel c ({ st with env := keepVars vars 0 st.env } : St) tmps := ⟨hr.s, keepVars_rel 0 hr.env⟩
  exact h1.drop fun i => (reach st.store 3 ((keepVars vars 0 st.env).flatMap idsA)).contains i


theorem lvOf_rel {agg : Bool} {n : Nat} {v : V1} {ls : List Leaf} (h : lvOf agg n v = some ls) {y : Value} (hv : v1Rel c v y) : All2 (leafRel c) ls y.cells.toList ∧ shape agg y := by
  unfold lvOf at h
  split at h
  · split at h
    · rename_i ha
      injection h with h
      subst h
      obtain ⟨cs, h1, h2⟩ := hv
      rw [h1]
      exact ⟨h2, by rw [shape, if_pos ha]; exact ⟨cs, rfl⟩⟩
    · cases h
  · split at h
    · rename_i ha
      injection h with h
      subst h
      have h1 := leaf_one hv
      rw [one_cells h1]
      exact ⟨⟨hv, trivial⟩, by rw [shape, if_neg (by rw [ha.1]; simp)]; exact h1⟩
    · cases h

theorem ofLv_rel {agg : Bool} {ls : List Leaf} {y : Value} (h : All2 (leafRel c) ls y.cells.toList) (hs : shape agg y) : v1Rel c (ofLv agg ls) y := by
  unfold ofLv
  cases agg with
  | true =>
    obtain ⟨cs, h1⟩ := hs
    rw [h1] at h ⊢
    exact ⟨cs, rfl, h⟩
  | false =>
    have h1 : y.oneCell' = true := hs
    rw [one_cells h1] at h
    simp only [Bool.false_eq_true, if_false]
    split
    · exact h.1
    · exact h1


/-- A row that is nobody else's. -/
def rowOk (c : Cx) (e : TypeId) (t : Ty) (xs : List t.den) (y : Value) : Prop :=
  ∃ inner, oRow c.w e t.sz y xs.length inner ∧ ∀ j z, xs[j]? = some z → RdE c.I t c.w z ((inner.drop (j * t.sz)).take t.sz)

def OBc (w : World) : List CK → List Value → Nat → Prop
  | .v _ t :: ks, cs, g => OBc w ks (cs.drop t.sz) g
  | .r _ _ :: ks, y :: rest, g => blk y = some g ∨ OBc w ks rest g
  | .o t :: ks, cs, g => Ft t w (cs.take t.sz) g ∨ OBc w ks (cs.drop t.sz) g
  | .f _ :: ks, _ :: rest, g => OBc w ks rest g
  | .g _ :: ks, _ :: rest, g => OBc w ks rest g
  | _, _, _ => False

def CKsRel (c : Cx) : (ks : List CK) → cdens ks → List Value → Prop
  | [], _, [] => True
  | .v want t :: ks, x, cs => RdE (c.S want) t c.w x.1 (cs.take t.sz) ∧ CKsRel c ks x.2 (cs.drop t.sz)
  | .r e t :: ks, x, y :: rest => rowOk c e t x.1 y ∧ y.oneCell' = true ∧ (∀ g, blk y = some g → ¬ OBc c.w ks rest g) ∧ CKsRel c ks x.2 rest
  | .o t :: ks, x, cs => (∃ B, OwnE t c.w B x.1 (cs.take t.sz) ∧ B.Nodup) ∧ (∀ g, Ft t c.w (cs.take t.sz) g → ¬ OBc c.w ks (cs.drop t.sz) g) ∧ CKsRel c ks x.2 (cs.drop t.sz)
  | .f k :: ks, x, y :: rest => k.rel (c.S k.want) c.w x.1 y ∧ CKsRel c ks x.2 rest
  | .g f :: ks, x, y :: rest => y = .func (.func f) #[] #[] ∧ CKsRel c ks x.2 rest
  | _, _, _ => False

theorem CKsRel.move {c c' : Cx} (hw : c'.w = c.w) (hI : ∀ k, c.I k → c'.I k) (hT : ∀ k, c.T k → c'.T k) : ∀ {ks : List CK} {x : cdens ks} {cs : List Value}, CKsRel c ks x cs → CKsRel c' ks x cs
  | [], _, [], _ => trivial
  | [], _, _ :: _, h => h.elim
  | .v want t :: ks, x, cs, ⟨h1, h2⟩ => ⟨h1.step (by rw [hw]; exact agree.refl _ _) (by cases want; exact hT; exact hI), CKsRel.move hw hI hT h2⟩
  | .r e t :: ks, x, y :: rest, ⟨⟨inner, h1, h2⟩, h3, h4, h5⟩ => ⟨⟨inner, by rw [hw]; exact h1, fun j z hz => (h2 j z hz).step (by rw [hw]; exact agree.refl _ _) hI⟩, h3, by rw [hw]; exact h4, CKsRel.move hw hI hT h5⟩
  | .r _ _ :: _, _, [], h => h.elim
  | .f k :: ks, x, y :: rest, ⟨h1, h4⟩ => ⟨FK.rel_step (by rw [hw]; exact agree.refl _ _) (by cases k.want; exact hT; exact hI) h1, CKsRel.move hw hI hT h4⟩
  | .g f :: ks, x, y :: rest, ⟨h1, h2⟩ => ⟨h1, CKsRel.move hw hI hT h2⟩
  | .f _ :: _, _, [], h => h.elim
  | .g _ :: _, _, [], h => h.elim
  | .o t :: ks, x, cs, ⟨h1, h2, h3⟩ => ⟨by rw [hw]; exact h1, by rw [hw]; exact h2, CKsRel.move hw hI hT h3⟩

theorem ofT_S (want : Bool) (c : Cx) : rdS (Md.ofT want) c = c.S want := by cases want <;> rfl

theorem castD_some {t t' : Ty} {x : t.den} {K' : t'.den → Option R} (h : castD x K' = some r) : ∃ e : t = t', K' (e ▸ x) = some r := by
  unfold castD at h
  split at h
  · rename_i e
    exact ⟨e, h⟩
  · cases h

theorem getCKs_some {tmps : Array Value} {c0 : Cx} : ∀ {ks : List CK} {ls : List Leaf} {cs : List Value} {st : St} {c : Cx} {K : cdens ks → St → Option R}, getCKs ks ls st K = some r → Rel c st tmps → Later c0 c → All2 (leafRel c0) ls cs →
    ∃ x st' c', K x st' = some r ∧ Rel c' st' tmps ∧ Later c c' ∧ CKsRel c' ks x cs ∧ ∀ g, OBc c.w ks cs g → (∃ i, i ∈ c.D ∧ c.ow i g) ∧ ¬ c'.T g ∧ ∀ i, i ∈ c'.D → ¬ c'.ow i g
  | [], ls, cs, st, c, K, h, hr, h0, ha => by
    simp only [getCKs] at h
    split at h
    · cases cs with
      | nil => exact ⟨(), st, c, h, hr, Later.refl hr.s, trivial, fun g hg => hg.elim⟩
      | cons _ _ => exact ha.elim
    · cases h
  | .v want t :: ks, ls, cs, st, c, K, h, hr, h0, ha => by
    simp only [getCKs] at h
    obtain ⟨x, st1, c1, h1, h2, h3, h4, h5⟩ := readTy_some (c0 := c0) h hr h0 (ha.take t.sz)
    obtain ⟨xs, st2, c2, k1, k2, k3, k4, k5⟩ := getCKs_some (c0 := c0) h1 h2 (h0.trans h3 h4) (ha.drop t.sz)
    refine ⟨(x, xs), st2, c2, k1, k2, h3.trans k3 k3.D, ⟨?_, k4⟩, fun g hg => ?_⟩
    · rw [← ofT_S]
      exact h5.step (by rw [k3.w]; exact agree.refl _ _) (rdS_step k3)
    · obtain ⟨⟨i, g1, g2⟩, g3⟩ := k5 g (by rw [h3.w]; exact hg)
      exact ⟨⟨i, h4 i g1, h3.ow g1 g2⟩, g3⟩
  | .o t :: ks, ls, cs, st, c, K, h, hr, h0, ha => by
    simp only [getCKs] at h
    obtain ⟨x, st1, D', B, h1, h2, h3, h4, h5, h6⟩ := takeO_some (c0 := c0) h hr h0 (ha.take t.sz)
    obtain ⟨xs, st2, c2, k1, k2, k3, k4, k5⟩ := getCKs_some (c0 := c0) h1 h2 (h0.trans (later_D hr h3) h3) (ha.drop t.sz)
    have hL := later_D hr h3
    have hap : ∀ g, g ∈ B → ∀ i, i ∈ D' → ¬ c.ow i g := fun g hg i hi hh => by
      obtain ⟨j, j1, j2, j3⟩ := h6 g hg
      exact hr.s.apartX j i g j1 (h3 i hi) (fun e => j2 (by rw [e]; exact hi)) j3 hh
    refine ⟨(x, xs), st2, c2, k1, k2, hL.trans k3 k3.D, ⟨⟨B, by rw [k3.w]; exact h4, h5⟩, fun g hg hF => ?_, k4⟩, fun g hg => ?_⟩
    · rw [k3.w] at hg hF
      obtain ⟨⟨i, g1, g2⟩, _⟩ := k5 g hF
      exact hap g ((h4.ft g).mp hg) i g1 g2
    · rcases hg with hg | hg
      · have hg := (h4.ft g).mp hg
        obtain ⟨j, j1, j2, j3⟩ := h6 g hg
        refine ⟨⟨j, j1, j3⟩, fun hT => ?_, fun i hi hh => ?_⟩
        · rcases k3.T g hT with h9 | ⟨i, h8, h9⟩
          · exact hr.s.notTX j1 j3 h9
          · exact hap g hg i h8 h9
        · exact hap g hg i (k3.D i hi) (k3.ow hi hh)
      · obtain ⟨⟨i, g1, g2⟩, g3⟩ := k5 g hg
        exact ⟨⟨i, h3 i g1, g2⟩, g3⟩
  | .f k :: ks, ls, cs, st, c, K, h, hr, h0, ha => by
    simp only [getCKs] at h
    split at h
    · rename_i l rest
      match cs, ha with
      | y :: cs, ha =>
        obtain ⟨x, lt, h, hv, hw⟩ := FK.get_some h ha.1
        obtain ⟨xs, st2, c2, k1, k2, k3, k4, k5⟩ := getCKs_some (c0 := c0) h hr h0 ha.2
        refine ⟨(x, xs), st2, c2, k1, k2, k3, ⟨FK.rel_step (by rw [k3.w, h0.w]; exact agree.refl _ _) (fun g hg => ?_) hv, k4⟩, k5⟩
        have h1 := h0.step.trans k3.step
        have hg := S_mono h0.sub hw g hg
        cases hkw : k.want with
        | true => rw [hkw] at hg; exact h1.I g hg
        | false => rw [hkw] at hg; exact h1.T g hg
    · cases h
  | .g f :: ks, ls, cs, st, c, K, h, hr, h0, ha => by
    simp only [getCKs] at h
    split at h
    · rename_i f' rest
      split at h
      · rename_i hc
        subst hc
        match cs, ha with
        | y :: cs, ha =>
          obtain ⟨xs, st2, c2, k1, k2, k3, k4, k5⟩ := getCKs_some (c0 := c0) h hr h0 ha.2
          exact ⟨((), xs), st2, c2, k1, k2, k3, ⟨ha.1, k4⟩, k5⟩
      · cases h
    · cases h
  | .r e t :: ks, ls, cs, st, c, K, h, hr, h0, ha => by
    simp only [getCKs] at h
    split at h
    · rename_i id rest
      match cs, ha with
      | y :: cs, ha =>
        split at h
        · rename_i e' t' xs hl
          split at h
          · rename_i hee
            subst hee
            obtain ⟨hty, h⟩ := cast_some h
            have hty2 := hty.symm
            subst hty2
            obtain ⟨hr1, hL⟩ := hr.take id
            obtain ⟨x2, st2, c2, k1, k2, k3, k4, k5⟩ := getCKs_some (c0 := c0) h hr1 (h0.trans hL hL.D) ha.2
            have hidD : id ∈ c.D := lookup_D hr.s hl
            have hy : y = c.ρ id := by rw [h0.ρ id hidD]; exact ha.1.2.1
            have hent := hr.entOf hl
            obtain ⟨inner, m1, m2, m3⟩ := hent
            have hne : ∀ i, i ∈ c.D.filter (· != id) → id ≠ i := fun i hi hh => by
              have := (List.mem_filter.mp hi).2
              rw [hh] at this
              simp at this
            have hap : ∀ i, i ∈ c.D.filter (· != id) → ∀ g, blk y = some g → ¬ c.ow i g := fun i hi g hg => by
              rw [hy] at hg
              exact hr.s.apartX id i g hidD (List.mem_filter.mp hi).1 (hne i hi) (.inl hg)
            refine ⟨(xs, x2), st2, c2, k1, k2, hL.trans k3 k3.D, ⟨⟨inner, ?_, fun j z hz => ?_⟩, ha.1.2.2, fun g hg hF => ?_, k4⟩, fun g hg => ?_⟩
            · rw [k3.w, hy]; exact m1
            · exact (row_cells m3 (fun _ h => h) j z hz).step (by rw [k3.w]; exact agree.refl _ _) k3.step.I
            · rw [k3.w] at hF
              obtain ⟨⟨i, g1, g2⟩, _⟩ := k5 g hF
              exact hap i g1 g hg g2
            · rcases hg with hg | hg
              · refine ⟨⟨id, hidD, .inl (by rw [← hy]; exact hg)⟩, fun hT => ?_, fun i hi hh => ?_⟩
                · rcases k3.T g hT with h9 | ⟨i, h8, h9⟩
                  · exact m2 g (by rw [← hy]; exact hg) h9
                  · exact hap i h8 g hg h9
                · exact hap i (k3.D i hi) g hg (k3.ow hi hh)
              · obtain ⟨⟨i, g1, g2⟩, g3⟩ := k5 g hg
                exact ⟨⟨i, (List.mem_filter.mp g1).1, g2⟩, g3⟩
          · cases h
        · cases h
    · rename_i rest
      match cs, ha with
      | y :: cs, ha =>
        obtain ⟨x2, st2, c2, k1, k2, k3, k4, k5⟩ := getCKs_some (c0 := c0) h hr h0 ha.2
        have hy : y = .slice none 0 0 := ha.1.1
        refine ⟨([], x2), st2, c2, k1, k2, k3, ⟨⟨[], by rw [hy]; exact oRow_nil c2.w e t.sz, fun j z hj => by simp at hj⟩, by rw [hy]; rfl, fun g hg => (by rw [hy] at hg; cases hg), k4⟩, fun g hg => ?_⟩
        rcases hg with hg | hg
        · rw [hy] at hg; cases hg
        · exact k5 g hg
    · cases h

theorem grow_ow {w1 : World} {id i g : Nat} {y : Value} (hne : i ≠ id) (h : (c.grow w1 id y).ow i g) : c.ow i g := by
  rcases h with h | h
  · have h : blk (if i = id then y else c.ρ i) = some g := h
    rw [if_neg hne] at h
    exact .inl h
  · have h : (if i = id then False else c.X i g) := h
    rw [if_neg hne] at h
    exact .inr h
theorem grow_ow0 {w1 : World} {id g : Nat} {y : Value} (h : (c.grow w1 id y).ow id g) : blk y = some g := by
  rcases h with h | h
  · have h : blk (if id = id then y else c.ρ id) = some g := h
    rw [if_pos rfl] at h
    exact h
  · have h : (if id = id then False else c.X id g) := h
    rw [if_pos rfl] at h
    exact h.elim

theorem putCKs_some {tmps : Array Value} : ∀ {ks : List CK} {x : cdens ks} {cs : List Value} {st : St} {c : Cx}, Rel c st tmps → CKsRel c ks x cs → (∀ g, OBc c.w ks cs g → ¬ c.T g ∧ ∀ i, i ∈ c.D → ¬ c.ow i g) →
    ∃ c', Rel c' (putCKs ks x st).2 tmps ∧ Step c c' ∧ c'.w = c.w ∧ c'.T = c.T ∧ c'.I = c.I ∧ All2 (leafRel c') (putCKs ks x st).1 cs ∧ (∀ l y, leafRel c l y → leafRel c' l y) ∧ ∀ i, i ∈ c'.D → (i ∈ c.D ∧ c'.ρ i = c.ρ i ∧ ∀ g, c'.ow i g → c.ow i g) ∨ ∀ g, c'.ow i g → OBc c.w ks cs g
  | [], _, [], st, c, hr, _, _ => ⟨c, hr, Step.refl c, rfl, rfl, rfl, trivial, fun _ _ h => h, fun i hi => .inl ⟨hi, rfl, fun _ h => h⟩⟩
  | [], _, _ :: _, st, c, hr, h, _ => h.elim
  | .v want t :: ks, x, cs, st, c, hr, ⟨h1, h2⟩, hF => by
    obtain ⟨c', k1, k2, k3, k4, k5, k6, k7, k8⟩ := putCKs_some (st := st) hr h2 hF
    refine ⟨c', k1, k2, k3, k4, k5, ?_, k7, k8⟩
    show All2 _ (leaves want t x.1 ++ _) cs
    rw [← List.take_append_drop t.sz cs]
    exact ((leaves_rel want h1).mono k7).append k6
  | .f k :: ks, x, y :: cs, st, c, hr, ⟨h1, h2⟩, hF => by
    obtain ⟨c', k1, k2, k3, k4, k5, k6, k7, k8⟩ := putCKs_some (st := st) hr h2 hF
    exact ⟨c', k1, k2, k3, k4, k5, ⟨k7 (k.leaf x.1) y (FK.leaf_rel h1), k6⟩, k7, k8⟩
  | .g f :: ks, x, y :: cs, st, c, hr, ⟨h1, h2⟩, hF => by
    obtain ⟨c', k1, k2, k3, k4, k5, k6, k7, k8⟩ := putCKs_some (st := st) hr h2 hF
    exact ⟨c', k1, k2, k3, k4, k5, ⟨k7 (.fnc f) y h1, k6⟩, k7, k8⟩
  | .f _ :: ks, x, [], st, c, hr, h, hF => h.elim
  | .g _ :: ks, x, [], st, c, hr, h, hF => h.elim
  | .o t :: ks, x, cs, st, c, hr, ⟨⟨B, h1, h2⟩, h3, h4⟩, hF => by
    obtain ⟨c1, p1, p2, p3, p4, p5, p6, p7, p8, p9⟩ := putO_some (st := st) hr h1 h2 (fun g hg => hF g (.inl ((h1.ft g).mpr hg)))
    obtain ⟨c', k1, k2, k3, k4, k5, k6, k7, k8⟩ := putCKs_some (c := c1) (st := (putO t x.1 st).2) p1 (h4.move (c := c) (c' := c1) p3 (by rw [p5]; exact fun _ h => h) (by rw [p4]; exact fun _ h => h)) (fun g hg => by
      rw [p3] at hg
      refine ⟨by rw [p4]; exact (hF g (.inr hg)).1, fun i hi hh => ?_⟩
      rcases p8 i hi with ⟨h8, _, h9⟩ | h8
      · exact (hF g (.inr hg)).2 i h8 (h9 g hh)
      · exact h3 g ((h1.ft g).mpr (h8 g hh)) hg)
    refine ⟨c', k1, p2.trans k2, k3.trans p3, k4.trans p4, k5.trans p5, ?_, fun l y h => k7 _ _ (p7 _ _ h), fun i hi => ?_⟩
    · show All2 _ ((putO t x.1 st).1 ++ _) cs
      rw [← List.take_append_drop t.sz cs]
      exact (p6.mono k7).append k6
    · rcases k8 i hi with ⟨h8, h80, h9⟩ | h8
      · rcases p8 i h8 with ⟨q1, q2, q3⟩ | q1
        · exact .inl ⟨q1, h80.trans q2, fun g hg => q3 g (h9 g hg)⟩
        · exact .inr fun g hg => .inl ((h1.ft g).mpr (q1 g (h9 g hg)))
      · exact .inr fun g hg => .inr (by rw [← p3]; exact h8 g hg)
  | .r e t :: ks, x, [], st, c, hr, h, hF => h.elim
  | .r e t :: ks, x, y :: cs, st, c, hr, ⟨⟨inner, h1, h2⟩, h3, h4, h5⟩, hF => by
    have hl := leaf_grow (st := st) (w1 := c.w) (y0 := y) hr.s (fun _ _ => rfl)
    have hρ : (c.grow c.w (fresh st.store) y).ρ (fresh st.store) = y := if_pos rfl
    have hrow : All2 (leafRel c) (x.1.flatMap (leaves true t)) inner := rows_rel (S := c.I) (fun _ h => h) h1.1 h2
    obtain ⟨q1, q2⟩ := hr.growA (w1 := c.w) (y0 := y) (e := .row e t x.1) (fun _ _ => rfl) (Below.refl _ _) (fun g hg => (hF g (.inl hg)).2)
      ⟨inner, by rw [hρ]; exact h1, fun g hg => by rw [hρ] at hg; exact (hF g (.inl hg)).1, hrow.mono hl⟩
    obtain ⟨c', k1, k2, k3, k4, k5, k6, k7, k8⟩ := putCKs_some (c := c.grow c.w (fresh st.store) y) (st := st.add (.row e t x.1)) q1 (h5.move (c := c) (c' := c.grow c.w (fresh st.store) y) rfl (fun _ h => h) (fun _ h => h)) (fun g hg => ⟨(hF g (.inr hg)).1, fun i hi hh => by
      rcases List.mem_append.mp hi with hi | hi
      · exact (hF g (.inr hg)).2 i hi (grow_ow (fresh_not i (by rw [← hr.s.ids]; exact hi)) hh)
      · rw [List.mem_singleton] at hi
        rw [hi] at hh
        exact h4 g (grow_ow0 hh) hg⟩)
    have hown : leafRel (c.grow c.w (fresh st.store) y) (.own (fresh st.store)) y := ⟨List.mem_append_right _ (List.mem_singleton.mpr rfl), hρ.symm, h3⟩
    refine ⟨c', k1, q2.trans k2, k3, k4, k5, ⟨k7 _ _ hown, k6⟩, fun l z h => k7 _ _ (hl _ _ h), fun i hi => ?_⟩
    rcases k8 i hi with ⟨h8, h80, h9⟩ | h8
    · rcases List.mem_append.mp h8 with h8 | h8
      · exact .inl ⟨h8, h80.trans (if_neg (fresh_not i (by rw [← hr.s.ids]; exact h8))), fun g hg => grow_ow (fresh_not i (by rw [← hr.s.ids]; exact h8)) (h9 g hg)⟩
      · rw [List.mem_singleton] at h8
        refine .inr fun g hg => .inl ?_
        have := h9 g hg
        rw [h8] at this
        exact grow_ow0 this
    · exact .inr fun g hg => .inr (h8 g hg)

/-! ### Variables -/
def OBe (w : World) : LK → Value → Nat → Prop
  | .c _ k, y, g => OBc w [k] y.cells.toList g
  | .t _ ty, y, g => OBc w [.o ty] y.cells.toList g
  | .b t ks, y, g => ∃ gg conc, y = .pointer (some ⟨gg, 0, none⟩) ∧ w.heap[gg]? = some (.cells conc t (0, 0)) ∧ (g = gg ∨ OBc w ks conc.toList g)

def EnRel (c : Cx) : (k : LK) → k.den → Value → Prop
  | .c agg k, x, y => shape agg y ∧ CKsRel c [k] (x, ()) y.cells.toList
  | .t agg ty, x, y => shape agg y ∧ CKsRel c [.o ty] (x, ()) y.cells.toList
  | .b t ks, x, y => ∃ gg conc, y = .pointer (some ⟨gg, 0, none⟩) ∧ c.w.heap[gg]? = some (.cells conc t (0, 0)) ∧ CKsRel c ks x conc.toList ∧ ¬ OBc c.w ks conc.toList gg

def OBs (w : World) (tmps : Array Value) : List (Nat × LK) → Nat → Prop
  | [], _ => False
  | (s, k) :: sig, g => OBe w k (tmps.getD s undef) g ∨ OBs w tmps sig g

def SigRel (c : Cx) (tmps : Array Value) : (sig : List (Nat × LK)) → sdens sig → Prop
  | [], _ => True
  | (s, k) :: sig, x => EnRel c k x.1 (tmps.getD s undef) ∧ (∀ g, OBe c.w k (tmps.getD s undef) g → ¬ OBs c.w tmps sig g) ∧ SigRel c tmps sig x.2

theorem EnRel.move {c c' : Cx} (hw : c'.w = c.w) (hI : ∀ k, c.I k → c'.I k) (hT : ∀ k, c.T k → c'.T k) {k : LK} {x : k.den} {y : Value} (h : EnRel c k x y) : EnRel c' k x y := by
  cases k with
  | c agg k => exact ⟨h.1, h.2.move hw hI hT⟩
  | t agg ty => exact ⟨h.1, h.2.move hw hI hT⟩
  | b t ks =>
    obtain ⟨gg, conc, h1, h2, h3, h4⟩ := h
    exact ⟨gg, conc, h1, by rw [hw]; exact h2, h3.move hw hI hT, by rw [hw]; exact h4⟩

theorem SigRel.move {c c' : Cx} {tmps : Array Value} (hw : c'.w = c.w) (hI : ∀ k, c.I k → c'.I k) (hT : ∀ k, c.T k → c'.T k) : ∀ {sig : List (Nat × LK)} {x : sdens sig}, SigRel c tmps sig x → SigRel c' tmps sig x
  | [], _, _ => trivial
  | (s, k) :: sig, x, ⟨h1, h2, h3⟩ => ⟨EnRel.move hw hI hT h1, by rw [hw]; exact h2, SigRel.move hw hI hT h3⟩

theorem getVals0_some {tmps : Array Value} : ∀ {sig : List (Nat × LK)} {st : St} {c : Cx} {K : sdens sig → Option R}, getVals0 sig st K = some r → Rel c st tmps →
    ∃ x c', K x = some r ∧ Later c c' ∧ (∀ k, c'.I k → c'.T k) ∧ (∀ k, c'.T k → k < c'.w.heap.size) ∧ SigRel c' tmps sig x ∧ ∀ g, OBs c.w tmps sig g → (∃ i, i ∈ c.D ∧ c.ow i g) ∧ ¬ c'.T g
  | [], st, c, K, h, hr => ⟨(), c, h, Later.refl hr.s, hr.s.sub, hr.s.lt, trivial, fun g hg => hg.elim⟩
  | (s, .c agg k) :: sig, st, c, K, h, hr => by
    simp only [getVals0] at h
    have hg := hr.get s
    split at h
    · rename_i v hv
      rw [hv] at hg
      split at h
      · rename_i ls hls
        obtain ⟨hl, hsh⟩ := lvOf_rel hls hg
        obtain ⟨x, st1, c1, h1, h2, h3, h4, h5⟩ := getCKs_some (c0 := c) h hr (Later.refl hr.s) hl
        obtain ⟨xs, c2, k1, k2, k3, k4, k5, k6⟩ := getVals0_some h1 h2
        rw [h3.w] at k6
        refine ⟨(x.1, xs), c2, k1, h3.trans k2 k2.D, k3, k4, ⟨⟨hsh, ?_⟩, fun g hg hF => ?_, k5⟩, fun g hg => ?_⟩
        · have := h4.move (c' := c2) k2.w k2.step.I k2.step.T
          exact this
        · rw [k2.w, h3.w] at hF
          obtain ⟨⟨i, g1, g2⟩, _⟩ := k6 g hF
          have hg : OBc c2.w [k] _ g := hg
          rw [k2.w, h3.w] at hg
          exact (h5 g hg).2.2 i g1 g2
        · rcases hg with hg | hg
          · obtain ⟨g1, g2, g3⟩ := h5 g hg
            refine ⟨g1, fun hT => ?_⟩
            rcases k2.T g hT with h9 | ⟨i, h8, h9⟩
            · exact g2 h9
            · exact g3 i h8 h9
          · obtain ⟨⟨i, g1, g2⟩, g3⟩ := k6 g hg
            exact ⟨⟨i, h3.D i g1, h3.ow g1 g2⟩, g3⟩
      · cases h
    · cases h
  | (s, .t agg ty) :: sig, st, c, K, h, hr => by
    simp only [getVals0] at h
    cases h
  | (s, .b t ks) :: sig, st, c, K, h, hr => by
    simp only [getVals0] at h
    have hg := hr.get s
    split at h
    · rename_i id hv
      rw [hv] at hg
      split at h
      · rename_i t' ls hl
        split at h
        · rename_i htt
          subst htt
          obtain ⟨hidD, gg, hρ, hy⟩ := hg
          have hent := hr.entOf hl
          obtain ⟨gg', conc, m1, m2, m3, m4⟩ := hent
          rw [hρ] at m1
          injection m1 with m1
          injection m1 with m1
          injection m1 with m1 _ _
          subst m1
          have hbid : blk (c.ρ id) = some gg := by rw [hρ]; rfl
          obtain ⟨hr1, hL⟩ := hr.take id
          have hne : ∀ i, i ∈ c.D.filter (· != id) → id ≠ i := fun i hi hh => by
            have := (List.mem_filter.mp hi).2
            rw [hh] at this
            simp at this
          have hap : ∀ i, i ∈ c.D.filter (· != id) → ¬ c.ow i gg := fun i hi =>
            hr.s.apartX id i gg hidD (List.mem_filter.mp hi).1 (hne i hi) (.inl hbid)
          obtain ⟨x, st1, c1, h1, h2, h3, h4, h5⟩ := getCKs_some (c0 := c) h hr1 hL m4
          obtain ⟨xs, c2, k1, k2, k3, k4, k5, k6⟩ := getVals0_some h1 h2
          have hLc1 : Later c c1 := hL.trans h3 h3.D
          rw [hLc1.w] at k6
          have hconc : ∀ gg2 conc2, tmps.getD s undef = .pointer (some ⟨gg2, 0, none⟩) → c.w.heap[gg2]? = some (.cells conc2 t (0, 0)) → gg2 = gg ∧ conc2 = conc := by
            intro gg2 conc2 e1 e2
            rw [hy] at e1
            injection e1 with e1
            injection e1 with e1
            injection e1 with e1 _ _
            subst e1
            rw [m3] at e2
            injection e2 with e2
            injection e2 with e2 _ _
            exact ⟨rfl, e2.symm⟩
          refine ⟨(x, xs), c2, k1, hLc1.trans k2 k2.D, k3, k4, ⟨⟨gg, conc, hy, by rw [k2.w, hLc1.w]; exact m3, ?_, fun hF => ?_⟩, fun g hg hF => ?_, k5⟩, fun g hg => ?_⟩
          · exact h4.move (c' := c2) k2.w k2.step.I k2.step.T
          · rw [k2.w, hLc1.w] at hF
            obtain ⟨⟨i, g1, g2⟩, _⟩ := h5 gg hF
            exact hap i g1 g2
          · rw [k2.w, hLc1.w] at hF
            obtain ⟨⟨i, g1, g2⟩, _⟩ := k6 g hF
            obtain ⟨gg2, conc2, e1, e2, e3⟩ := hg
            rw [k2.w, hLc1.w] at e2
            obtain ⟨rfl, rfl⟩ := hconc gg2 conc2 e1 e2
            rcases e3 with rfl | e3
            · exact hap i (h3.D i g1) (h3.ow g1 g2)
            · rw [k2.w, hLc1.w] at e3
              exact (h5 g e3).2.2 i g1 g2
          · rcases hg with hg | hg
            · obtain ⟨gg2, conc2, e1, e2, e3⟩ := hg
              obtain ⟨rfl, rfl⟩ := hconc gg2 conc2 e1 e2
              rcases e3 with rfl | e3
              · refine ⟨⟨id, hidD, .inl hbid⟩, fun hT => ?_⟩
                have hT2 : ∀ {c3 : Cx}, c3 = c2 → c3.T g → False := by
                  intro c3 e hT3
                  subst e
                  rcases k2.T g hT3 with h9 | ⟨i, h8, h9⟩
                  · rcases h3.T g h9 with h9 | ⟨i, h8, h9⟩
                    · exact m2 h9
                    · exact hap i h8 h9
                  · exact hap i (h3.D i h8) (h3.ow h8 h9)
                exact hT2 rfl hT
              · obtain ⟨⟨i, g1, g2⟩, g3, g4⟩ := h5 g e3
                refine ⟨⟨i, (List.mem_filter.mp g1).1, g2⟩, fun hT => ?_⟩
                rcases k2.T g hT with h9 | ⟨i, h8, h9⟩
                · exact g3 h9
                · exact g4 i h8 h9
            · obtain ⟨⟨i, g1, g2⟩, g3⟩ := k6 g hg
              exact ⟨⟨i, hLc1.D i g1, hLc1.ow g1 g2⟩, g3⟩
        · cases h
      · cases h
    · cases h

theorem getVals_some {tmps : Array Value} {sig : List (Nat × LK)} {st : St} {c : Cx} {K : sdens sig → Option R} (h : getVals sig st K = some r) (hr : Rel c st tmps) :
    ∃ x c', K x = some r ∧ LaterA c c' ∧ (∀ k, c'.I k → c'.T k) ∧ (∀ k, c'.T k → k < c'.w.heap.size) ∧ SigRel c' tmps sig x ∧ ∀ g, OBs c.w tmps sig g → (∃ i, i ∈ c.D ∧ c.ow i g) ∧ ¬ c'.T g := by
  obtain ⟨st1, c1, h1, h2, h3⟩ := solid_someA h hr
  obtain ⟨x, c2, k1, k2, k3, k4, k5, k6⟩ := getVals0_some h1 h2
  refine ⟨x, c2, k1, h3.trans k2.toA, k3, k4, k5, fun g hg => ?_⟩
  rw [← h3.w] at hg
  obtain ⟨⟨i, g1, g2⟩, g3⟩ := k6 g hg
  exact ⟨h3.own i g g1 g2, g3⟩

theorem put_slot {tmps : Array Value} (hr : Rel c st tmps) {s : Nat} {v : AV} (hv : avRel c v (tmps.getD s undef)) : Rel c (st.put (some s) v) tmps := by
  refine ⟨hr.s, ?_⟩
  show All2 _ (st.env.set s v) _
  have h1 := hr.env.set s hv
  have : tmps.toList.set s (tmps.getD s undef) = tmps.toList := by
    apply List.ext_getElem?
    intro i
    rw [List.getElem?_set]
    split
    · rename_i h
      subst h
      split
      · rename_i h2
        rw [Array.length_toList] at h2
        rw [Array.getElem?_toList, Array.getElem?_eq_getElem h2, Array.getD_eq_getD_getElem?, Array.getElem?_eq_getElem h2]
        rfl
      · rename_i h2
        rw [List.getElem?_eq_none (by omega)]
    · rfl
  rw [this] at h1
  exact h1

theorem putVals_some {tmps : Array Value} : ∀ {sig : List (Nat × LK)} {x : sdens sig} {st : St} {c : Cx}, Rel c st tmps → SigRel c tmps sig x → (∀ g, OBs c.w tmps sig g → ¬ c.T g ∧ ∀ i, i ∈ c.D → ¬ c.ow i g) →
    ∃ c', Rel c' (putVals sig x st) tmps ∧ Step c c' ∧ c'.w = c.w
  | [], _, st, c, hr, _, _ => ⟨c, hr, Step.refl c, rfl⟩
  | (s, .c agg k) :: sig, x, st, c, hr, ⟨⟨h1, h2⟩, h3, h4⟩, hF => by
    obtain ⟨c1, k1, k2, k3, k4, k5, k6, k7, k8⟩ := putCKs_some (st := st) hr h2 (fun g hg => hF g (.inl hg))
    have hput := put_slot (s := s) k1 (v := .one (ofLv agg (putCKs [k] (x.1, ()) st).1)) (ofLv_rel k6 h1)
    obtain ⟨c2, q1, q2, q3⟩ := putVals_some (sig := sig) (x := x.2) hput (h4.move (c' := c1) k3 (by rw [k5]; exact fun _ h => h) (by rw [k4]; exact fun _ h => h)) (fun g hg => by
      rw [k3] at hg
      refine ⟨by rw [k4]; exact (hF g (.inr hg)).1, fun i hi hb => ?_⟩
      rcases k8 i hi with ⟨h8, _, h9⟩ | h8
      · exact (hF g (.inr hg)).2 i h8 (h9 g hb)
      · exact h3 g (h8 g hb) hg)
    exact ⟨c2, q1, k2.trans q2, q3.trans k3⟩
  | (s, .t agg ty) :: sig, x, st, c, hr, ⟨⟨h1, h2⟩, h3, h4⟩, hF => by
    obtain ⟨c1, k1, k2, k3, k4, k5, k6, k7, k8⟩ := putCKs_some (st := st) hr h2 (fun g hg => hF g (.inl hg))
    have hput := put_slot (s := s) k1 (v := .one (ofLv agg (putCKs [.o ty] (x.1, ()) st).1)) (ofLv_rel k6 h1)
    obtain ⟨c2, q1, q2, q3⟩ := putVals_some (sig := sig) (x := x.2) hput (h4.move (c' := c1) k3 (by rw [k5]; exact fun _ h => h) (by rw [k4]; exact fun _ h => h)) (fun g hg => by
      rw [k3] at hg
      refine ⟨by rw [k4]; exact (hF g (.inr hg)).1, fun i hi hb => ?_⟩
      rcases k8 i hi with ⟨h8, _, h9⟩ | h8
      · exact (hF g (.inr hg)).2 i h8 (h9 g hb)
      · exact h3 g (h8 g hb) hg)
    exact ⟨c2, q1, k2.trans q2, q3.trans k3⟩
  | (s, .b t ks) :: sig, x, st, c, hr, ⟨⟨gg, conc, e1, e2, e3, e4⟩, h3, h4⟩, hF => by
    obtain ⟨c1, k1, k2, k3, k4, k5, k6, k7, k8⟩ := putCKs_some (st := st) hr e3 (fun g hg => hF g (.inl ⟨gg, conc, e1, e2, .inr hg⟩))
    have hgg := hF gg (.inl ⟨gg, conc, e1, e2, .inl rfl⟩)
    have hl := leaf_grow (st := (putCKs ks x.1 st).2) (w1 := c1.w) (y0 := tmps.getD s undef) k1.s (fun _ _ => rfl)
    have hρ : (c1.grow c1.w (fresh (putCKs ks x.1 st).2.store) (tmps.getD s undef)).ρ (fresh (putCKs ks x.1 st).2.store) = tmps.getD s undef := if_pos rfl
    obtain ⟨p1, p2⟩ := k1.growA (w1 := c1.w) (y0 := tmps.getD s undef) (e := .box t (putCKs ks x.1 st).1) (fun _ _ => rfl) (Below.refl _ _) (fun g hg i hi hb => by
      rw [e1] at hg
      have hg' : gg = g := by simpa [blk] using hg
      subst hg'
      rcases k8 i hi with ⟨h8, _, h9⟩ | h8
      · exact hgg.2 i h8 (h9 gg hb)
      · exact e4 (h8 gg hb))
      ⟨gg, conc, by rw [hρ]; exact e1, by show ¬ c1.T gg; rw [k4]; exact hgg.1, by show c1.w.heap[gg]? = _; rw [k3]; exact e2, k6.mono hl⟩
    have hput := put_slot (s := s) p1 (v := .lf (.ptr (fresh (putCKs ks x.1 st).2.store) 0)) ⟨List.mem_append_right _ (List.mem_singleton.mpr rfl), gg, by rw [hρ]; exact e1, e1⟩
    obtain ⟨c2, q1, q2, q3⟩ := putVals_some (sig := sig) (x := x.2) hput (h4.move (c := c) (c' := c1.grow c1.w (fresh (putCKs ks x.1 st).2.store) (tmps.getD s undef)) k3 (fun k hk => by show c1.I k; rw [k5]; exact hk) (fun k hk => by show c1.T k; rw [k4]; exact hk)) (fun g hg => by
      have hg : OBs c.w tmps sig g := by rw [← k3]; exact hg
      refine ⟨by show ¬ c1.T g; rw [k4]; exact (hF g (.inr hg)).1, fun i hi hb => ?_⟩
      rcases List.mem_append.mp hi with hi | hi
      · have hb := grow_ow (fresh_not i (by rw [← k1.s.ids]; exact hi)) hb
        rcases k8 i hi with ⟨h8, _, h9⟩ | h8
        · exact (hF g (.inr hg)).2 i h8 (h9 g hb)
        · exact h3 g ⟨gg, conc, e1, e2, .inr (h8 g hb)⟩ hg
      · rw [List.mem_singleton] at hi
        rw [hi] at hb
        have hb := grow_ow0 hb
        rw [e1] at hb
        have hb' : gg = g := by simpa [blk] using hb
        subst hb'
        exact h3 gg ⟨gg, conc, e1, e2, .inl rfl⟩ hg)
    exact ⟨c2, q1, (k2.trans p2).trans q2, q3.trans k3⟩

/-- A state laid anew. -/
theorem reshape {tmps : Array Value} {sig : List (Nat × LK)} {K : sdens sig → Option R} (h : getVals sig st K = some r) (hr : Rel c st tmps) :
    ∃ x c', K x = some r ∧ Rel c' (putVals sig x (St.blank st.env.length)) tmps ∧ Step c c' ∧ c'.w = c.w := by
  obtain ⟨x, c1, h1, h2, h3, h4, h5, h6⟩ := getVals_some h hr
  let cb : Cx := { c1 with D := [] }
  have hb : Rel cb (St.blank st.env.length) tmps := by
    refine ⟨⟨rfl, List.nodup_nil, fun _ _ h => (by cases h), fun i j g hi => (by cases hi), fun i g hi => (by cases hi), h3, h4⟩, ?_⟩
    show All2 _ (List.replicate st.env.length AV.dead) tmps.toList
    rw [hr.env.length]
    have : ∀ l : List Value, All2 (avRel cb) (List.replicate l.length AV.dead) l := by
      intro l
      induction l with
      | nil => trivial
      | cons y l ih => exact ⟨trivial, ih⟩
    exact this _
  obtain ⟨c2, k1, k2, k3⟩ := putVals_some (sig := sig) (x := x) hb (h5.move (c := c1) (c' := cb) rfl (fun _ h => h) (fun _ h => h)) (fun g hg => ⟨(h6 g (by have : cb.w = c.w := h2.w; rw [← this]; exact hg)).2, fun i hi => (by cases hi)⟩)
  exact ⟨x, c2, h1, k1, h2.step.trans (Step.trans (b := cb) ⟨Below.refl _ _, agree.refl _ _, fun _ h => h, fun _ h => h, fun _ h => .inl h⟩ k2), k3.trans h2.w⟩

end
end Go.Proofs.Ytdacfaincamliaa.Ev
