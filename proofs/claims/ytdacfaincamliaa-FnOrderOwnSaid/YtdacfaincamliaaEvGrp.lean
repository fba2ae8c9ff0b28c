/- A table of constants that is read at one place, in a region that draws. Conditions: none. -/
import Derived.Test.YtdacfaincamliaaEvCall
namespace Go.Proofs.Ytdacfaincamliaa.Ev
open Go Go.RowKit

section
variable {P : Program} {R : Type} {tb : Tb}
variable {c : Cx} {st : St} {a : Act} {o : Oper} {K : AV → St → Option R} {r : R}

theorem blank_rel (c : Cx) (hD : c.D = []) (hs : ∀ k, c.I k → c.T k) (hl : ∀ k, c.T k → k < c.w.heap.size) (tmps : Array Value) (n : Nat) (hn : tmps.size = n) : Rel c (St.blank n) tmps := by
  refine ⟨⟨hD, by rw [hD]; exact List.nodup_nil, fun _ _ h => (by cases h), fun i j g hi => (by rw [hD] at hi; cases hi), fun i g hi => (by rw [hD] at hi; cases hi), hs, hl⟩, ?_⟩
  show All2 _ (List.replicate n AV.dead) tmps.toList
  rw [← hn, ← Array.length_toList]
  have : ∀ l : List Value, All2 (avRel c) (List.replicate l.length AV.dead) l := by
    intro l
    induction l with
    | nil => trivial
    | cons y l ih => exact ⟨trivial, ih⟩
  exact this _

theorem set_dead (l : List AV) (i d : Nat) (h : l.getD d .dead = .dead ∨ i = d) : (l.set i .dead).getD d .dead = .dead := by
  rw [List.getD_eq_getElem?_getD, List.getElem?_set]
  split
  · split <;> rfl
  · rename_i hne
    rcases h with h | h
    · rw [← List.getD_eq_getElem?_getD]; exact h
    · exact absurd h hne
theorem put_dead {st : St} {d : Nat} (h : st.env.getD d .dead = .dead) : st.put (some d) .dead = st := by
  have : st.env.set d .dead = st.env := by
    apply List.ext_getElem?
    intro i
    rw [List.getElem?_set]
    split
    · rename_i hi
      subst hi
      rw [List.getD_eq_getElem?_getD] at h
      split
      · rename_i h2
        rw [List.getElem?_eq_getElem h2] at h ⊢
        exact congrArg some h.symm
      · rename_i h2
        rw [List.getElem?_eq_none (by omega)]
    · rfl
  cases st
  simp only [St.put] at this ⊢
  rw [this]
theorem hide_rel {tmps : Array Value} (hr : Rel c st tmps) (g : Grp) : Rel c (hideG g st) tmps :=
  put_slot (put_slot (put_slot hr (v := .dead) trivial) (v := .dead) trivial) (v := .dead) trivial
theorem hide_dead {g : Grp} {d : Nat} (h : d = g.db ∨ d = g.di ∨ d = g.dl) : (hideG g st).env.getD d .dead = .dead := by
  show (((st.env.set g.db .dead).set g.di .dead).set g.dl .dead).getD d .dead = .dead
  rcases h with rfl | rfl | rfl
  · exact set_dead _ _ _ (.inl (set_dead _ _ _ (.inl (set_dead _ _ _ (.inr rfl)))))
  · exact set_dead _ _ _ (.inl (set_dead _ _ _ (.inr rfl)))
  · exact set_dead _ _ _ (.inr rfl)
theorem hide_len {g : Grp} : (hideG g st).env.length = st.env.length := by simp [hideG, St.put]

theorem leaf_keep {c c' : Cx} {l : Leaf} {y : Value} (hid : idsL l = []) (hs : Step c c') (hsub : ∀ k, c.I k → c.T k) (h : leafRel c l y) : leafRel c' l y :=
  leafRel.move hs.agree hsub hs.T hs.I (fun i hi => by rw [hid] at hi; cases hi) h
/-- What is read for good. -/
theorem leaf_rd {c c' : Cx} {e : TypeId} {t : Ty} {xs : List t.den} {y : Value} (hw : c'.w = c.w) (hI : ∀ k, c.I k → c'.I k) (h : leafRel c (.rd true e t xs) y) : leafRel c' (.rd true e t xs) y := by
  obtain ⟨A, n, h1, h2, h3⟩ := h
  exact ⟨A, n, h1, h2, h3.step (by rw [hw]; exact agree.refl _ _) hI⟩

/-- The context in which the call owns nothing and all stays. -/
def Cx.bare (c : Cx) : Cx := { c with D := [], T := fun k => k < c.w.heap.size }
theorem bare_rel (hs : SRel c st.store) (tmps : Array Value) (n : Nat) (hn : tmps.size = n) : Rel c.bare (St.blank n) tmps :=
  blank_rel c.bare rfl (fun k hk => hs.lt k (hs.sub k hk)) (fun _ h => h) tmps n hn

/-- How many of the three the machine has done, and what stands in their slots. -/
structure Ahead (g : Grp) (c : Cx) (a : Act) (tab p l : Leaf) (m : Nat) : Prop where
  tab : 1 ≤ m → leafRel c tab (a.tmps.getD g.db undef)
  p : 2 ≤ m → leafRel c p (a.tmps.getD g.di undef)
  l : 3 ≤ m → leafRel c l (a.tmps.getD g.dl undef)

theorem getD_put (a : Act) (d : Nat) (y : Value) (h : d < a.tmps.size) : (a.put (some d) y).tmps.getD d undef = y := by
  simp [Act.put, Array.getD_eq_getD_getElem?, h]
theorem getD_put_ne (a : Act) (d : Option Nat) (k : Nat) (y : Value) (h : d ≠ some k) : (a.put d y).tmps.getD k undef = a.tmps.getD k undef := by
  cases d with
  | none => rfl
  | some d =>
    have hne : d ≠ k := fun e => h (by rw [e])
    simp only [Act.put, Array.getD_eq_getD_getElem?, Array.getElem?_setIfInBounds]
    rw [if_neg hne]

theorem Ahead.keep {g : Grp} {c c' : Cx} {a : Act} {tab p l : Leaf} {m : Nat} {d : Option Nat} {y : Value} (h : Ahead g c a tab p l m) (hs : Step c c') (hsub : ∀ k, c.I k → c.T k) (h1 : idsL tab = []) (h2 : idsL p = []) (h3 : idsL l = [])
    (hb : d ≠ some g.db) (hi : d ≠ some g.di) (hl : d ≠ some g.dl) : Ahead g c' (a.put d y) tab p l m :=
  ⟨fun hm => by rw [getD_put_ne _ _ _ _ hb]; exact leaf_keep h1 hs hsub (h.tab hm), fun hm => by rw [getD_put_ne _ _ _ _ hi]; exact leaf_keep h2 hs hsub (h.p hm), fun hm => by rw [getD_put_ne _ _ _ _ hl]; exact leaf_keep h3 hs hsub (h.l hm)⟩

/-- The table is made. -/
theorem tab_goes (htb : tb.ok P) {g : Grp} {tab : Leaf} (htab : tabOf tb g some = some tab) (hr : Rel c st a.tmps) (hn : st.env.length = tb.n) {ap : Bool} {M : List Nat} (next : Act → World → Prop) (Q : Exit → Act → World → Prop)
    (hk : ∀ y c', Rel c' st a.tmps → leafRel c' tab y → Step c c' → TameM ap M c c' → next (a.put g.ob.dst y) c'.w) : g.ob.wp P a c.w next Q := by
  unfold tabOf at htab
  split at htab
  · rename_i t ln parts hop
    split at htab
    · rename_i e ty _
      have hs := hr.s
      have hb := bare_rel hs a.tmps tb.n (by rw [← hn, hr.env.length, Array.length_toList])
      have ht : tameOk tb false g.ob = true := by simp [tameOk, isPure, isLoad, hop]
      refine evOp_tame (M := []) htb (.inr rfl) ht hb htab next Q fun v y c1 st1 k1 k2 k3 k4 k5 => ?_
      split at k1
      · rename_i l
        obtain ⟨xs, st2, c2, q1, q2, q3, q4, A, n, q5, q6, q7⟩ := asRd_some k1 k2 (Later.refl k2.s) k3
        injection q1 with q1
        subst q1
        have hst := k4.trans q3.step
        have hold : ∀ k, k < c.w.heap.size → c2.w.heap[k]? = c.w.heap[k]? := fun k hk => by rw [q3.w]; exact k5.old k hk (fun h => by cases h) (fun i hi => by cases hi)
        have hnew : ∀ k, c2.I k → c.I k ∨ ¬ k < c.w.heap.size := hst.new
        let c' : Cx := { D := c.D, I := c2.I, T := fun k => c.T k ∨ c2.I k, w := c2.w, ρ := c.ρ, X := c.X }
        have hml : ∀ l y, leafRel c l y → leafRel c' l y := fun l y hl => leafRel.move (c' := c') (fun k hk => hold k (hs.lt k hk)) hs.sub (fun _ h => .inl h) hst.I (fun i _ hi => ⟨hi, rfl⟩) hl
        have hrel : Rel c' st a.tmps := by
          refine ⟨⟨hs.ids, hs.nodup, fun i e' he => ?_, hs.apartX, fun i g hi hg => ⟨?_, Nat.lt_of_lt_of_le (hs.ext i g hi hg).2 hst.below.size⟩, fun k hk => .inr hk, fun k hk => ?_⟩, hr.env.mono fun _ _ => avRel.imp hml⟩
          · have hent := hs.ent i e' he
            have := hent.move (c1 := c') (f := fun l => l) hml (fun _ _ => rfl) rfl (fun g hg => hold g (hs.ltX (by rw [hs.ids]; exact List.mem_map.mpr ⟨_, he, rfl⟩) hg)) (fun g hg => by
              rintro (h9 | h9)
              · exact hent.notT hg h9
              · rcases hnew g h9 with h8 | h8
                · exact hent.notT hg (hs.sub g h8)
                · exact h8 (hent.lt hg)) (fun g hg => hg)
            rwa [mapE_id (fun _ => rfl)] at this
          · rintro (h9 | h9)
            · exact (hs.ext i g hi hg).1 h9
            · rcases hnew g h9 with h8 | h8
              · exact (hs.ext i g hi hg).1 (hs.sub g h8)
              · exact h8 (hs.ext i g hi hg).2
          · rcases hk with hk | hk
            · exact Nat.lt_of_lt_of_le (hs.lt k hk) hst.below.size
            · exact q2.s.lt k (q2.s.sub k hk)
        have hstep : Step c c' := ⟨hst.below, fun k hk => hold k (hs.lt k hk), fun _ h => .inl h, hst.I, fun k hk => (hnew k hk).imp (fun h => h) fun h hT => h (hs.lt k hT)⟩
        have := hk y c' hrel ⟨A, n, q5, q6, q7⟩ hstep ⟨hst.below.size, fun k hk _ _ => hold k hk, fun i hi g hg _ => .inl ⟨i, hi, hg⟩, fun i hM hi g hg _ => ⟨i, hM, hi, hg⟩, fun k hk hlt => by
          rcases hk with hk | hk
          · exact .inl hk
          · rcases hnew k hk with h8 | h8
            · exact .inl (hs.sub k h8)
            · exact absurd hlt h8, fun i hi g hg _ => ⟨i, hi, hg⟩⟩
        rw [show c'.w = c1.w from q3.w] at this
        exact this
      · cases k1
    · cases htab
  · cases htab

theorem index_val {t : TypeId} {x i : Operand} (ho : o.op = .indexAddr t x i) (h : evOp tb o st K = some r) : ∃ v, K v st = some r ∧ evOp tb o st (fun v _ => some v) = some v := by
  unfold evOp at h ⊢
  simp only [ho] at h ⊢
  split at h
  · rename_i ti hti
    split at h
    · rename_i e hd
      split at h
      · rename_i ie hie
        unfold intOf at h ⊢
        split at h
        · rename_i k n hn
          unfold sliceOf at h ⊢
          split at h
          · rename_i lt e' t' xs hx
            dsimp only at h ⊢
            split at h
            · rename_i h1
              split at h
              · rename_i h2
                split at h
                · rename_i h3
                  exact ⟨_, h, by rw [if_pos h1, if_pos h2, if_pos h3]⟩
                · cases h
              · cases h
            · cases h
          · rename_i id hx
            dsimp only at h ⊢
            split at h
            · rename_i hl
              split at h
              · rename_i h1
                split at h
                · rename_i h2
                  split at h
                  · rename_i h3
                    exact ⟨_, h, by rw [if_pos h1, if_pos h2, if_pos h3]⟩
                  · cases h
                · cases h
              · cases h
            · rename_i hl
              split at h
              · rename_i h1
                split at h
                · rename_i h2
                  split at h
                  · rename_i h3
                    exact ⟨_, h, by rw [if_pos h1, if_pos h2, if_pos h3]⟩
                  · cases h
                · cases h
              · cases h
            · rename_i hl
              split at h
              · rename_i h1
                split at h
                · rename_i h2
                  split at h
                  · rename_i h3
                    exact ⟨_, h, by rw [if_pos h1, if_pos h2, if_pos h3]⟩
                  · cases h
                · cases h
              · cases h
            · rename_i hl
              split at h
              · rename_i h1
                split at h
                · rename_i h2
                  split at h
                  · rename_i h3
                    exact ⟨_, h, by rw [if_pos h1, if_pos h2, if_pos h3]⟩
                  · cases h
                · cases h
              · cases h
            · cases h
          · cases h
        · cases h
      · cases h
    · cases h
  · cases h

theorem load_val {t : TypeId} {p : AV} {K' : AV → Option R} (h : evLoad tb t p st K' = some r) : ∃ v, K' v = some r ∧ evLoad tb t p st some = some v := by
  unfold evLoad at h ⊢
  split at h
  · cases h
  · rename_i i hi
    simp only at h ⊢
    split at h
    · rename_i id off
      split at h
      · rename_i hl
        split at h
        · rename_i hc
          exact ⟨_, h, by rw [if_pos hc]⟩
        · cases h
      · cases h
    · rename_i id sz j off
      split at h
      · rename_i hl
        split at h
        · rename_i h1
          split at h
          · rename_i h2
            split at h
            · rename_i h3
              exact ⟨_, h, by rw [if_pos h1, if_pos h2, if_pos h3]⟩
            · cases h
          · cases h
        · cases h
      · rename_i hl
        split at h
        · rename_i h1
          split at h
          · rename_i h2
            exact ⟨_, h, by rw [if_pos h1, if_pos h2]⟩
          · cases h
        · cases h
      · rename_i hl
        split at h
        · rename_i h1
          split at h
          · rename_i h2
            exact ⟨_, h, by rw [if_pos h1, if_pos h2]⟩
          · cases h
        · cases h
      · cases h
    · split at h
      · rename_i h1
        exact ⟨_, h, by rw [if_pos h1]⟩
      · cases h
    · cases h

/-- What a group is. -/
structure Grp.Is (ops : Array Oper) (g : Grp) : Prop where
  hb : ops[g.b]? = some g.ob
  hi : ops[g.i]? = some g.oi
  hl : ops[g.l]? = some g.ol
  opi : ∃ t y, g.oi.op = .indexAddr t (.tmp y) (.tmp g.x)
  opl : ∃ t y, g.ol.op = .load t (.tmp y)
  ok : g.ok ops = true
theorem grpAt_spec {ops : Array Oper} {b i l : Nat} {g : Grp} (h : grpAt ops b i l = some g) : g.Is ops := by
  unfold grpAt at h
  split at h
  · rename_i ob oi ol hb hi hl
    split at h
    · rename_i t y x di _ _ dl _ _ _ hxi _ hxl _
      split at h
      · rename_i hok
        injection h with h
        subst h
        exact ⟨hb, hi, hl, ⟨_, _, by assumption⟩, ⟨_, _, by assumption⟩, hok⟩
      · cases h
    · cases h
  · cases h
theorem findGrp_spec {ops : Array Oper} {g : Grp} (h : findGrp ops = some g) : g.Is ops := by
  unfold findGrp at h
  obtain ⟨b, _, h⟩ := List.exists_of_findSome?_eq_some h
  split at h
  · split at h
    · obtain ⟨i, _, h⟩ := List.exists_of_findSome?_eq_some h
      split at h
      · obtain ⟨l, _, h⟩ := List.exists_of_findSome?_eq_some h
        split at h
        · exact grpAt_spec h
        · cases h
      · cases h
    · cases h
  · cases h

def Cx.noD (c : Cx) : Cx := { c with D := [] }
theorem noD_rel (hs : SRel c st.store) (tmps : Array Value) (n : Nat) (hn : tmps.size = n) : Rel c.noD (St.blank n) tmps := blank_rel c.noD rfl hs.sub hs.lt tmps n hn
theorem noD_leaf {l : Leaf} {y : Value} (hid : idsL l = []) (hsub : ∀ k, c.I k → c.T k) : leafRel c l y ↔ leafRel c.noD l y :=
  ⟨leafRel.move (c := c) (c' := c.noD) (agree.refl c.T c.w) hsub (fun _ h => h) (fun _ h => h) (fun i hi => by rw [hid] at hi; cases hi), leafRel.move (c := c.noD) (c' := c) (agree.refl c.T c.w) hsub (fun _ h => h) (fun _ h => h) (fun i hi => by rw [hid] at hi; cases hi)⟩

theorem plc_val {ops : Array Oper} {g : Grp} (hg : g.Is ops) {tab idx : Leaf} {K' : Leaf → Leaf → Option R} (h : plcOf tb g tab idx K' = some r) :
    ∃ p l, K' p l = some r ∧ idsL p = [] ∧ idsL l = [] ∧ evOp tb g.oi (((St.blank tb.n).put (some g.db) (.lf tab)).put (some g.x) (.lf idx)) (fun v _ => some v) = some (.lf p) ∧
      evOp tb g.ol ((St.blank tb.n).put (some g.di) (.lf p)) (fun v _ => some v) = some (.lf l) := by
  unfold plcOf at h
  obtain ⟨t, y, hop⟩ := hg.opi
  obtain ⟨t2, y2, hop2⟩ := hg.opl
  obtain ⟨v, h1, h2⟩ := index_val hop h
  split at h1
  · rename_i p
    have h3 : evLoad tb t2 (((St.blank tb.n).put (some g.di) (.lf p)).ev (.tmp y2)) ((St.blank tb.n).put (some g.di) (.lf p)) (fun v => match v with | .one (.lf l) => if (idsL p).isEmpty ∧ (idsL l).isEmpty then K' p l else none | _ => none) = some r := by
      unfold evOp at h1
      rw [hop2] at h1
      exact h1
    obtain ⟨v2, h4, h5⟩ := load_val h3
    split at h4
    · rename_i l
      split at h4
      · rename_i hc
        refine ⟨p, l, h4, by simpa using hc.1, by simpa using hc.2, h2, ?_⟩
        unfold evOp
        rw [hop2]
        exact h5
      · cases h4
    · cases h4
  · cases h1

/-- The place is told. -/
theorem place_goes (htb : tb.ok P) {ops : Array Oper} {g : Grp} (hg : g.Is ops) {tab idx p : Leaf} (ht : idsL tab = []) (hx : idsL idx = []) (hp : idsL p = []) (h : evOp tb g.oi (((St.blank tb.n).put (some g.db) (.lf tab)).put (some g.x) (.lf idx)) (fun v _ => some v) = some (.lf p))
    (hr : Rel c st a.tmps) (hn : st.env.length = tb.n) (h1 : leafRel c tab (a.tmps.getD g.db undef)) (h2 : leafRel c idx (a.tmps.getD g.x undef)) : ∃ y, (∀ w, (execOp a.eval g.oi).run P w = .ok (.value y) w) ∧ leafRel c p y := by
  have hsub := hr.s.sub
  have hb := noD_rel hr.s a.tmps tb.n (by rw [← hn, hr.env.length, Array.length_toList])
  have hr1 := put_slot (s := g.db) hb (v := .lf tab) ((noD_leaf ht hsub).1 h1)
  have hr2 := put_slot (s := g.x) hr1 (v := .lf idx) ((noD_leaf hx hsub).1 h2)
  obtain ⟨t, y0, hop⟩ := hg.opi
  obtain ⟨v, y, k1, k2, k3⟩ := evOp_pure htb (by simp [isPure, hop]) hr2 h
  injection k2 with k2
  subst k2
  exact ⟨y, k1, (noD_leaf hp hsub).2 k3⟩

/-- The element is read. -/
theorem elem_goes (htb : tb.ok P) {ops : Array Oper} {g : Grp} (hg : g.Is ops) {p l : Leaf} (hp : idsL p = []) (hl : idsL l = []) (h : evOp tb g.ol ((St.blank tb.n).put (some g.di) (.lf p)) (fun v _ => some v) = some (.lf l))
    (hr : Rel c st a.tmps) (hn : st.env.length = tb.n) (h1 : leafRel c p (a.tmps.getD g.di undef)) : ∃ y, (execOp a.eval g.ol).run P c.w = .ok (.value y) c.w ∧ leafRel c l y := by
  have hsub := hr.s.sub
  have hb := noD_rel hr.s a.tmps tb.n (by rw [← hn, hr.env.length, Array.length_toList])
  have hr1 := put_slot (s := g.di) hb (v := .lf p) ((noD_leaf hp hsub).1 h1)
  obtain ⟨t, y0, hop⟩ := hg.opl
  obtain ⟨v, y, b, k1, k2, k3, _⟩ := evOp_load htb (by simp [isLoad, hop]) hr1 h
  injection k2 with k2
  subst k2
  exact ⟨y, k1 _ rfl, (noD_leaf hl hsub).2 k3⟩

end
end Go.Proofs.Ytdacfaincamliaa.Ev
