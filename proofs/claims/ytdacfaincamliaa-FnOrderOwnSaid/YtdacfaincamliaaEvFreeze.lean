/- A row of the call's own turned into a slice that is read; what leaves read as. Conditions: none. -/
import Derived.Test.YtdacfaincamliaaEvWrite
namespace Go.Proofs.Ytdacfaincamliaa.Ev
open Go Go.RowKit

section
variable {P : Program} {c : Cx} {st : St} {R : Type} {a : Act} {r : R}

/-- A row's cells, by the element. -/
theorem row_cells {S : Nat → Prop} {t : Ty} {xs : List t.den} {inner : List Value} (h : All2 (leafRel c) (xs.flatMap (leaves true t)) inner) (hS : ∀ k, c.I k → S k) (j : Nat) (x : t.den) (hj : xs[j]? = some x) :
    RdE S t c.w x ((inner.drop (j * t.sz)).take t.sz) := by
  obtain ⟨hlt, rfl⟩ := List.getElem?_eq_some_iff.mp hj
  have h6 := (h.drop (j * t.sz)).take t.sz
  rw [seg_leaves true t xs j hlt] at h6
  have := rel_leaves true h6
  rw [List.getD_eq_getElem?_getD, List.getElem?_eq_getElem hlt] at this
  exact this.step (agree.refl _ _) hS

/-- A row reads as what it holds. -/
theorem row_reads {S : Nat → Prop} {id : Nat} {e : TypeId} {t : Ty} {xs : List t.den} (h : entRel c id (.row e t xs)) (hS : ∀ k, c.I k → S k) (hg : ∀ g, blk (c.ρ id) = some g → S g) :
    ∃ A n, c.ρ id = .slice A xs.length n ∧ xs.length ≤ n ∧ PRow S c.w t A xs := by
  obtain ⟨inner, h1, _, h3⟩ := h
  rcases h1.2 with ⟨A0, h4, h5⟩ | ⟨g, cap, cur, h4, _, h6, h7, h8, h9, h10⟩
  · exact ⟨A0, 0, by rw [h4, h5], by omega, by omega, fun h => by omega⟩
  · refine ⟨some ⟨g, 0, none⟩, cap + 1, h4, h7, by unfold maxLen at h8; omega, fun _ => ⟨_, rfl, hg g (by rw [h4]; rfl), fun j x hj => ?_⟩⟩
    have hlt : j < xs.length := (List.getElem?_eq_some_iff.mp hj).1
    have hcl : ((inner.drop (j * t.sz)).take t.sz).length = t.sz := (row_cells h3 hS j x hj).length
    refine ⟨_, hcl, row_cells h3 hS j x hj, fun i u hu => ?_⟩
    rw [List.getElem?_take] at hu
    split at hu
    · rename_i hi
      rw [List.getElem?_drop] at hu
      rw [h4] at h1
      rw [add_at, Nat.zero_add, h1.cellAt _ (by
        have : j * t.sz + t.sz ≤ xs.length * t.sz := by rw [← Nat.succ_mul]; exact Nat.mul_le_mul_right _ hlt
        omega)]
      exact hu
    · cases hu

/-- So a deep one. -/
theorem deep_own {id : Nat} {e : TypeId} {t : Ty} {xs : List t.den} (h : entRel c id (.deep e t xs)) (h1 : (c.ρ id).oneCell' = true) : ∃ B, OwnE (.rs e t) c.w B xs [c.ρ id] ∧ B.Nodup ∧ ∀ g, g ∈ B → c.ow id g := by
  obtain ⟨inner, B, k1, k2, k3, k4, k5⟩ := h
  refine ⟨(blk (c.ρ id)).toList ++ B, ⟨_, inner, B, rfl, h1, k1, rfl, k5⟩, ?_, fun g hg => ?_⟩
  · rw [List.nodup_append]
    refine ⟨by cases blk (c.ρ id) <;> simp, k3, fun a ha b hb => ?_⟩
    have ha : blk (c.ρ id) = some a := by simpa using ha
    exact fun e => (k2 a ha).2 (by rw [e]; exact hb)
  · rcases List.mem_append.mp hg with hg | hg
    · exact .inl (by simpa using hg)
    · exact .inr (k4 g hg)
theorem deep_one {id : Nat} {e : TypeId} {t : Ty} {xs : List t.den} (h : entRel c id (.deep e t xs)) : (c.ρ id).oneCell' = true := by
  obtain ⟨inner, B, k1, _⟩ := h
  rcases k1.2 with ⟨A0, h4, _⟩ | ⟨_, _, _, h4, _⟩ <;> rw [h4] <;> rfl
theorem deep_reads {S : Nat → Prop} {id : Nat} {e : TypeId} {t : Ty} {xs : List t.den} (h : entRel c id (.deep e t xs)) (hg : ∀ g, c.ow id g → S g) :
    ∃ A n, c.ρ id = .slice A xs.length n ∧ xs.length ≤ n ∧ PRow S c.w t A xs := by
  obtain ⟨B, h1, _, h2⟩ := deep_own h (deep_one h)
  obtain ⟨A, n, h3, h4, h5⟩ := h1.read (S := S) fun g hg' => hg g (h2 g hg')
  injection h3 with h3 _
  exact ⟨A, n, h3, h4, h5⟩

/-- A row, or a deep one. -/
def IsRow (e : TypeId) (t : Ty) (xs : List t.den) (E : Ent) : Prop := E = .row e t xs ∨ E = .deep e t xs
theorem ent_reads {S : Nat → Prop} {id : Nat} {e : TypeId} {t : Ty} {xs : List t.den} {E : Ent} (h : entRel c id E) (hE : IsRow e t xs E) (hS : ∀ k, c.I k → S k) (hg : ∀ g, c.ow id g → S g) :
    ∃ A n, c.ρ id = .slice A xs.length n ∧ xs.length ≤ n ∧ PRow S c.w t A xs := by
  rcases hE with rfl | rfl
  · exact row_reads h hS fun g h => hg g (.inl h)
  · exact deep_reads h hg

/-- The context in which a row stays for good. -/
def Cx.freeze (c : Cx) (id : Nat) : Cx := { c with D := c.D.filter (· != id), I := fun k => c.I k ∨ c.ow id k, T := fun k => c.T k ∨ c.ow id k }

theorem row_not_ptr {id : Nat} {e : TypeId} {t : Ty} {xs : List t.den} {E : Ent} (h : entRel c id E) (hE : IsRow e t xs E) (g : Nat) : c.ρ id ≠ .pointer (some ⟨g, 0, none⟩) := by
  intro hh
  rcases hE with rfl | rfl
  · obtain ⟨inner, h1, _⟩ := h
    rw [hh] at h1
    rcases h1.2 with ⟨A0, h4, _⟩ | ⟨_, _, _, h4, _⟩ <;> cases h4
  · obtain ⟨inner, B, h1, _⟩ := h
    rw [hh] at h1
    rcases h1.2 with ⟨A0, h4, _⟩ | ⟨_, _, _, h4, _⟩ <;> cases h4

theorem Rel.freeze {tmps : Array Value} (h : Rel c st tmps) {id : Nat} {e : TypeId} {t : Ty} {xs : List t.den} {E : Ent} (hl : lookup st.store id = some E) (hE : IsRow e t xs E) :
    Rel (c.freeze id) (st.freeze id e t xs) tmps ∧ Step c (c.freeze id) := by
  have hs := h.s
  have hent := hs.ent _ _ (lookup_mem hl)
  have hmv : ∀ l v, leafRel c l v → (∀ i, i ∈ idsL l → i ≠ id) → leafRel (c.freeze id) l v := fun l v hv hne =>
    leafRel.move (c := c) (c' := c.freeze id) (agree.refl c.T c.w) hs.sub (fun _ h => .inl h) (fun _ h => .inl h) (fun i hi hD => ⟨List.mem_filter.mpr ⟨hD, by simpa using hne i hi⟩, rfl⟩) hv
  have hf : ∀ l v, leafRel c l v → leafRel (c.freeze id) (froz id e t xs l) v := by
    intro l v hv
    cases l with
    | own j =>
      simp only [froz]
      split
      · rename_i hj
        subst hj
        obtain ⟨_, h2, _⟩ := hv
        obtain ⟨A, n, h3, h4, h5⟩ := ent_reads (S := (c.freeze j).S true) hent hE (fun k hk => .inl hk) (fun g hg => .inr hg)
        exact ⟨A, n, by rw [h2, h3], h4, h5⟩
      · rename_i hj; exact hmv _ _ hv fun i hi => by simp [idsL] at hi; rw [hi]; exact hj
    | elp j sz i off =>
      simp only [froz]
      split
      · exact leaf_one hv
      · rename_i hj; exact hmv _ _ hv fun i hi => by simp [idsL] at hi; rw [hi]; exact hj
    | ptr j off =>
      refine hmv (.ptr j off) _ hv fun i hi => ?_
      simp [idsL] at hi
      rw [hi]
      rintro rfl
      obtain ⟨_, g, h1, _⟩ := hv
      exact row_not_ptr hent hE g h1
    | v x => exact hmv _ _ hv fun i hi => by cases hi
    | rd lt e t xs => exact hmv _ _ hv fun i hi => by cases hi
    | rdp lt t x off => exact hmv _ _ hv fun i hi => by cases hi
    | clo lt f agg t x => exact hmv _ _ hv fun i hi => by cases hi
    | fnc f => exact hmv _ _ hv fun i hi => by cases hi
    | cap lt f ts x => exact hmv _ _ hv fun i hi => by cases hi
    | dead => exact hmv _ _ hv fun i hi => by cases hi
  have hf0 : ∀ l, idsL l = [] → froz id e t xs l = l := by
    intro l hl
    cases l <;> first | rfl | cases hl
  have hidD : id ∈ c.D := lookup_D hs hl
  refine ⟨⟨⟨?_, hs.nodup.filter _, ?_, ?_, ?_, ?_, ?_⟩, All2.map (h.env.mono fun _ _ => avRel.impf hf)⟩, ⟨Below.refl _ _, agree.refl _ _, fun _ h => .inl h, fun _ h => .inl h, fun k hk => ?_⟩⟩
  · show c.D.filter _ = _
    simp only [St.freeze, St.map, hs.ids]
    rw [List.filter_map, List.filter_map, List.map_map]
    rfl
  · intro i e' hm
    simp only [St.freeze, St.map] at hm
    obtain ⟨hm, hne⟩ := List.mem_filter.mp hm
    obtain ⟨p, hp, hpe⟩ := List.mem_map.mp hm
    injection hpe with h1 h2
    have hne' : p.1 ≠ id := by rw [h1]; simpa using hne
    rw [← h1, ← h2]
    have hpD : p.1 ∈ c.D := by rw [hs.ids]; exact List.mem_map.mpr ⟨_, hp, rfl⟩
    refine (hs.ent p.1 p.2 hp).move hf hf0 rfl (fun g hg => rfl) (fun g hg => ?_) (fun g hg => hg)
    rintro (h3 | h3)
    · exact (hs.ent p.1 p.2 hp).notT hg h3
    · exact hs.apartX p.1 id g hpD hidD hne' (.inl hg) h3
  · intro i j g hi hj hij hg
    exact hs.apartX i j g (List.mem_filter.mp hi).1 (List.mem_filter.mp hj).1 hij hg
  · intro i g hi hg
    obtain ⟨hi1, hi2⟩ := List.mem_filter.mp hi
    refine ⟨?_, (hs.ext i g hi1 hg).2⟩
    rintro (h3 | h3)
    · exact (hs.ext i g hi1 hg).1 h3
    · exact hs.apartX i id g hi1 hidD (by simpa using hi2) (.inr hg) h3
  · rintro k (hk | hk)
    · exact .inl (hs.sub k hk)
    · exact .inr hk
  · rintro k (hk | hk)
    · exact hs.lt k hk
    · exact hs.ltX hidD hk
  · rcases hk with hk | hk
    · exact .inl hk
    · exact .inr fun ht => hs.notTX hidD hk ht

theorem cast_some {t t' : Ty} {xs : List t.den} {K : List t'.den → Option R} (h : cast xs K = some r) : ∃ e : t = t', K (e ▸ xs) = some r := by
  unfold cast at h
  split at h
  · rename_i e; exact ⟨e, h⟩
  · cases h

/-- Which blocks what is read lies in. -/
def rdS (need : Md) (c : Cx) : Nat → Prop :=
  match need with
  | .see => fun k => k < c.w.heap.size
  | .hold => c.T
  | .keep => c.I

/-- A later context of the same world. -/
structure Later (c c' : Cx) : Prop where
  step : Step c c'
  w : c'.w = c.w
  ρ : ∀ i, i ∈ c'.D → c'.ρ i = c.ρ i
  sub : ∀ k, c.I k → c.T k
  lt : ∀ k, c.T k → k < c.w.heap.size
  D : ∀ i, i ∈ c'.D → i ∈ c.D
  T : ∀ k, c'.T k → c.T k ∨ ∃ i, i ∈ c.D ∧ c.ow i k
  X : ∀ i g, i ∈ c'.D → (c'.X i g ↔ c.X i g)
theorem Later.refl {store : List (Nat × Ent)} (hs : SRel c store) : Later c c := ⟨Step.refl c, rfl, fun _ _ => rfl, hs.sub, hs.lt, fun _ h => h, fun _ h => .inl h, fun _ _ _ => Iff.rfl⟩
theorem Later.ow {c c' : Cx} (h : Later c c') {i g : Nat} (hi : i ∈ c'.D) (hg : c'.ow i g) : c.ow i g := by
  rcases hg with hg | hg
  · exact .inl (by rw [← h.ρ i hi]; exact hg)
  · exact .inr ((h.X i g hi).mp hg)
theorem Later.wo {c c' : Cx} (h : Later c c') {i g : Nat} (hi : i ∈ c'.D) (hg : c.ow i g) : c'.ow i g := by
  rcases hg with hg | hg
  · exact .inl (by rw [h.ρ i hi]; exact hg)
  · exact .inr ((h.X i g hi).mpr hg)
theorem Later.trans {a b c : Cx} (h : Later a b) (k : Later b c) (hD : ∀ i, i ∈ c.D → i ∈ b.D) : Later a c :=
  ⟨h.step.trans k.step, k.w.trans h.w, fun i hi => (k.ρ i hi).trans (h.ρ i (hD i hi)), h.sub, h.lt, fun i hi => h.D i (k.D i hi), fun g hg => by
    rcases k.T g hg with h1 | ⟨i, h1, h2⟩
    · exact h.T g h1
    · exact .inr ⟨i, h.D i h1, h.ow h1 h2⟩, fun i g hi => (k.X i g hi).trans (h.X i g (hD i hi))⟩
theorem Later.tame {ap : Bool} {c c' : Cx} (h : Later c c') : Tame ap c c' := Tame.later h.w h.D h.ρ (fun _ _ hi hg => h.ow hi hg) h.T
theorem rdS_step {need : Md} {c c' : Cx} (h : Later c c') : ∀ k, rdS need c k → rdS need c' k := by
  intro k hk
  cases need with
  | keep => exact h.step.I k hk
  | hold => exact h.step.T k hk
  | see => show k < c'.w.heap.size; rw [h.w]; exact hk

theorem rdS_all {need : Md} {c c' : Cx} (h : Later c c') {lt : Bool} (hc : need = .keep → lt = true) : ∀ k, c.S lt k → rdS need c' k := by
  intro k hk
  have hT : c.T k := by cases lt with | true => exact h.sub k hk | false => exact hk
  cases need with
  | keep => rw [hc rfl] at hk; exact h.step.I k hk
  | hold => exact h.step.T k hT
  | see => show k < c'.w.heap.size; rw [h.w]; exact h.lt k hT

/-- What a leaf (of an elder context c0) reads as. -/
theorem asRd_some {need : Md} {e : TypeId} {t : Ty} {l : Leaf} {K : List t.den → St → Option R} {y : Value} {tmps : Array Value} {c0 : Cx} (h : asRd need e t l st K = some r) (hr : Rel c st tmps) (h0 : Later c0 c) (hv : leafRel c0 l y) :
    ∃ xs st' c', K xs st' = some r ∧ Rel c' st' tmps ∧ Later c c' ∧ (∀ i, i ∈ c'.D → i ∈ c.D) ∧
      ∃ A n, y = .slice A xs.length n ∧ xs.length ≤ n ∧ PRow (rdS need c') c'.w t A xs := by
  unfold asRd at h
  split at h
  · rename_i lt e' t' xs
    split at h
    · rename_i hcond
      obtain ⟨rfl, h⟩ := cast_some h
      obtain ⟨A, n, h1, h2, h3⟩ := hv
      exact ⟨xs, st, c, h, hr, Later.refl hr.s, fun _ h => h, A, n, h1, h2, h3.step (by rw [h0.w]; exact agree.refl _ _) (rdS_all h0 hcond.2)⟩
    · cases h
  · exact ⟨[], st, c, h, hr, Later.refl hr.s, fun _ h => h, none, 0, hv.1, Nat.le_refl _, by simp, fun h => absurd h (by simp)⟩
  · rename_i id
    have main : ∀ {e' : TypeId} {t' : Ty} {xs : List t'.den} {E : Ent}, lookup st.store id = some E → IsRow e' t' xs E → (if e = e' then cast xs fun ys => K ys (if need = .see then st else st.freeze id e' t' xs) else none) = some r →
        ∃ xs st' c', K xs st' = some r ∧ Rel c' st' tmps ∧ Later c c' ∧ (∀ i, i ∈ c'.D → i ∈ c.D) ∧ ∃ A n, y = .slice A xs.length n ∧ xs.length ≤ n ∧ PRow (rdS need c') c'.w t A xs := by
      intro e' t' xs E hl hE h
      split at h
      · obtain ⟨rfl, h⟩ := cast_some h
        have hent := hr.entOf hl
        have hidD : id ∈ c.D := lookup_D hr.s hl
        have hy : y = c.ρ id := by rw [h0.ρ id hidD]; exact hv.2.1
        have fz : ∀ {S : Nat → Prop}, (∀ k, (c.freeze id).I k → S k) → K xs (st.freeze id e' t' xs) = some r → (∀ k, S k → rdS need (c.freeze id) k) →
            ∃ xs st' c', K xs st' = some r ∧ Rel c' st' tmps ∧ Later c c' ∧ (∀ i, i ∈ c'.D → i ∈ c.D) ∧ ∃ A n, y = .slice A xs.length n ∧ xs.length ≤ n ∧ PRow (rdS need c') c'.w t' A xs := by
          intro S hS h hS2
          obtain ⟨h1, h2⟩ := hr.freeze hl hE
          obtain ⟨A, n, h3, h4, h5⟩ := ent_reads (S := rdS need (c.freeze id)) hent hE (fun k hk => hS2 k (hS k (.inl hk))) (fun g hg => hS2 g (hS g (.inr hg)))
          exact ⟨xs, _, c.freeze id, h, h1, ⟨h2, rfl, fun _ _ => rfl, hr.s.sub, hr.s.lt, fun i hi => (List.mem_filter.mp hi).1, fun k hk => hk.imp (fun h => h) fun hb => ⟨_, hidD, hb⟩, fun _ _ _ => Iff.rfl⟩, fun i hi => (List.mem_filter.mp hi).1, A, n, by rw [hy, h3], h4, h5⟩
        cases need with
        | keep => exact fz (S := (c.freeze id).I) (fun _ h => h) h (fun _ h => h)
        | hold => exact fz (S := (c.freeze id).I) (fun _ h => h) h (fun k hk => hk.imp (hr.s.sub k) fun hb => hb)
        | see =>
          obtain ⟨A, n, h3, h4, h5⟩ := ent_reads (S := fun k => k < c.w.heap.size) hent hE (fun k hk => hr.s.lt k (hr.s.sub k hk)) (fun g hg => hr.s.ltX hidD hg)
          exact ⟨xs, st, c, h, hr, Later.refl hr.s, fun _ h => h, A, n, by rw [hy, h3], h4, h5⟩
      · cases h
    split at h
    · rename_i e' t' xs hl
      exact main hl (.inl rfl) h
    · rename_i e' t' xs hl
      exact main hl (.inr rfl) h
    · cases h
  · cases h

theorem readTy_some {need : Md} {tmps : Array Value} {c0 : Cx} : ∀ {t : Ty} {ls : List Leaf} {cs : List Value} {st : St} {c : Cx} {K : t.den → St → Option R}, readTy need t ls st K = some r → Rel c st tmps → Later c0 c → All2 (leafRel c0) ls cs →
    ∃ x st' c', K x st' = some r ∧ Rel c' st' tmps ∧ Later c c' ∧ (∀ i, i ∈ c'.D → i ∈ c.D) ∧ RdE (rdS need c') t c'.w x cs
  | .int k, ls, cs, st, c, K, h, hr, h0, ha => by
    simp only [readTy] at h
    split at h
    · rename_i k' n
      split at h
      · rename_i hk
        subst hk
        match cs, ha with
        | [y], ha => exact ⟨n, st, c, h, hr, Later.refl hr.s, fun _ h => h, by rw [ha.1.1]; rfl⟩
        | _ :: _ :: _, ha => exact ha.2.elim
      · cases h
    · cases h
  | .bool, ls, cs, st, c, K, h, hr, h0, ha => by
    simp only [readTy] at h
    split at h
    · rename_i b
      match cs, ha with
      | [y], ha => exact ⟨b, st, c, h, hr, Later.refl hr.s, fun _ h => h, by rw [ha.1.1]; rfl⟩
      | _ :: _ :: _, ha => exact ha.2.elim
    · cases h
  | .str, ls, cs, st, c, K, h, hr, h0, ha => by
    simp only [readTy] at h
    split at h
    · rename_i b
      match cs, ha with
      | [y], ha => exact ⟨b, st, c, h, hr, Later.refl hr.s, fun _ h => h, by rw [ha.1.1]; rfl⟩
      | _ :: _ :: _, ha => exact ha.2.elim
    · cases h
  | .rs e t, ls, cs, st, c, K, h, hr, h0, ha => by
    simp only [readTy] at h
    split at h
    · rename_i l
      match cs, ha with
      | [y], ha =>
        obtain ⟨xs, st', c', h1, h2, h3, h4, A, n, h5, h6, h7⟩ := asRd_some h hr h0 ha.1
        exact ⟨xs, st', c', h1, h2, h3, h4, A, n, by rw [h5], h6, h7⟩
      | _ :: _ :: _, ha => exact ha.2.elim
    · cases h
  | .pair a b, ls, cs, st, c, K, h, hr, h0, ha => by
    simp only [readTy] at h
    obtain ⟨x, st1, c1, h1, h2, h3, h4, h5⟩ := readTy_some (c0 := c0) h hr h0 (ha.take a.sz)
    obtain ⟨y, st2, c2, k1, k2, k3, k4, k5⟩ := readTy_some (c0 := c0) h1 h2 (h0.trans h3 h4) (ha.drop a.sz)
    refine ⟨(x, y), st2, c2, k1, k2, h3.trans k3 k4, fun i hi => h4 i (k4 i hi), cs.take a.sz, cs.drop a.sz, (List.take_append_drop _ _).symm, h5.step (by rw [k3.w]; exact agree.refl _ _) (rdS_step k3), k5⟩

theorem readTys_some {need : Md} {tmps : Array Value} {c0 : Cx} {t : Ty} : ∀ {n : Nat} {ls : List Leaf} {cs : List Value} {st : St} {c : Cx} {K : List t.den → St → Option R}, readTys need t n ls st K = some r → Rel c st tmps → Later c0 c → All2 (leafRel c0) ls cs →
    ∃ xs st' c', K xs st' = some r ∧ Rel c' st' tmps ∧ Later c c' ∧ (∀ i, i ∈ c'.D → i ∈ c.D) ∧ xs.length = n ∧ ∀ j x, xs[j]? = some x → RdE (rdS need c') t c'.w x ((cs.drop (j * t.sz)).take t.sz)
  | 0, ls, cs, st, c, K, h, hr, h0, ha => ⟨[], st, c, h, hr, Later.refl hr.s, fun _ h => h, rfl, fun j x hj => by simp at hj⟩
  | n + 1, ls, cs, st, c, K, h, hr, h0, ha => by
    simp only [readTys] at h
    obtain ⟨x, st1, c1, h1, h2, h3, h4, h5⟩ := readTy_some (c0 := c0) h hr h0 (ha.take t.sz)
    obtain ⟨xs, st2, c2, k1, k2, k3, k4, k5, k6⟩ := readTys_some (c0 := c0) h1 h2 (h0.trans h3 h4) (ha.drop t.sz)
    refine ⟨x :: xs, st2, c2, k1, k2, h3.trans k3 k4, fun i hi => h4 i (k4 i hi), by simp [k5], fun j z hj => ?_⟩
    cases j with
    | zero =>
      simp at hj
      subst hj
      simpa using h5.step (by rw [k3.w]; exact agree.refl _ _) (rdS_step k3)
    | succ j =>
      have := k6 j z (by simpa using hj)
      rw [List.drop_drop] at this
      rwa [show (j + 1) * t.sz = t.sz + j * t.sz by rw [Nat.add_mul, Nat.one_mul, Nat.add_comm]]

/-- A box that is written no more. -/
theorem Rel.freezeB {tmps : Array Value} (h : Rel c st tmps) {id : Nat} {bt bt' : TypeId} {cells : List Leaf} (hl : lookup st.store id = some (.box bt cells)) {lt : Bool} {t : Ty} {x : t.den} {g : Nat} {conc : Array Value} (hg : c.ρ id = .pointer (some ⟨g, 0, none⟩))
    (hb : c.w.heap[g]? = some (.cells conc bt' (0, 0))) (hx : RdE (c.S lt) t c.w x conc.toList) : Rel (c.freeze id) (st.freezeB id lt t x) tmps ∧ Step c (c.freeze id) := by
  have hs := h.s
  have hidD : id ∈ c.D := lookup_D hs hl
  have hog : c.ow id g := .inl (by rw [hg]; rfl)
  have hmv : ∀ l v, leafRel c l v → (∀ i, i ∈ idsL l → i ≠ id) → leafRel (c.freeze id) l v := fun l v hv hne =>
    leafRel.move (c := c) (c' := c.freeze id) (agree.refl c.T c.w) hs.sub (fun _ h => .inl h) (fun _ h => .inl h) (fun i hi hD => ⟨List.mem_filter.mpr ⟨hD, by simpa using hne i hi⟩, rfl⟩) hv
  have hS : ∀ k, c.S lt k → (c.freeze id).S lt k := by
    intro k hk
    cases lt with
    | true => exact .inl hk
    | false => exact .inl hk
  have hS2 : (c.freeze id).S lt g := by
    cases lt with
    | true => exact .inr hog
    | false => exact .inr hog
  have hf : ∀ l v, leafRel c l v → leafRel (c.freeze id) (frozB id lt t x l) v := by
    intro l v hv
    cases l with
    | own j =>
      simp only [frozB]
      split
      · exact leaf_one hv
      · rename_i hj; exact hmv _ _ hv fun i hi => by simp [idsL] at hi; rw [hi]; exact hj
    | elp j sz i off =>
      simp only [frozB]
      split
      · exact leaf_one hv
      · rename_i hj; exact hmv _ _ hv fun i hi => by simp [idsL] at hi; rw [hi]; exact hj
    | ptr j off =>
      simp only [frozB]
      split
      · rename_i hj
        subst hj
        obtain ⟨_, g', h1, h2⟩ := hv
        rw [hg] at h1
        injection h1 with h1
        injection h1 with h1
        injection h1 with h1 _ _
        subst h1
        refine ⟨_, h2, hS2, conc.toList, hx.step (agree.refl _ _) hS, fun i u hu => ?_⟩
        show c.w.cell? _ = some u
        rw [add_at]
        simp only [World.cell?, hb]
        rw [Array.getElem?_toList] at hu
        simp [hu]
      · rename_i hj; exact hmv _ _ hv fun i hi => by simp [idsL] at hi; rw [hi]; exact hj
    | v x => exact hmv _ _ hv fun i hi => by cases hi
    | rd lt e t xs => exact hmv _ _ hv fun i hi => by cases hi
    | rdp lt t x off => exact hmv _ _ hv fun i hi => by cases hi
    | clo lt f agg t x => exact hmv _ _ hv fun i hi => by cases hi
    | fnc f => exact hmv _ _ hv fun i hi => by cases hi
    | cap lt f ts x => exact hmv _ _ hv fun i hi => by cases hi
    | dead => exact hmv _ _ hv fun i hi => by cases hi
  have hf0 : ∀ l, idsL l = [] → frozB id lt t x l = l := by
    intro l hl
    cases l <;> first | rfl | cases hl
  refine ⟨⟨⟨?_, hs.nodup.filter _, ?_, ?_, ?_, ?_, ?_⟩, All2.map (h.env.mono fun _ _ => avRel.impf hf)⟩, ⟨Below.refl _ _, agree.refl _ _, fun _ h => .inl h, fun _ h => .inl h, fun k hk => ?_⟩⟩
  · show c.D.filter _ = _
    simp only [St.freezeB, St.map, hs.ids]
    rw [List.filter_map, List.filter_map, List.map_map]
    rfl
  · intro i e' hm
    simp only [St.freezeB, St.map] at hm
    obtain ⟨hm, hne⟩ := List.mem_filter.mp hm
    obtain ⟨p, hp, hpe⟩ := List.mem_map.mp hm
    injection hpe with h1 h2
    have hne' : p.1 ≠ id := by rw [h1]; simpa using hne
    rw [← h1, ← h2]
    have hpD : p.1 ∈ c.D := by rw [hs.ids]; exact List.mem_map.mpr ⟨_, hp, rfl⟩
    refine (hs.ent p.1 p.2 hp).move hf hf0 rfl (fun g hg => rfl) (fun g hg => ?_) (fun g hg => hg)
    rintro (h3 | h3)
    · exact (hs.ent p.1 p.2 hp).notT hg h3
    · exact hs.apartX p.1 id g hpD hidD hne' (.inl hg) h3
  · intro i j g hi hj hij hg
    exact hs.apartX i j g (List.mem_filter.mp hi).1 (List.mem_filter.mp hj).1 hij hg
  · intro i g hi hg
    obtain ⟨hi1, hi2⟩ := List.mem_filter.mp hi
    refine ⟨?_, (hs.ext i g hi1 hg).2⟩
    rintro (h3 | h3)
    · exact (hs.ext i g hi1 hg).1 h3
    · exact hs.apartX i id g hi1 hidD (by simpa using hi2) (.inr hg) h3
  · rintro k (hk | hk)
    · exact .inl (hs.sub k hk)
    · exact .inr hk
  · rintro k (hk | hk)
    · exact hs.lt k hk
    · exact hs.ltX hidD hk
  · rcases hk with hk | hk
    · exact .inl hk
    · exact .inr fun ht => hs.notTX hidD hk ht
theorem later_freeze {tmps : Array Value} (h : Rel c st tmps) {id : Nat} (hid : id ∈ c.D) (h2 : Step c (c.freeze id)) : Later c (c.freeze id) :=
  ⟨h2, rfl, fun _ _ => rfl, h.s.sub, h.s.lt, fun i hi => (List.mem_filter.mp hi).1, fun k hk => hk.imp (fun h => h) fun hb => ⟨_, hid, hb⟩, fun _ _ _ => Iff.rfl⟩

end
end Go.Proofs.Ytdacfaincamliaa.Ev
