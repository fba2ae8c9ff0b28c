/- Rows of the call's own, taken out whole and laid anew. Conditions: none. -/
import Derived.Test.YtdacfaincamliaaEvFreeze
namespace Go.Proofs.Ytdacfaincamliaa.Ev
open Go Go.RowKit

section
variable {P : Program} {c : Cx} {st : St} {R : Type} {a : Act} {r : R}

theorem rows_rel {t : Ty} {S : Nat → Prop} (hS : ∀ k, S k → c.I k) : ∀ {xs : List t.den} {cs : List Value}, cs.length = xs.length * t.sz → (∀ j x, xs[j]? = some x → RdE S t c.w x ((cs.drop (j * t.sz)).take t.sz)) → All2 (leafRel c) (xs.flatMap (leaves true t)) cs
  | [], cs, hl, _ => by
    have : cs = [] := List.eq_nil_of_length_eq_zero (by simpa using hl)
    rw [this]
    trivial
  | x :: xs, cs, hl, h => by
    have h0 := h 0 x rfl
    simp only [Nat.zero_mul, List.drop_zero] at h0
    have h1 : RdE (c.S true) t c.w x (cs.take t.sz) := h0.step (agree.refl _ _) hS
    have h2 := rows_rel hS (xs := xs) (cs := cs.drop t.sz) (by simp [List.length_drop, hl, Nat.add_mul]) (fun j y hj => by
      have := h (j + 1) y (by simpa using hj)
      rwa [List.drop_drop, show t.sz + j * t.sz = (j + 1) * t.sz by rw [Nat.add_mul, Nat.one_mul, Nat.add_comm]])
    rw [List.flatMap_cons, ← List.take_append_drop t.sz cs]
    exact (leaves_rel true h1).append h2

theorem Rel.drop' {tmps : Array Value} (hr : Rel c st tmps) (keep : Nat → Bool) :
    ∃ c', Rel c' (({ st with store := st.store.filter fun p => keep p.1 } : St).map (dropL ((st.store.filter fun p => keep p.1).map (·.1)))) tmps ∧ Step c c' ∧ c'.w = c.w ∧ c'.I = c.I ∧ c'.T = c.T ∧ c'.ρ = c.ρ ∧ c'.w = c.w ∧ c'.D = c.D.filter keep ∧ c'.X = c.X := by
  have hs := hr.s
  let D' := (st.store.filter fun p => keep p.1).map (·.1)
  let c' : Cx := { c with D := D' }
  have hsub : ∀ i, i ∈ D' → i ∈ c.D := by
    intro i hi
    obtain ⟨p, hp, rfl⟩ := List.mem_map.mp hi
    rw [hs.ids]
    exact List.mem_map.mpr ⟨p, (List.mem_filter.mp hp).1, rfl⟩
  have hf : ∀ l y, leafRel c l y → leafRel c' (dropL D' l) y := by
    intro l y h
    unfold dropL
    split
    · rename_i hall
      refine leafRel.move (c := c) (c' := c') (agree.refl c.T c.w) hs.sub (fun _ h => h) (fun _ h => h) (fun i hi _ => ⟨?_, rfl⟩) h
      have := List.all_eq_true.mp hall i hi
      simpa using this
    · exact leaf_one h
  have hf0 : ∀ l, idsL l = [] → dropL D' l = l := by intro l hl; simp [dropL, hl]
  refine ⟨c', ⟨⟨?_, ?_, ?_, ?_, fun i g hi hg => hs.ext i g (hsub i hi) hg, hs.sub, hs.lt⟩, All2.map (hr.env.mono fun _ _ => avRel.impf hf)⟩, ⟨Below.refl _ _, agree.refl _ _, fun _ h => h, fun _ h => h, fun _ h => .inl h⟩, rfl, rfl, rfl, rfl, rfl, ?_, rfl⟩
  rotate_left 4
  · show D' = c.D.filter keep
    rw [hs.ids, List.filter_map]
    rfl
  · show D' = _
    simp only [St.map, List.map_map]
    rfl
  · show D'.Nodup
    have : D'.Sublist c.D := by rw [hs.ids]; exact List.Sublist.map _ List.filter_sublist
    exact this.nodup hs.nodup
  · intro i e hm
    simp only [St.map] at hm
    obtain ⟨p, hp, hpe⟩ := List.mem_map.mp hm
    injection hpe with h1 h2
    rw [← h1, ← h2]
    exact (hs.ent p.1 p.2 (List.mem_filter.mp hp).1).move hf hf0 rfl (fun g _ => rfl) (fun g hg => (hs.ent p.1 p.2 (List.mem_filter.mp hp).1).notT hg) (fun g hg => hg)
  · intro i j g hi hj hij hg
    exact hs.apartX i j g (hsub i hi) (hsub j hj) hij hg

theorem Rel.drop {tmps : Array Value} (hr : Rel c st tmps) (keep : Nat → Bool) :
    ∃ c', Rel c' (({ st with store := st.store.filter fun p => keep p.1 } : St).map (dropL ((st.store.filter fun p => keep p.1).map (·.1)))) tmps ∧ Step c c' ∧ c'.w = c.w := by
  obtain ⟨c', h1, h2, h3, _⟩ := hr.drop' keep
  exact ⟨c', h1, h2, h3⟩

theorem Rel.take {tmps : Array Value} (hr : Rel c st tmps) (id : Nat) : Rel { c with D := c.D.filter (· != id) } (st.take id) tmps ∧ Later c { c with D := c.D.filter (· != id) } := by
  obtain ⟨c', h1, h2, h3, h4, h5, h6, h7, h8, h9⟩ := hr.drop' fun i => i != id
  have e : c' = { c with D := c.D.filter (· != id) } := by
    cases c'
    simp only at h4 h5 h6 h7 h3 h9
    subst h4 h5 h6 h7 h9
    exact congrArg (fun D => ({ D := D, I := c.I, T := c.T, w := c.w, ρ := c.ρ, X := c.X } : Cx)) h8
  subst e
  exact ⟨h1, h2, rfl, fun _ _ => rfl, hr.s.sub, hr.s.lt, fun i hi => (List.mem_filter.mp hi).1, fun _ h => .inl h, fun _ _ _ => Iff.rfl⟩
/-- Fewer entries. -/
theorem later_D {tmps : Array Value} (hr : Rel c st tmps) {D' : List Nat} (hD : ∀ i, i ∈ D' → i ∈ c.D) : Later c { c with D := D' } :=
  ⟨⟨Below.refl _ _, agree.refl _ _, fun _ h => h, fun _ h => h, fun _ h => .inl h⟩, rfl, fun _ _ => rfl, hr.s.sub, hr.s.lt, hD, fun _ h => .inl h, fun _ _ _ => Iff.rfl⟩

/-! ### Rows taken out whole, and laid anew -/
theorem flat_own {lt : Bool} {w : World} : ∀ {t : Ty} {x : t.den} {cs : List Value}, Ev.flat t = true → All2 (leafRel c) (leaves lt t x) cs → OwnE t w [] x cs
  | .int _, _, [y], _, h => ⟨rfl, by rw [h.1.1]⟩
  | .bool, _, [y], _, h => ⟨rfl, by rw [h.1.1]⟩
  | .str, _, [y], _, h => ⟨rfl, by rw [h.1.1]⟩
  | .rs _ _, _, _, hf, _ => by cases hf
  | .pair a b, x, cs, hf, h => by
    simp only [Ev.flat, Bool.and_eq_true] at hf
    obtain ⟨b1, b2, e, h1, h2⟩ := All2.append_inv (as := leaves lt a x.1) (as' := leaves lt b x.2) h
    exact ⟨[], [], b1, b2, rfl, e, flat_own hf.1 h1, flat_own hf.2 h2⟩
  | .int _, _, [], _, h => h.elim
  | .bool, _, [], _, h => h.elim
  | .str, _, [], _, h => h.elim
  | .int _, _, _ :: _ :: _, _, h => h.2.elim
  | .bool, _, _ :: _ :: _, _, h => h.2.elim
  | .str, _, _ :: _ :: _, _, h => h.2.elim
theorem own_flat {w : World} : ∀ {t : Ty} {B : List Nat} {x : t.den} {cs : List Value}, Ev.flat t = true → OwnE t w B x cs → B = []
  | .int _, _, _, _, _, h => h.1
  | .bool, _, _, _, _, h => h.1
  | .str, _, _, _, _, h => h.1
  | .rs _ _, _, _, _, hf, _ => by cases hf
  | .pair a b, _, _, _, hf, ⟨B0, B1, _, _, hB, _, h0, h1⟩ => by
    simp only [Ev.flat, Bool.and_eq_true] at hf
    rw [hB, own_flat hf.1 h0, own_flat hf.2 h1]
    rfl
theorem ownL_flat {w : World} {t : Ty} (hf : Ev.flat t = true) : ∀ {xs : List t.den} {B : List Nat} {cs : List Value}, OwnL (OwnE t w) t.sz B xs cs → B = []
  | [], _, _, h => h.1
  | _ :: _, _, _, ⟨B0, B1, _, _, hB, _, _, h0, h1⟩ => by rw [hB, own_flat hf h0, ownL_flat hf h1]; rfl
theorem rows_own {w : World} {t : Ty} (hf : Ev.flat t = true) : ∀ {xs : List t.den} {cs : List Value}, All2 (leafRel c) (xs.flatMap (leaves true t)) cs → OwnL (OwnE t w) t.sz [] xs cs
  | [], [], _ => ⟨rfl, rfl⟩
  | [], _ :: _, h => h.elim
  | x :: xs, cs, h => by
    rw [List.flatMap_cons] at h
    obtain ⟨b1, b2, e, h1, h2⟩ := All2.append_inv h
    exact ⟨[], [], b1, b2, rfl, e, by rw [← h1.length, leaves_length], flat_own hf h1, rows_own hf h2⟩

/-- A row, or a deep one, as it stands. -/
theorem mk_own {id : Nat} {e : TypeId} {t : Ty} {xs : List t.den} {E : Ent} (h : entRel c id E) (hE : (Ev.flat t = true ∧ E = .row e t xs) ∨ E = .deep e t xs) : ∃ B, OwnE (.rs e t) c.w B xs [c.ρ id] ∧ B.Nodup ∧ ∀ g, g ∈ B → c.ow id g := by
  rcases hE with ⟨hf, rfl⟩ | rfl
  · obtain ⟨inner, h1, h2, h3⟩ := h
    have hone : (c.ρ id).oneCell' = true := by rcases h1.2 with ⟨A0, h4, _⟩ | ⟨_, _, _, h4, _⟩ <;> rw [h4] <;> rfl
    refine ⟨(blk (c.ρ id)).toList ++ [], ⟨_, inner, [], rfl, hone, h1, rfl, rows_own hf h3⟩, by cases blk (c.ρ id) <;> simp, fun g hg => .inl (by simpa using hg)⟩
  · exact deep_own h (deep_one h)

theorem takeO_some {tmps : Array Value} {c0 : Cx} : ∀ {t : Ty} {ls : List Leaf} {cs : List Value} {st : St} {c : Cx} {K : t.den → St → Option R}, takeO t ls st K = some r → Rel c st tmps → Later c0 c → All2 (leafRel c0) ls cs →
    ∃ x st' D' B, K x st' = some r ∧ Rel { c with D := D' } st' tmps ∧ (∀ i, i ∈ D' → i ∈ c.D) ∧ OwnE t c.w B x cs ∧ B.Nodup ∧ ∀ g, g ∈ B → ∃ i, i ∈ c.D ∧ i ∉ D' ∧ c.ow i g
  | .int k, ls, cs, st, c, K, h, hr, h0, ha => by
    simp only [takeO] at h
    split at h
    · rename_i k' n
      split at h
      · rename_i hk
        subst hk
        match cs, ha with
        | [y], ha => exact ⟨n, st, c.D, [], h, hr, fun _ h => h, ⟨rfl, by rw [ha.1.1]⟩, List.nodup_nil, fun g hg => by cases hg⟩
        | _ :: _ :: _, ha => exact ha.2.elim
      · cases h
    · cases h
  | .bool, ls, cs, st, c, K, h, hr, h0, ha => by
    simp only [takeO] at h
    split at h
    · rename_i n
      match cs, ha with
      | [y], ha => exact ⟨n, st, c.D, [], h, hr, fun _ h => h, ⟨rfl, by rw [ha.1.1]⟩, List.nodup_nil, fun g hg => by cases hg⟩
      | _ :: _ :: _, ha => exact ha.2.elim
    · cases h
  | .str, ls, cs, st, c, K, h, hr, h0, ha => by
    simp only [takeO] at h
    split at h
    · rename_i n
      match cs, ha with
      | [y], ha => exact ⟨n, st, c.D, [], h, hr, fun _ h => h, ⟨rfl, by rw [ha.1.1]⟩, List.nodup_nil, fun g hg => by cases hg⟩
      | _ :: _ :: _, ha => exact ha.2.elim
    · cases h
  | .rs e t, ls, cs, st, c, K, h, hr, h0, ha => by
    have main : ∀ {id : Nat} {y : Value} {E : Ent} {xs : List t.den}, lookup st.store id = some E → (Ev.flat t = true ∧ E = .row e t xs) ∨ E = .deep e t xs → leafRel c0 (.own id) y → K xs (st.take id) = some r →
        ∃ x st' D' B, K x st' = some r ∧ Rel { c with D := D' } st' tmps ∧ (∀ i, i ∈ D' → i ∈ c.D) ∧ OwnE (.rs e t) c.w B x [y] ∧ B.Nodup ∧ ∀ g, g ∈ B → ∃ i, i ∈ c.D ∧ i ∉ D' ∧ c.ow i g := by
      intro id y E xs hl hE hy h
      have hidD : id ∈ c.D := lookup_D hr.s hl
      have hy : y = c.ρ id := by rw [h0.ρ id hidD]; exact hy.2.1
      obtain ⟨B, k1, k2, k3⟩ := mk_own (hr.entOf hl) hE
      exact ⟨xs, _, c.D.filter (· != id), B, h, (hr.take id).1, fun i hi => (List.mem_filter.mp hi).1, by rw [hy]; exact k1, k2, fun g hg => ⟨id, hidD, fun h9 => by simpa using (List.mem_filter.mp h9).2, k3 g hg⟩⟩
    simp only [takeO] at h
    split at h
    · rename_i id
      match cs, ha with
      | [y], ha =>
        split at h
        · rename_i e' t' xs hl
          split at h
          · rename_i hc
            obtain ⟨hf, rfl⟩ := hc
            obtain ⟨rfl, h⟩ := cast_some h
            exact main hl (.inl ⟨hf, rfl⟩) ha.1 h
          · cases h
        · rename_i e' t' xs hl
          split at h
          · rename_i hc
            subst hc
            obtain ⟨rfl, h⟩ := cast_some h
            exact main hl (.inr rfl) ha.1 h
          · cases h
        · cases h
      | _ :: _ :: _, ha => exact ha.2.elim
    · match cs, ha with
      | [y], ha =>
        have hy : y = .slice none 0 0 := ha.1.1
        exact ⟨[], st, c.D, [], h, hr, fun _ h => h, ⟨y, [], [], rfl, by rw [hy]; rfl, by rw [hy]; exact oRow_nil c.w e t.sz, by rw [hy]; rfl, rfl, rfl⟩, List.nodup_nil, fun g hg => by cases hg⟩
      | _ :: _ :: _, ha => exact ha.2.elim
    · cases h
  | .pair a b, ls, cs, st, c, K, h, hr, h0, ha => by
    simp only [takeO] at h
    obtain ⟨x, st1, D1, B0, h1, h2, h3, h4, h5, h6⟩ := takeO_some (c0 := c0) h hr h0 (ha.take a.sz)
    obtain ⟨y, st2, D2, B1, k1, k2, k3, k4, k5, k6⟩ := takeO_some (c0 := c0) h1 h2 (h0.trans (later_D hr h3) h3) (ha.drop a.sz)
    refine ⟨(x, y), st2, D2, B0 ++ B1, k1, k2, fun i hi => h3 i (k3 i hi), ⟨B0, B1, _, _, rfl, (List.take_append_drop _ _).symm, h4, k4⟩, ?_, fun g hg => ?_⟩
    · rw [List.nodup_append]
      refine ⟨h5, k5, fun g hg g' hg' => ?_⟩
      rintro rfl
      obtain ⟨i, i1, i2, i3⟩ := h6 g hg
      obtain ⟨j, j1, j2, j3⟩ := k6 g hg'
      exact hr.s.apartX i j g i1 (h3 j j1) (fun e => i2 (by rw [e]; exact j1)) i3 j3
    · rcases List.mem_append.mp hg with hg | hg
      · obtain ⟨i, i1, i2, i3⟩ := h6 g hg
        exact ⟨i, i1, fun h9 => i2 (k3 i h9), i3⟩
      · obtain ⟨j, j1, j2, j3⟩ := k6 g hg
        exact ⟨j, h3 j j1, j2, j3⟩

theorem takeOs_some {tmps : Array Value} {c0 : Cx} {t : Ty} : ∀ {n : Nat} {ls : List Leaf} {cs : List Value} {st : St} {c : Cx} {K : List t.den → St → Option R}, takeOs t n ls st K = some r → Rel c st tmps → Later c0 c → All2 (leafRel c0) ls cs → cs.length = n * t.sz →
    ∃ xs st' D' B, K xs st' = some r ∧ Rel { c with D := D' } st' tmps ∧ (∀ i, i ∈ D' → i ∈ c.D) ∧ OwnL (OwnE t c.w) t.sz B xs cs ∧ xs.length = n ∧ B.Nodup ∧ ∀ g, g ∈ B → ∃ i, i ∈ c.D ∧ i ∉ D' ∧ c.ow i g
  | 0, ls, cs, st, c, K, h, hr, h0, ha, hl => ⟨[], st, c.D, [], h, hr, fun _ h => h, ⟨rfl, List.length_eq_zero_iff.mp (by omega)⟩, rfl, List.nodup_nil, fun g hg => by cases hg⟩
  | n + 1, ls, cs, st, c, K, h, hr, h0, ha, hl => by
    have hsz : (n + 1) * t.sz = n * t.sz + t.sz := Nat.succ_mul _ _
    simp only [takeOs] at h
    obtain ⟨x, st1, D1, B0, h1, h2, h3, h4, h5, h6⟩ := takeO_some (c0 := c0) h hr h0 (ha.take t.sz)
    obtain ⟨xs, st2, D2, B1, k1, k2, k3, k4, k0, k5, k6⟩ := takeOs_some (c0 := c0) h1 h2 (h0.trans (later_D hr h3) h3) (ha.drop t.sz) (by rw [List.length_drop]; omega)
    refine ⟨x :: xs, st2, D2, B0 ++ B1, k1, k2, fun i hi => h3 i (k3 i hi), ⟨B0, B1, _, _, rfl, (List.take_append_drop t.sz cs).symm, by rw [List.length_take]; omega, h4, k4⟩, by simp [k0], ?_, fun g hg => ?_⟩
    · rw [List.nodup_append]
      refine ⟨h5, k5, fun g hg g' hg' => ?_⟩
      rintro rfl
      obtain ⟨i, i1, i2, i3⟩ := h6 g hg
      obtain ⟨j, j1, j2, j3⟩ := k6 g hg'
      exact hr.s.apartX i j g i1 (h3 j j1) (fun e => i2 (by rw [e]; exact j1)) i3 j3
    · rcases List.mem_append.mp hg with hg | hg
      · obtain ⟨i, i1, i2, i3⟩ := h6 g hg
        exact ⟨i, i1, fun h9 => i2 (k3 i h9), i3⟩
      · obtain ⟨j, j1, j2, j3⟩ := k6 g hg
        exact ⟨j, h3 j j1, j2, j3⟩

theorem mkRow_rel {c : Cx} {id : Nat} {e : TypeId} {t : Ty} {xs : List t.den} {inner : List Value} {B : List Nat} (h1 : oRow c.w e t.sz (c.ρ id) xs.length inner) (h2 : ∀ g, blk (c.ρ id) = some g → ¬ c.T g ∧ g ∉ B) (h3 : B.Nodup) (h4 : ∀ g, g ∈ B → c.X id g) (h5 : OwnL (OwnE t c.w) t.sz B xs inner) : entRel c id (mkRow e t xs) := by
  unfold mkRow
  split
  · rename_i hf
    refine ⟨inner, h1, fun g hg => (h2 g hg).1, rows_rel (S := fun _ => False) (fun _ h => h.elim) h1.1 fun j x hj => ?_⟩
    obtain ⟨B0, k1, k2⟩ := h5.get j x hj
    have : B0 = [] := own_flat hf k2
    exact k2.read fun g hg => by rw [this] at hg; cases hg
  · exact ⟨inner, B, h1, h2, h3, h4, h5⟩

theorem putO_some {tmps : Array Value} : ∀ {t : Ty} {x : t.den} {cs : List Value} {B : List Nat} {st : St} {c : Cx}, Rel c st tmps → OwnE t c.w B x cs → B.Nodup → (∀ g, g ∈ B → ¬ c.T g ∧ ∀ i, i ∈ c.D → ¬ c.ow i g) →
    ∃ c', Rel c' (putO t x st).2 tmps ∧ Step c c' ∧ c'.w = c.w ∧ c'.T = c.T ∧ c'.I = c.I ∧ All2 (leafRel c') (putO t x st).1 cs ∧ (∀ l y, leafRel c l y → leafRel c' l y) ∧ (∀ i, i ∈ c'.D → (i ∈ c.D ∧ c'.ρ i = c.ρ i ∧ ∀ g, c'.ow i g → c.ow i g) ∨ ∀ g, c'.ow i g → g ∈ B) ∧ ∀ i, i ∈ c.D → i ∈ c'.D ∧ c'.ρ i = c.ρ i ∧ ∀ g, c'.X i g ↔ c.X i g
  | .int k, x, cs, B, st, c, hr, h, _, _ => ⟨c, hr, Step.refl c, rfl, rfl, rfl, by rw [h.2]; exact ⟨⟨rfl, rfl⟩, trivial⟩, fun _ _ h => h, fun i hi => .inl ⟨hi, rfl, fun _ h => h⟩, fun i hi => ⟨hi, rfl, fun _ => Iff.rfl⟩⟩
  | .bool, x, cs, B, st, c, hr, h, _, _ => ⟨c, hr, Step.refl c, rfl, rfl, rfl, by rw [h.2]; exact ⟨⟨rfl, rfl⟩, trivial⟩, fun _ _ h => h, fun i hi => .inl ⟨hi, rfl, fun _ h => h⟩, fun i hi => ⟨hi, rfl, fun _ => Iff.rfl⟩⟩
  | .str, x, cs, B, st, c, hr, h, _, _ => ⟨c, hr, Step.refl c, rfl, rfl, rfl, by rw [h.2]; exact ⟨⟨rfl, rfl⟩, trivial⟩, fun _ _ h => h, fun i hi => .inl ⟨hi, rfl, fun _ h => h⟩, fun i hi => ⟨hi, rfl, fun _ => Iff.rfl⟩⟩
  | .rs e t, xs, cs, B, st, c, hr, ⟨v, inner, B', h1, h2, h3, h4, h5⟩, hnd, hB => by
    have hl := leaf_growX (st := st) (w1 := c.w) (y0 := v) (B := fun g => g ∈ B') hr.s (fun _ _ => rfl)
    have hρ : (c.growX c.w (fresh st.store) v fun g => g ∈ B').ρ (fresh st.store) = v := if_pos rfl
    have hX : ∀ g, (c.growX c.w (fresh st.store) v fun g => g ∈ B').X (fresh st.store) g ↔ g ∈ B' := fun g => by
      show (if fresh st.store = fresh st.store then g ∈ B' else c.X (fresh st.store) g) ↔ g ∈ B'
      rw [if_pos rfl]
    rw [h4, List.nodup_append] at hnd
    obtain ⟨_, hnd', hdj⟩ := hnd
    have hv : ∀ g, blk v = some g → g ∈ B := fun g hg => by rw [h4, hg]; simp
    have hB' : ∀ g, g ∈ B' → g ∈ B := fun g hg => by rw [h4]; exact List.mem_append_right _ hg
    obtain ⟨q1, q2⟩ := hr.growX (w1 := c.w) (y0 := v) (e := mkRow e t xs) (B := fun g => g ∈ B') (fun _ _ => rfl) (Below.refl _ _) (fun g hg => (hB g (hv g hg)).2) (fun g hg => ⟨⟨(hB g (hB' g hg)).1, h5.lt OwnE.lt g hg⟩, (hB g (hB' g hg)).2⟩)
      (mkRow_rel (inner := inner) (B := B') (by rw [hρ]; exact h3) (fun g hg => by
        rw [hρ] at hg
        exact ⟨(hB g (hv g hg)).1, fun h9 => hdj g (by rw [hg]; simp) g h9 rfl⟩) hnd' (fun g hg => (hX g).mpr hg) h5)
    refine ⟨_, q1, q2, rfl, rfl, rfl, by rw [h1]; exact ⟨⟨List.mem_append_right _ (List.mem_singleton.mpr rfl), hρ.symm, h2⟩, trivial⟩, hl, fun i hi => ?_, fun i hi => ?_⟩
    rotate_left
    · have hne := fresh_not i (by rw [← hr.s.ids]; exact hi)
      refine ⟨List.mem_append_left _ hi, if_neg hne, fun g => ?_⟩
      show (if i = fresh st.store then g ∈ B' else c.X i g) ↔ c.X i g
      rw [if_neg hne]
    rcases List.mem_append.mp hi with hi | hi
    · have hne := fresh_not i (by rw [← hr.s.ids]; exact hi)
      have e1 : (c.growX c.w (fresh st.store) v fun g => g ∈ B').ρ i = c.ρ i := if_neg hne
      refine .inl ⟨hi, e1, fun g hg => ?_⟩
      rcases hg with hg | hg
      · exact .inl (by rw [← e1]; exact hg)
      · have hg : (if i = fresh st.store then g ∈ B' else c.X i g) := hg
        rw [if_neg hne] at hg
        exact .inr hg
    · rw [List.mem_singleton] at hi
      rw [hi]
      refine .inr fun g hg => ?_
      rcases hg with hg | hg
      · rw [hρ] at hg; exact hv g hg
      · exact hB' g ((hX g).mp hg)
  | .pair a b, p, cs, B, st, c, hr, ⟨B0, B1, c0, c1, h1, h2, h3, h4⟩, hnd, hB => by
    rw [h1, List.nodup_append] at hnd
    obtain ⟨hn0, hn1, hdj⟩ := hnd
    obtain ⟨c', k1, k2, k3, k4, k5, k6, k7, k8, k9⟩ := putO_some (st := st) hr h3 hn0 (fun g hg => hB g (by rw [h1]; exact List.mem_append_left _ hg))
    obtain ⟨c2, q1, q2, q3, q4, q5, q6, q7, q8, q9⟩ := putO_some (st := (putO a p.1 st).2) k1 (by rw [k3]; exact h4) hn1 (fun g hg => ⟨by rw [k4]; exact (hB g (by rw [h1]; exact List.mem_append_right _ hg)).1, fun i hi hh => by
      rcases k8 i hi with ⟨m1, m2, m3⟩ | m1
      · exact (hB g (by rw [h1]; exact List.mem_append_right _ hg)).2 i m1 (m3 g hh)
      · exact hdj g (m1 g hh) g hg rfl⟩)
    refine ⟨c2, q1, k2.trans q2, q3.trans k3, q4.trans k4, q5.trans k5, ?_, fun l y h => q7 _ _ (k7 _ _ h), fun i hi => ?_, fun i hi => ⟨(q9 i (k9 i hi).1).1, (q9 i (k9 i hi).1).2.1.trans (k9 i hi).2.1, fun g => ((q9 i (k9 i hi).1).2.2 g).trans ((k9 i hi).2.2 g)⟩⟩
    · rw [h2]
      exact (k6.mono q7).append q6
    · rcases q8 i hi with ⟨m1, m2, m3⟩ | m1
      · rcases k8 i m1 with ⟨n1, n2, n3⟩ | n1
        · exact .inl ⟨n1, m2.trans n2, fun g hg => n3 g (m3 g hg)⟩
        · exact .inr fun g hg => by rw [h1]; exact List.mem_append_left _ (n1 g (m3 g hg))
      · exact .inr fun g hg => by rw [h1]; exact List.mem_append_right _ (m1 g hg)

end
end Go.Proofs.Ytdacfaincamliaa.Ev
