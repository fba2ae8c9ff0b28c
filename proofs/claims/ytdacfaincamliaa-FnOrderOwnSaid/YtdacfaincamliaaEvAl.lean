/- A callee that may hand on what it was handed. Conditions: none. -/
import Derived.Test.YtdacfaincamliaaEvFn
namespace Go.Proofs.Ytdacfaincamliaa.Ev
open Go Go.RowKit

section
variable {P : Program} {c c1 : Cx}

theorem entRel.al {id : Nat} {e : Ent} {f : Leaf → Leaf} (h : entRel c id e) (hw : c1.w = c.w) (hρ : c1.ρ = c.ρ) (hT : c1.T = c.T) (hX : c1.X = c.X) (hl : ∀ l y, leafRel c l y → leafRel c1 (f l) y)
    (hrow : ∀ e' t xs, e = .row e' t xs → ∀ l, l ∈ xs.flatMap (leaves true t) → ∀ y, leafRel c l y → leafRel c1 l y) : entRel c1 id (mapE f e) := by
  cases e with
  | box t cells =>
    obtain ⟨g, conc, h1, h2, h3, h4⟩ := h
    exact ⟨g, conc, by rw [hρ]; exact h1, by rw [hT]; exact h2, by rw [hw]; exact h3, All2.map (h4.mono hl)⟩
  | row e t xs =>
    obtain ⟨inner, h1, h2, h3⟩ := h
    exact ⟨inner, by rw [hw, hρ]; exact h1, by rw [hT, hρ]; exact h2, h3.mono_mem fun l hm y hy => hrow e t xs rfl l hm y hy⟩
  | lrow e t n cells =>
    obtain ⟨inner, h1, h2, h3⟩ := h
    exact ⟨inner, by rw [hw, hρ]; exact h1, by rw [hT, hρ]; exact h2, All2.map (h3.mono hl)⟩
  | deep e t xs =>
    obtain ⟨inner, B, h1, h2, h3, h4, h5⟩ := h
    exact ⟨inner, B, by rw [hw, hρ]; exact h1, by rw [hT, hρ]; exact h2, h3, by rw [hX]; exact h4, by rw [hw]; exact h5⟩
  | zip e t l cells r =>
    obtain ⟨i0, i1, i2, B0, B2, h1, h2, h3, h4, h5, h6, h7, h8⟩ := h
    exact ⟨i0, i1, i2, B0, B2, by rw [hw, hρ]; exact h1, by rw [hT, hρ]; exact h2, h3, by rw [hX]; exact h4, by rw [hw]; exact h5, h6, All2.map (h7.mono hl), by rw [hw]; exact h8⟩

theorem str_leaves (t : Ty) : ∀ (x : t.den) (l : Leaf), l ∈ leaves true t x → strL l = l := by
  induction t with
  | int k => intro x l h; simp [leaves] at h; subst h; rfl
  | bool => intro x l h; simp [leaves] at h; subst h; rfl
  | str => intro x l h; simp [leaves] at h; subst h; rfl
  | rs e t _ => intro x l h; simp [leaves] at h; subst h; rfl
  | pair a b ha hb =>
    intro x l h
    simp only [leaves, List.mem_append] at h
    rcases h with h | h
    · exact ha x.1 l h
    · exact hb x.2 l h
theorem flat_leaves (t : Ty) : flat t = true → ∀ (x : t.den) (l : Leaf), l ∈ leaves true t x → ∃ v, l = .v v := by
  induction t with
  | int k => intro _ x l h; simp [leaves] at h; exact ⟨_, h⟩
  | bool => intro _ x l h; simp [leaves] at h; exact ⟨_, h⟩
  | str => intro _ x l h; simp [leaves] at h; exact ⟨_, h⟩
  | rs e t _ => intro hf; simp [flat] at hf
  | pair a b ha hb =>
    intro hf x l h
    simp only [flat, Bool.and_eq_true] at hf
    simp only [leaves, List.mem_append] at h
    rcases h with h | h
    · exact ha hf.1 x.1 l h
    · exact hb hf.2 x.2 l h

/-- What stays for good in a looser view. -/
theorem str_rel (hs : ∀ k, c.I k → c.T k) (h1 : c1 = { c with I := c.T }) {l : Leaf} {y : Value} (h : leafRel c l y) : leafRel c1 (strL l) y := by
  subst h1
  have hS : ∀ lt k, c.S lt k → c.T k := by
    intro lt k hk
    cases lt with
    | true => exact hs k hk
    | false => exact hk
  cases l with
  | rd lt e t xs => obtain ⟨A, n, h1, h2, h3⟩ := h; exact ⟨A, n, h1, h2, h3.step (agree.refl _ _) (hS lt)⟩
  | rdp lt t x off => obtain ⟨ad, h1, h2⟩ := h; exact ⟨ad, h1, h2.step (agree.refl _ _) (hS lt)⟩
  | clo lt f agg t x => obtain ⟨y0, h1, h2, h3⟩ := h; exact ⟨y0, h1, h2, h3.step (agree.refl _ _) (hS lt)⟩
  | cap lt f ts x => obtain ⟨ps, h1, h2⟩ := h; exact ⟨ps, h1, h2.step (agree.refl _ _) (hS lt)⟩
  | _ => exact h
theorem wk_rel (hs : ∀ k, c.I k → c.T k) {I : Nat → Prop} (h1 : c1 = { c with I := I }) {l : Leaf} {y : Value} (h : leafRel c l y) : leafRel c1 (wkL l) y := by
  subst h1
  have hS : ∀ lt k, c.S lt k → c.T k := by
    intro lt k hk
    cases lt with
    | true => exact hs k hk
    | false => exact hk
  cases l with
  | rd lt e t xs => obtain ⟨A, n, h1, h2, h3⟩ := h; exact ⟨A, n, h1, h2, h3.step (agree.refl _ _) (hS lt)⟩
  | rdp lt t x off => obtain ⟨ad, h1, h2⟩ := h; exact ⟨ad, h1, h2.step (agree.refl _ _) (hS lt)⟩
  | clo lt f agg t x => obtain ⟨y0, h1, h2, h3⟩ := h; exact ⟨y0, h1, h2, h3.step (agree.refl _ _) (hS lt)⟩
  | cap lt f ts x => obtain ⟨ps, h1, h2⟩ := h; exact ⟨ps, h1, h2.step (agree.refl _ _) (hS lt)⟩
  | _ => exact h

theorem keepA_rel {c0 c' cx : Cx} (hk : ∀ l y, fixL l = true → leafRel c0 l y → leafRel cx l y) (hw : ∀ l y, leafRel c' l y → leafRel cx (wkL l) y) {v v' : AV} {y : Value} (h : avRel c0 v y) (h' : avRel c' v' y) : avRel cx (keepA v v') y := by
  have h2 : avRel cx (mapA wkL v') y := h'.impf hw
  unfold keepA
  split
  · rename_i l
    split
    · rename_i hf
      exact hk l y hf h
    · exact h2
  · rename_i ls
    split
    · rename_i hf
      obtain ⟨cs, h3, h4⟩ := h
      exact ⟨cs, h3, h4.mono_mem fun l hl u hu => hk l u (List.all_eq_true.mp hf l hl) hu⟩
    · exact h2
  · exact h2
theorem zip_rel {c0 c' cx : Cx} (hk : ∀ l y, fixL l = true → leafRel c0 l y → leafRel cx l y) (hw : ∀ l y, leafRel c' l y → leafRel cx (wkL l) y) : ∀ {vs vs' : List AV} {ys : List Value}, All2 (avRel c0) vs ys → All2 (avRel c') vs' ys → All2 (avRel cx) (List.zipWith keepA vs vs') ys
  | [], [], [], _, _ => trivial
  | _ :: _, _ :: _, _ :: _, h, h' => ⟨keepA_rel hk hw h.1 h'.1, zip_rel hk hw h.2 h'.2⟩
  | [], _, _ :: _, h, _ => h.elim
  | _ :: _, _, [], h, _ => h.elim
  | [], _ :: _, [], _, h => h.elim
  | _ :: _, [], _ :: _, _, h => h.elim

theorem conAl_ok {f : FuncId} {con : Con} (h : Con.ok P f con) : Con.ok P f (conAl con) := by
  refine ⟨h.enters, fun {R} lim K r vs args c st tmps hrun hr hv => ?_⟩
  by_cases hst : strongSt vs st = true
  · exact h.goes lim K r vs args c st tmps (by simpa only [conAl, if_pos hst] using hrun) hr hv
  replace hrun : con.run lim (vs.map (mapV strL)) (st.map strL) (fun v st' => if flatSt st' = true then K (mapA wkL v) { env := List.zipWith keepA st.env st'.env, store := (st'.map wkL).store } else none) = some r := by
    simpa only [conAl, if_neg hst] using hrun
  clear hst
  have hs := hr.s
  let cS : Cx := { c with I := c.T }
  have hst : ∀ l y, leafRel c l y → leafRel cS (strL l) y := fun l y hl => str_rel hs.sub rfl hl
  have hrS : Rel cS (st.map strL) tmps := by
    refine ⟨⟨?_, hs.nodup, fun id e he => ?_, hs.apartX, hs.ext, fun _ h => h, hs.lt⟩, All2.map (hr.env.mono fun _ _ => avRel.impf hst)⟩
    · show c.D = _
      rw [hs.ids]
      simp [St.map]
    · simp only [St.map] at he
      obtain ⟨p, hp, hpe⟩ := List.mem_map.mp he
      injection hpe with h1 h2
      subst h1 h2
      refine (hs.ent p.1 p.2 hp).al rfl rfl rfl rfl hst fun e' t xs _ l hl y hy => ?_
      obtain ⟨x, _, hx⟩ := List.mem_flatMap.mp hl
      have := hst l y hy
      rwa [str_leaves t x l hx] at this
  have hvS : All2 (v1Rel cS) (vs.map (mapV strL)) args.toList := All2.map (hv.mono fun _ _ => v1Rel.impf hst)
  refine (h.goes lim _ r _ args cS _ tmps hrun hrS hvS).mono fun e w' hh => ?_
  obtain ⟨v, st', c', y, rfl, hk, hr', hv', hstep, htame, rfl⟩ := hh
  split at hk
  rotate_left
  · cases hk
  rename_i hflat
  have hs' := hr'.s
  let cx : Cx := { c' with I := c.I }
  have hwk : ∀ l y, leafRel c' l y → leafRel cx (wkL l) y := fun l y hl => wk_rel hs'.sub rfl hl
  have hkp : ∀ l y, fixL l = true → leafRel c l y → leafRel cx l y := fun l y hf hl => leafRel.move (c := c) (c' := cx) hstep.agree hs.sub hstep.T (fun _ h => h) (fun i hi _ => by
    simp only [fixL, List.isEmpty_iff] at hf
    rw [hf] at hi
    cases hi) hl
  refine ⟨_, _, cx, y, rfl, hk, ⟨⟨?_, hs'.nodup, fun id e he => ?_, hs'.apartX, hs'.ext, fun k hk => hstep.T k (hs.sub k hk), hs'.lt⟩, zip_rel hkp hwk hr.env hr'.env⟩, hv'.impf hwk, ⟨hstep.below, hstep.agree, hstep.T, fun _ h => h, fun _ h => .inl h⟩, fun M hM => ?_, rfl⟩
  · show c'.D = _
    rw [hs'.ids]
    simp [St.map]
  · simp only [St.map] at he
    obtain ⟨p, hp, hpe⟩ := List.mem_map.mp he
    injection hpe with h1 h2
    subst h1 h2
    refine (hs'.ent p.1 p.2 hp).al rfl rfl rfl rfl hwk fun e' t xs hpe l hl y hy => ?_
    obtain ⟨x, _, hx⟩ := List.mem_flatMap.mp hl
    have hft : flat t = true := by
      have := List.all_eq_true.mp hflat p hp
      rw [hpe] at this
      exact this
    obtain ⟨v, rfl⟩ := flat_leaves t hft x l hx
    exact hy
  · have := htame M hM
    exact ⟨this.size, this.old, this.rows, this.mu, this.bT, this.bO⟩

end
end Go.Proofs.Ytdacfaincamliaa.Ev
