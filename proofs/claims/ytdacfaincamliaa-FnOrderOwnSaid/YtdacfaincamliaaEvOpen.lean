/- One element of a deep row, opened. Conditions: none. -/
import Derived.Test.YtdacfaincamliaaEvWrite2
namespace Go.Proofs.Ytdacfaincamliaa.Ev
open Go Go.RowKit

section
variable {P : Program} {c : Cx} {st : St} {R : Type} {a : Act} {tb : Tb} {o : Oper} {K : AV → St → Option R} {r : R}

theorem all2_dead (c : Cx) : ∀ {cs : List Value}, (∀ u ∈ cs, u.oneCell' = true) → All2 (leafRel c) (List.replicate cs.length Leaf.dead) cs
  | [], _ => trivial
  | u :: cs, h => ⟨h u (by simp), all2_dead c fun v hv => h v (by simp [hv])⟩

theorem OwnL.one {w : World} {t : Ty} : ∀ {B : List Nat} {xs : List t.den} {cs : List Value}, OwnL (OwnE t w) t.sz B xs cs → ∀ u ∈ cs, u.oneCell' = true
  | _, [], _, ⟨_, h⟩, u, hu => by rw [h] at hu; cases hu
  | _, x :: xs, _, ⟨B0, B1, c0, c1, _, h, _, h1, h2⟩, u, hu => by
    rw [h] at hu
    rcases List.mem_append.mp hu with hu | hu
    · exact h1.one u hu
    · exact h2.one u hu

theorem openZ_some {tmps : Array Value} {id j : Nat} {K' : St → Option R} (h : openZ id j st K' = some r) (hr : Rel c st tmps) :
    ∃ st' c', K' st' = some r ∧ Rel c' st' tmps ∧ Step c c' ∧ c'.w = c.w ∧ (∀ l y, leafRel c l y → leafRel c' l y) := by
  unfold openZ at h
  split at h
  · rename_i e t xs hl
    simp only at h
    split at h
    · rename_i hj
      have hid : id ∈ c.D := lookup_D hr.s hl
      obtain ⟨inner, B, m1, m2, m3, m4, m5⟩ := hr.entOf hl
      have hxs : xs = xs.take j ++ (xs.getD j t.dflt :: xs.drop (j + 1)) := by
        rw [List.getD_eq_getElem?_getD, List.getElem?_eq_getElem hj, Option.getD_some, List.getElem_cons_drop, List.take_append_drop]
      rw [hxs] at m5
      obtain ⟨B0, B', i0, i', hB, hi, m6, m7⟩ := m5.split
      obtain ⟨B1, B2, i1, i2, hB', hi', n1, n2, n3⟩ := m7
      subst hB' hi'
      subst hB hi
      have m3' := m3
      rw [List.nodup_append, List.nodup_append] at m3
      obtain ⟨p1, ⟨p2, p3, p4⟩, p5⟩ := m3
      have hone : ∀ u ∈ i0 ++ (i1 ++ i2), u.oneCell' = true := by
        intro u hu
        rcases List.mem_append.mp hu with hu | hu
        · exact m6.one u hu
        · rcases List.mem_append.mp hu with hu | hu
          · exact n2.one u hu
          · exact n3.one u hu
      obtain ⟨q1, q2⟩ := absorb (st0 := st) (st := st) (D' := c.D) (B := []) (id := id) (E := .lrow e t xs.length (List.replicate (xs.length * t.sz) .dead)) hr hr (fun _ h => h) hid (fun g hg => by cases hg) (fun g => g ∈ B0 ++ B2)
        (fun g hg => .inr (m4 g (by
          rcases List.mem_append.mp hg with hg | hg
          · exact List.mem_append_left _ hg
          · exact List.mem_append_right _ (List.mem_append_right _ hg))))
        ⟨_, m1, fun g hg => (m2 g hg).1, by rw [← m1.1]; exact all2_dead _ hone⟩
      generalize hc1 : ({ c with D := c.D, X := fun i g => if i = id then g ∈ B0 ++ B2 else c.X i g } : Cx) = c1 at q1 q2
      have hX1 : ∀ g, c1.X id g ↔ g ∈ B0 ++ B2 := fun g => by subst hc1; show (if id = id then g ∈ B0 ++ B2 else c.X id g) ↔ _; rw [if_pos rfl]
      have hρ1 : c1.ρ = c.ρ := by subst hc1; rfl
      have hw1 : c1.w = c.w := by subst hc1; rfl
      have hT1 : c1.T = c.T := by subst hc1; rfl
      have hD1 : c1.D = c.D := by subst hc1; rfl
      have how : ∀ i g, i ≠ id → c1.ow i g → c.ow i g := fun i g hi hg => by
        subst hc1
        rcases hg with hg | hg
        · exact .inl hg
        · have hg : (if i = id then g ∈ B0 ++ B2 else c.X i g) := hg
          rw [if_neg hi] at hg
          exact .inr hg
      have hlm : ∀ l y, leafRel c l y → leafRel c1 l y := fun l y hh => by
        subst hc1
        exact leafRel.move (agree.refl c.T c.w) hr.s.sub (fun _ h => h) (fun _ h => h) (fun i _ hi => ⟨hi, rfl⟩) hh
      have hB1 : ∀ g, g ∈ B1 → g ∈ B0 ++ (B1 ++ B2) := fun g hg => List.mem_append_right _ (List.mem_append_left _ hg)
      obtain ⟨c', k1, k2, k3, k4, k5, k6, k7, k8, k9⟩ := putO_some q1 (by rw [hw1]; exact n2) p2 (fun g hg => ⟨by rw [hT1]; exact (hr.s.ext id g hid (m4 g (hB1 g hg))).1, fun i hi hh => by
        rw [hD1] at hi
        by_cases hi0 : i = id
        · rw [hi0] at hh
          rcases hh with hh | hh
          · rw [hρ1] at hh
            exact (m2 g hh).2 (hB1 g hg)
          · have hh := (hX1 g).mp hh
            rcases List.mem_append.mp hh with hh | hh
            · exact p5 g hh g (List.mem_append_left _ hg) rfl
            · exact p4 g hg g hh rfl
        · exact hr.s.apartX i id g hi hid hi0 (how i g hi0 hh) (.inr (m4 g (hB1 g hg)))⟩)
      obtain ⟨r1, r2, r3⟩ := k9 id (by rw [hD1]; exact hid)
      have hw' : c'.w = c.w := k3.trans hw1
      refine ⟨_, c', h, k1.setEnt ⟨i0, i1, i2, B0, B2, ?_, ?_, ?_, fun g hg => (r3 g).mpr ((hX1 g).mpr hg), by rw [hw']; exact m6, n1, k6, by rw [hw']; exact n3⟩, q2.step.trans k2, hw', fun l y hh => k7 _ _ (hlm _ _ hh)⟩
      · rw [r2, hw', hρ1]
        have e1 : (xs.take j).length + 1 + (xs.drop (j + 1)).length = xs.length := by
          rw [List.length_take, List.length_drop]; omega
        rw [e1]
        exact m1
      · intro g hg
        rw [r2, hρ1] at hg
        refine ⟨by rw [k4, hT1]; exact (m2 g hg).1, fun h9 => (m2 g hg).2 ?_⟩
        rcases List.mem_append.mp h9 with h9 | h9
        · exact List.mem_append_left _ h9
        · exact List.mem_append_right _ (List.mem_append_right _ h9)
      · rw [List.nodup_append]
        exact ⟨p1, p3, fun x hx y hy => p5 x hx y (List.mem_append_right _ hy)⟩
    · cases h
  · split at h
    · exact ⟨st, c, h, hr, Step.refl c, rfl, fun _ _ h => h⟩
    · cases h
  · cases h

end
end Go.Proofs.Ytdacfaincamliaa.Ev
