/- Small laws of lists and of chains. Conditions: those of each theorem. -/
import Derived.Calls
namespace Go.Proofs.Ytdacfaincamliaa.Ev

theorem perm_of_sub {α : Type} [DecidableEq α] : ∀ {l1 l2 : List α}, l1.Nodup → (∀ x, x ∈ l1 → x ∈ l2) → l2.length ≤ l1.length → l1.Perm l2
  | [], l2, _, _, h => by
    have : l2 = [] := List.eq_nil_of_length_eq_zero (by simpa using h)
    rw [this]
  | x :: l1, l2, hn, hs, h => by
    have hx : x ∈ l2 := hs x (by simp)
    have hp := List.perm_cons_erase hx
    have hn' := List.nodup_cons.mp hn
    have h2 : l1.Perm (l2.erase x) := perm_of_sub hn'.2 (fun y hy => by
      have hne : y ≠ x := fun e => hn'.1 (e ▸ hy)
      exact (List.mem_erase_of_ne hne).mpr (hs y (by simp [hy]))) (by
      have := hp.length_eq
      simp only [List.length_cons] at this h
      omega)
    exact (h2.cons x).trans hp.symm
theorem len_le_of_sub {α : Type} [DecidableEq α] : ∀ {l1 l2 : List α}, l1.Nodup → (∀ x, x ∈ l1 → x ∈ l2) → l1.length ≤ l2.length
  | [], _, _, _ => by simp
  | x :: l1, l2, hn, hs => by
    have hx : x ∈ l2 := hs x (by simp)
    have hp := (List.perm_cons_erase hx).length_eq
    have hn' := List.nodup_cons.mp hn
    have h2 := len_le_of_sub (l2 := l2.erase x) hn'.2 (fun y hy => by
      have hne : y ≠ x := fun e => hn'.1 (e ▸ hy)
      exact (List.mem_erase_of_ne hne).mpr (hs y (by simp [hy])))
    simp only [List.length_cons] at hp ⊢
    omega
theorem nodup_of_lt {l : List Int} (h : l.Pairwise (· < ·)) : l.Nodup := h.imp fun h => by omega

theorem pair_eq : ∀ {l1 l2 : List Int}, l1.Perm l2 → l1.Pairwise (· ≤ ·) → l2.Pairwise (· < ·) → l1 = l2
  | [], l2, hp, _, _ => by rw [hp.nil_eq]
  | x :: l1, [], hp, _, _ => by cases hp.eq_nil
  | x :: l1, y :: l2, hp, h1, h2 => by
    have hx : x ∈ y :: l2 := hp.subset (by simp)
    have hy : y ∈ x :: l1 := hp.symm.subset (by simp)
    have h1' := List.pairwise_cons.mp h1
    have h2' := List.pairwise_cons.mp h2
    have hxy : x = y := by
      rcases List.mem_cons.mp hx with e | hx
      · exact e
      · rcases List.mem_cons.mp hy with e | hy
        · exact e.symm
        · have := h2'.1 x hx
          have := h1'.1 y hy
          omega
    subst hxy
    rw [pair_eq (List.Perm.cons_inv hp) h1'.2 h2'.2]

/-- A row in order is a list that ascends just if it has as many and all of these. -/
theorem sort_eq {row ws : List Int} (hw : ws.Pairwise (· < ·)) : (row.mergeSort fun a b => decide (a ≤ b)) = ws ↔ ws.length = row.length ∧ ∀ x, x ∈ ws → x ∈ row := by
  constructor
  · intro h
    subst h
    exact ⟨by simp, fun x hx => by simpa using hx⟩
  · rintro ⟨h1, h2⟩
    have hp := perm_of_sub (nodup_of_lt hw) h2 (by omega)
    refine pair_eq ((List.mergeSort_perm row _).trans hp.symm) ?_ hw
    have := List.pairwise_mergeSort (le := fun (a b : Int) => decide (a ≤ b)) (fun a b c h1 h2 => by simp at h1 h2 ⊢; omega) (fun a b => by simp; omega) row
    exact this.imp fun h => by simpa using h

/-! ### Chains -/
section
variable (f : Nat → Sum Int Nat)
def chn : Nat → Nat → Option Int
  | 0, _ => none
  | m + 1, a => match f a with | .inl v => some v | .inr b => chn m b
theorem chn_mono : ∀ {m a : Nat} {v : Int}, chn f m a = some v → ∀ k, chn f (m + k) a = some v
  | 0, a, v, h, k => by cases h
  | m + 1, a, v, h, k => by
    rw [show m + 1 + k = (m + k) + 1 by omega]
    unfold chn at h ⊢
    cases hf : f a with
    | inl w => rw [hf] at h; exact h
    | inr b => rw [hf] at h; exact chn_mono h k
theorem chn_path {n : Nat} (hf : ∀ a, a < n → ∀ b, f a = .inr b → b < n) : ∀ (m a : Nat) (v : Int), a < n → chn f (m + 1) a = some v → chn f m a = none →
    ∃ l : List Nat, l.length = m + 1 ∧ l.Nodup ∧ (∀ p, p ∈ l → p < n ∧ chn f (m + 1) p ≠ none) ∧ ∀ p, p ∈ l → p = a ∨ chn f m p ≠ none
  | 0, a, v, ha, h, h0 => ⟨[a], rfl, by simp, fun p hp => by
      have : p = a := by simpa using hp
      subst this
      exact ⟨ha, by rw [h]; simp⟩, fun p hp => .inl (by simpa using hp)⟩
  | m + 1, a, v, ha, h, h0 => by
    have h' := h
    have h0' := h0
    rw [chn] at h' h0'
    cases hfa : f a with
    | inl w => rw [hfa] at h0'; cases h0'
    | inr b =>
      rw [hfa] at h' h0'
      obtain ⟨l, l1, l2, l3, l4⟩ := chn_path hf m b v (hf a ha b hfa) h' h0'
      have hnot : a ∉ l := fun hm => (l3 a hm).2 h0
      have hup : ∀ p, chn f (m + 1) p ≠ none → chn f (m + 1 + 1) p ≠ none := by
        intro p hp hn
        cases hc : chn f (m + 1) p with
        | none => exact hp hc
        | some w => rw [chn_mono f hc 1] at hn; cases hn
      refine ⟨a :: l, by simp [l1], List.nodup_cons.mpr ⟨hnot, l2⟩, fun p hp => ?_, fun p hp => ?_⟩
      · rcases List.mem_cons.mp hp with rfl | hp
        · exact ⟨ha, by rw [h]; simp⟩
        · exact ⟨(l3 p hp).1, hup p (l3 p hp).2⟩
      · rcases List.mem_cons.mp hp with rfl | hp
        · exact .inl rfl
        · exact .inr (l3 p hp).2
/-- What ends at all ends in as many steps as there are places. -/
theorem chn_any {n : Nat} (hf : ∀ a, a < n → ∀ b, f a = .inr b → b < n) : ∀ {m a : Nat} {v : Int}, a < n → chn f m a = some v → chn f n a = some v
  | 0, a, v, ha, h => by cases h
  | m + 1, a, v, ha, h => by
    cases h0 : chn f m a with
    | some w =>
      have := chn_mono f h0 1
      rw [h] at this
      injection this with this
      subst this
      exact chn_any hf ha h0
    | none =>
      obtain ⟨l, l1, l2, l3, _⟩ := chn_path f hf m a v ha h h0
      have := len_le_of_sub (l2 := List.range n) l2 fun p hp => List.mem_range.mpr (l3 p hp).1
      simp only [List.length_range] at this
      have := chn_mono f h (n - (m + 1))
      rwa [show m + 1 + (n - (m + 1)) = n by omega] at this
end
end Go.Proofs.Ytdacfaincamliaa.Ev
