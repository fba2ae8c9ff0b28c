/- Laws of comparing what was seen. Conditions: none. -/
import Derived.Test.YtaehbfaldofmbaaQB
namespace Go.Proofs.Ytaehbfaldofmbaa.Ev
open Go
theorem cmpL_swap : ∀ a b : List Int, cmpL b a = -cmpL a b
  | [], [] => rfl
  | [], _ :: _ => rfl
  | _ :: _, [] => rfl
  | x :: a, y :: b => by
    have := cmpL_swap a b
    simp only [cmpL]
    by_cases h1 : x < y
    · simp [h1, show ¬ y < x by omega]
    · by_cases h2 : y < x
      · simp [h1, h2]
      · simp [h1, h2, this]
theorem cmpL_zero : ∀ a b : List Int, cmpL a b = 0 ↔ a = b
  | [], [] => by simp [cmpL]
  | [], _ :: _ => by simp [cmpL]
  | _ :: _, [] => by simp [cmpL]
  | x :: a, y :: b => by
    have := cmpL_zero a b
    simp only [cmpL]
    by_cases h1 : x < y
    · simp only [h1, if_true]
      constructor
      · intro h; cases h
      · intro h; injection h with h _; omega
    · by_cases h2 : y < x
      · simp only [h1, if_false, show x > y from h2, if_true]
        constructor
        · intro h; cases h
        · intro h; injection h with h _; omega
      · have : x = y := by omega
        subst this
        simp [this, *]
theorem cmpL_trans : ∀ a b c : List Int, cmpL a b < 0 → cmpL b c < 0 → cmpL a c < 0
  | [], [], c, h, _ => by simp [cmpL] at h
  | [], _ :: _, [], _, h => by simp [cmpL] at h
  | [], _ :: _, _ :: _, _, _ => by simp [cmpL]
  | _ :: _, [], _, h, _ => by simp [cmpL] at h
  | _ :: _, _ :: _, [], _, h => by simp [cmpL] at h
  | x :: a, y :: b, z :: c, h1, h2 => by
    have ih := cmpL_trans a b c
    simp only [cmpL] at h1 h2 ⊢
    by_cases e1 : x < y
    · by_cases e2 : y < z
      · simp [show x < z by omega]
      · by_cases e3 : z < y
        · simp [e2, e3] at h2
        · simp [show x < z by omega]
    · by_cases e2 : y < x
      · simp [e1, e2] at h1
      · have : x = y := by omega
        subst this
        by_cases e3 : x < z
        · simp [e3]
        · by_cases e4 : z < x
          · simp [e3, e4] at h2
          · simp only [e1, if_false, show ¬ (x > x) by omega] at h1
            simp only [e3, if_false, show ¬ (x > z) from e4] at h2 ⊢
            exact ih h1 h2

theorem cmpS_zero (a b : Sn) : cmpS a b = 0 ↔ a = b := by
  unfold cmpS
  have h1 := cmpL_zero a.1 b.1
  have h2 := cmpL_zero a.2 b.2
  by_cases h : cmpL a.1 b.1 = 0
  · simp only [h, ne_eq, not_true_eq_false, if_false, h2]
    exact ⟨fun e => Prod.ext (h1.mp h) e, fun e => by rw [e]⟩
  · simp only [ne_eq, h, not_false_eq_true, if_true, false_iff]
    intro e; exact h (h1.mpr (by rw [e]))
theorem cmpS_swap (a b : Sn) : cmpS b a = -cmpS a b := by
  unfold cmpS
  rw [cmpL_swap a.1 b.1, cmpL_swap a.2 b.2]
  by_cases h : cmpL a.1 b.1 = 0
  · simp [h]
  · have : -cmpL a.1 b.1 ≠ 0 := by omega
    simp [h, this]
theorem cmpS_trans (a b c : Sn) (h1 : cmpS a b < 0) (h2 : cmpS b c < 0) : cmpS a c < 0 := by
  unfold cmpS at *
  by_cases e1 : cmpL a.1 b.1 = 0
  · have := (cmpL_zero _ _).mp e1
    rw [this]
    simp only [e1, ne_eq, not_true_eq_false, if_false] at h1
    by_cases e2 : cmpL b.1 c.1 = 0
    · simp only [e2, ne_eq, not_true_eq_false, if_false] at h2 ⊢
      exact cmpL_trans _ _ _ h1 h2
    · simp only [ne_eq, e2, not_false_eq_true, if_true] at h2 ⊢
      exact h2
  · simp only [ne_eq, e1, not_false_eq_true, if_true] at h1
    by_cases e2 : cmpL b.1 c.1 = 0
    · have := (cmpL_zero _ _).mp e2
      rw [← this]
      simp only [ne_eq, e1, not_false_eq_true, if_true]
      exact h1
    · simp only [ne_eq, e2, not_false_eq_true, if_true] at h2
      have := cmpL_trans _ _ _ h1 h2
      rw [if_pos (by omega)]
      exact this
end Go.Proofs.Ytaehbfaldofmbaa.Ev
