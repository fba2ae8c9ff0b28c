/- The law of how what was seen stands, over its plain functions. Conditions: none. -/
import Derived.Test.YtaehbfaldofmbaaG13
import Derived.Test.YtaehbfaldofmbaaQS
namespace Go.Proofs.Ytaehbfaldofmbaa.Ev
open Go

theorem L95_eq (n : Nat) (xs ys : List Int) (hx : xs.length ≤ 9223372036854775806) (hl : ys.length = xs.length) : ∀ (k m i : Nat), i + k = xs.length → k < m →
    L95_0 n m xs ys (i : Int) = some (if xs.drop i = ys.drop i then .inr (.inl ()) else .inl (false, ()))
  | 0, m + 1, i, hi, hm => by
    have : i = xs.length := by omega
    subst this
    unfold L95_0
    rw [List.drop_eq_nil_of_le (Nat.le_refl _), List.drop_eq_nil_of_le (by omega)]
    simp
  | k + 1, m + 1, i, hi, hm => by
    have hlt : i < xs.length := by omega
    unfold L95_0
    simp only [lt_ii, le_0i, hlt, hl, Int.toNat_natCast, if_true, decide_true, cond_true]
    rw [w64s (k := k) (by omega), L95_eq n xs ys hx hl k m (i + 1) (by omega) (by omega), getD_drop xs i 0 hlt, getD_drop ys i 0 (by omega), bne_int]
    by_cases h : xs.getD i 0 = ys.getD i 0
    · rw [h]
      simp
    · simp only [h, decide_false, Bool.not_false, cond_true]
      rw [if_neg (fun e => h (by injection e))]
theorem F95_eq (n : Nat) (xs ys : List Int) (hx : xs.length ≤ 1048576) (hn : 1048576 < n) : F95 n xs ys = some (decide (xs = ys), ()) := by
  unfold F95
  by_cases hl : ys.length = xs.length
  · have e := L95_eq n xs ys (by omega) hl xs.length n 0 (by omega) (by omega)
    rw [List.drop_zero, List.drop_zero] at e
    have e : L95_0 n n xs ys (0 : Int) = _ := e
    simp only [hl, bne_self_eq_false, cond_false, e]
    by_cases h : xs = ys <;> simp [h]
  · rw [show ((xs.length : Int) != (ys.length : Int)) = true by simp; omega, cond_true]
    have : xs ≠ ys := fun h => hl (by rw [h])
    simp [this]
theorem F51_eq (n : Nat) (a b : Sn) (ha : SmallS a) (hn : 1048576 < n) : F51 n a b = some (decide (a = b), ()) := by
  unfold F51
  rw [F95_eq n _ _ ha.1 hn, F95_eq n _ _ ha.2 hn]
  obtain ⟨a1, a2⟩ := a
  obtain ⟨b1, b2⟩ := b
  by_cases h1 : a1 = b1 <;> by_cases h2 : a2 = b2 <;> simp [h1, h2]

theorem pure_FnSeenOrder (xs : pdens [.c false (.v true (.rs 5 (.int .u8)))]) (hg : GoodP 0 [.c false (.v true (.rs 5 (.int .u8)))] xs) :
    ∃ n, F13 n xs.1 = some (true, ()) := by
  obtain ⟨c, _⟩ := xs
  obtain ⟨⟨h1, h2⟩, _⟩ := hg
  refine ⟨1048577, ?_⟩
  have hn : 1048576 < 1048577 := by omega
  generalize 1048577 = n at *
  unfold F13
  by_cases hc : (c.length : Int) > 1048576
  · simp only [hc, decide_true, cond_true]
  · simp only [hc, decide_false, cond_false]
    obtain ⟨s, t, k1, k2, k3⟩ := F46_ok n hn c (goodBytes (by omega) h2)
    have e1 := fun x (hx : SmallS x) y => F27_eq n x y hx hn
    have e2 := F25_eq n s t k2 hn
    have e3 := F51_eq n s t k2 hn
    have z := cmpS_zero s t
    have z2 := (cmpS_zero s s).mpr rfl
    have sw := cmpS_swap s t
    obtain ⟨s1, s2⟩ := s
    obtain ⟨t1, t2⟩ := t
    have z3 : decide (cmpS (s1, s2) (s1, s2) < 0) = false := by rw [z2]; rfl
    simp only [k1, e1 _ k2, e1 _ k3, e2, e3, Option.bind_some, beq_self_eq_true, cond_true, z3]
    by_cases a1 : cmpS (s1, s2) (t1, t2) < 0
    · have a2 : ¬ cmpS (t1, t2) (s1, s2) < 0 := by omega
      have a3 : ¬ (s1, s2) = (t1, t2) := fun h => by have := z.mpr h; omega
      rw [decide_eq_true a1, decide_eq_false a2, decide_eq_false a3]
      rfl
    · by_cases a2 : cmpS (t1, t2) (s1, s2) < 0
      · have a3 : ¬ (s1, s2) = (t1, t2) := fun h => by have := z.mpr h; omega
        rw [decide_eq_false a1, decide_eq_true a2, decide_eq_false a3]
        rfl
      · have a3 : (s1, s2) = (t1, t2) := z.mp (by omega)
        rw [decide_eq_false a1, decide_eq_false a2, decide_eq_true a3]
        rfl
end Go.Proofs.Ytaehbfaldofmbaa.Ev
