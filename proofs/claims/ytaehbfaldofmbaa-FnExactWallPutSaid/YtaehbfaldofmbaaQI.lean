/- What the printed functions about numbers come to. Conditions: none. -/
import Derived.Test.YtaehbfaldofmbaaGI
import Derived.Test.YtaehbfaldofmbaaQK
namespace Go.Proofs.Ytaehbfaldofmbaa.Ev
open Go
theorem L65_eq (n : Nat) (xs : List Int) (hx : xs.length ≤ 9223372036854775806) : ∀ (k m i : Nat) (ys : List Int), i + k = xs.length → k < m → ys.length = xs.length → ys.take i = xs.take i → L65_0 n m xs ys (i : Int) = some (.inl (xs, ()))
  | 0, m + 1, i, ys, hi, hm, hl, ht => by
    have : i = xs.length := by omega
    subst this
    unfold L65_0
    rw [List.take_length, List.take_of_length_le (by omega)] at ht
    simp [ht]
  | k + 1, m + 1, i, ys, hi, hm, hl, ht => by
    have hlt : i < xs.length := by omega
    unfold L65_0
    simp only [lt_ii, le_0i, hlt, hl, Int.toNat_natCast, if_true, decide_true, cond_true]
    rw [w64s (k := k) (by omega)]
    exact L65_eq n xs hx k m (i + 1) _ (by omega) (by omega) (by simp [hl]) (take_set xs ys i _ hlt hl ht)
theorem F65_eq (n : Nat) (xs : List Int) (h : xs.length ≤ 1048576) (hn : 1048576 < n) : F65 n xs = some (xs, ()) := by
  unfold F65
  rw [if_pos rfl, if_pos (by simp; omega), show ((0 : Int)) = ((0 : Nat) : Int) from rfl, L65_eq n xs (by omega) xs.length n 0 _ (by omega) (by omega) (by simp) (by simp)]

theorem L66_eq (n : Nat) (xs ys : List Int) (hx : xs.length ≤ 9223372036854775806) (hl : ys.length = xs.length) : ∀ (k m i : Nat), i + k = xs.length → k < m →
    L66_0 n m xs ys (i : Int) = some (if xs.drop i = ys.drop i then .inr (.inl ()) else .inl (false, ()))
  | 0, m + 1, i, hi, hm => by
    have : i = xs.length := by omega
    subst this
    unfold L66_0
    simp [← hl]
  | k + 1, m + 1, i, hi, hm => by
    have hlt : i < xs.length := by omega
    have hlt2 : i < ys.length := by omega
    unfold L66_0
    simp only [lt_ii, le_0i, hlt, hlt2, Int.toNat_natCast, if_true, decide_true, cond_true]
    rw [w64s (k := k) (by omega), L66_eq n xs ys hx hl k m (i + 1) (by omega) (by omega), getD_drop xs i 0 hlt, getD_drop ys i 0 hlt2]
    by_cases h : xs.getD i 0 = ys.getD i 0
    · simp only [h, bne_self_eq_false, cond_false, List.cons.injEq, true_and]
    · rw [show (xs.getD i 0 != ys.getD i 0) = true by simpa using h]
      simp only [h, cond_true, List.cons.injEq, false_and, if_false]
theorem F66_eq (n : Nat) (xs ys : List Int) (hx : xs.length ≤ 1048576) (hn : 1048576 < n) : F66 n xs ys = some (decide (xs = ys), ()) := by
  unfold F66
  by_cases hl : ys.length = xs.length
  · rw [show ((xs.length : Int) != (ys.length : Int)) = false by simp [hl], cond_false, show ((0 : Int)) = ((0 : Nat) : Int) from rfl, L66_eq n xs ys (by omega) hl xs.length n 0 (by omega) (by omega)]
    by_cases h : xs = ys <;> simp [h]
  · rw [show ((xs.length : Int) != (ys.length : Int)) = true by simp; omega, cond_true]
    have : xs ≠ ys := fun h => hl (by rw [h])
    simp [this]

theorem L67_eq (n : Nat) : ∀ (l m i : Nat) (k : Int) (xs : List Int), xs.length ≤ 1048576 → i + l = xs.length → l < m → 0 ≤ k → k + l ≤ 9223372036854775807 →
    ∃ ys, L67_0 n m xs k (i : Int) = some (.inl (ys, k + l, ()))
  | 0, m + 1, i, k, xs, hx, hi, hm, h0, h1 => by
    unfold L67_0
    rw [show decide ((i : Int) < (xs.length : Int)) = false from decide_eq_false (by omega), cond_false]
    exact ⟨xs, by simp⟩
  | l + 1, m + 1, i, k, xs, hx, hi, hm, h0, h1 => by
    have hlt : i < xs.length := by omega
    have w1 : IntKind.i64.wrap (k + 1) = k + 1 := w64 (by omega) (by omega)
    unfold L67_0
    simp only [lt_ii, le_0i, hlt, Int.toNat_natCast, if_true, decide_true, cond_true, w1]
    rw [w64s (i := i) (k := l) (by omega)]
    obtain ⟨ys, e⟩ := L67_eq n l m (i + 1) (k + 1) (xs.set i k) (by simp; omega) (by simp; omega) (by omega) (by omega) (by omega)
    refine ⟨ys, ?_⟩
    rw [e, show k + 1 + (l : Int) = k + ((l + 1 : Nat) : Int) by push_cast; omega]
theorem F67_eq (n : Nat) (xs : List Int) (k : Int) (hn : 1048576 < n) (hx : xs.length ≤ 1048576) (h0 : 0 ≤ k) (h1 : k + 1048576 ≤ 9223372036854775807) : ∃ ys, F67 n xs k = some (k + xs.length, ys, ()) := by
  obtain ⟨ys, e⟩ := L67_eq n xs.length n 0 k xs hx (by omega) (by omega) h0 (by omega)
  have e : L67_0 n n xs k (0 : Int) = _ := e
  unfold F67
  rw [e]
  exact ⟨ys, rfl⟩
end Go.Proofs.Ytaehbfaldofmbaa.Ev
