/- What the printed functions of ProgOk come to. Conditions: none. -/
import Derived.Test.YtdacfaincamliaaGT
import Derived.Test.YtdacfaincamliaaQA
namespace Go.Proofs.Ytdacfaincamliaa.Ev
open Go
theorem F129_eq (n : Nat) (a : D3) : F129 n a = some (a, ()) := rfl

theorem L97_eq (n : Nat) (xs : List D3) (hx : xs.length ≤ 9223372036854775806) : ∀ (k m i : Nat) (ys : List D3), i + k = xs.length → k < m → ys.length = xs.length → ys.take i = xs.take i → L97_0 n m xs ys (i : Int) = some (.inl (xs, ()))
  | 0, m + 1, i, ys, hi, hm, hl, ht => by
    have : i = xs.length := by omega
    subst this
    unfold L97_0
    rw [List.take_length, List.take_of_length_le (by omega)] at ht
    simp [ht]
  | k + 1, m + 1, i, ys, hi, hm, hl, ht => by
    have hlt : i < xs.length := by omega
    unfold L97_0
    simp only [lt_ii, le_0i, hlt, hl, Int.toNat_natCast, if_true, decide_true, cond_true, F129_eq, Option.bind_some]
    rw [w64s (k := k) (by omega)]
    exact L97_eq n xs hx k m (i + 1) _ (by omega) (by omega) (by simp [hl]) (take_set xs ys i _ hlt hl ht)

theorem F97_eq (n : Nat) (xs : List D3) (h : xs.length ≤ 1048576) (hn : 1048576 < n) : F97 n xs = some (xs, ()) := by
  unfold F97
  rw [if_pos rfl, if_pos (by simp; omega), show ((0 : Int)) = ((0 : Nat) : Int) from rfl, L97_eq n xs (by omega) xs.length n 0 _ (by omega) (by omega) (by simp) (by simp)]


/-- Sizes small enough. -/
def Small2 (xs : List (List D3)) : Prop := xs.length ≤ 1048576 ∧ ∀ t ∈ xs, t.length ≤ 1048576

theorem L57_eq (n : Nat) (hn : 1048576 < n) (xs : List (List D3)) (hx : Small2 xs) : ∀ (k m i : Nat) (ys : List (List D3)), i + k = xs.length → k < m → ys.length = xs.length → ys.take i = xs.take i → L57_0 n m xs ys (i : Int) = some (.inl (xs, ()))
  | 0, m + 1, i, ys, hi, hm, hl, ht => by
    have : i = xs.length := by omega
    subst this
    unfold L57_0
    rw [List.take_length, List.take_of_length_le (by omega)] at ht
    simp [ht]
  | k + 1, m + 1, i, ys, hi, hm, hl, ht => by
    have hlt : i < xs.length := by omega
    have h1 := hx.1
    unfold L57_0
    simp only [lt_ii, le_0i, hlt, hl, Int.toNat_natCast, if_true, decide_true, cond_true]
    rw [F97_eq n _ (hx.2 _ (getD_mem xs i _ hlt)) hn, Option.bind_some, w64s (k := k) (by omega), if_pos (by rw [List.length_take]; omega), take_put _ (by omega)]
    exact L57_eq n hn xs hx k m (i + 1) _ (by omega) (by omega) (by simp [hl]) (take_set xs ys i _ hlt hl ht)

theorem F57_eq (n : Nat) (hn : 1048576 < n) (xs : List (List D3)) (h : Small2 xs) : F57 n xs = some (xs, ()) := by
  have h1 := h.1
  unfold F57
  rw [if_pos rfl, if_pos (by simp; omega), show ((0 : Int)) = ((0 : Nat) : Int) from rfl, L57_eq n hn xs h xs.length n 0 _ (by omega) (by omega) (by simp) (by simp)]
theorem F16_eq (n : Nat) (hn : 1048576 < n) (xs : List (List D3)) (h : Small2 xs) : F16 n xs = some (xs, ()) := by
  unfold F16
  rw [F57_eq n hn xs h]; rfl

theorem F92_eq (n : Nat) (xs : List D3) (l : Int) (h0 : 0 ≤ l) (h1 : l ≤ 1048576) (hx : xs.length ≤ 9223372036854775807) : F92 n xs l = some (if l - xs.length < 0 then -1 else l - xs.length, ()) := by
  unfold F92
  rw [w64 (by omega) (by omega)]
  by_cases h : l - (xs.length : Int) < 0 <;> simp [h]

theorem L52_eq (n : Nat) (xs : List (List D3)) (hg : ∀ t ∈ xs, t.length ≤ 9223372036854775807) (hx : xs.length ≤ 1048576) : ∀ (k m i : Nat) (l : Int), i + k = xs.length → k < m → 0 ≤ l → l ≤ 1048576 →
    (∃ r, L52_0 n m xs l (i : Int) = some (.inl (r, ())) ∧ r < 0) ∨ ∃ r, L52_0 n m xs l (i : Int) = some (.inr (.inl (r, ()))) ∧ 0 ≤ r ∧ ∀ t ∈ xs.drop i, t.length ≤ 1048576
  | 0, m + 1, i, l, hi, hm, h0, h1 => by
    have : i = xs.length := by omega
    subst this
    right
    refine ⟨l, ?_, h0, by simp⟩
    unfold L52_0
    simp
  | k + 1, m + 1, i, l, hi, hm, h0, h1 => by
    have hlt : i < xs.length := by omega
    unfold L52_0
    simp only [lt_ii, le_0i, hlt, Int.toNat_natCast, if_true, decide_true, cond_true]
    rw [F92_eq n _ l h0 h1 (hg _ (getD_mem xs i _ hlt)), Option.bind_some, w64s (k := k) (by omega)]
    by_cases hneg : l - (xs.getD i []).length < 0
    · left
      refine ⟨-1, ?_, show (-1 : Int) < 0 by decide⟩
      simp only [show (Ty.rs (154 : Go.TypeId) ((Ty.int Go.IntKind.i64).pair ((Ty.int Go.IntKind.i64).pair (Ty.int Go.IntKind.i64)))).dflt = ([] : List D3) from rfl, if_pos hneg]
      rfl
    · simp only [show (Ty.rs (154 : Go.TypeId) ((Ty.int Go.IntKind.i64).pair ((Ty.int Go.IntKind.i64).pair (Ty.int Go.IntKind.i64)))).dflt = ([] : List D3) from rfl, if_neg hneg]
      rw [show decide (l - ((xs.getD i []).length : Int) < 0) = false by simpa using hneg, cond_false]
      rcases L52_eq n xs hg hx k m (i + 1) (l - (xs.getD i []).length) (by omega) (by omega) (by omega) (by omega) with ⟨r, h2, h3⟩ | ⟨r, h2, h3, h4⟩
      · exact .inl ⟨r, h2, h3⟩
      · refine .inr ⟨r, h2, h3, fun t ht => ?_⟩
        rw [getD_drop xs i [] hlt] at ht
        rcases List.mem_cons.mp ht with rfl | ht
        · omega
        · exact h4 t ht

theorem F14_eq (n : Nat) (hn : 1048576 < n) (xs : List (List D3)) (hx : xs.length ≤ 9223372036854775807) (hg : ∀ t ∈ xs, t.length ≤ 9223372036854775807) : ∃ r : Int, F14 n xs 1048576 = some (r, ()) ∧ (r < 0 ∨ Small2 xs) := by
  unfold F14 F52
  rw [w64 (by omega) (by omega)]
  by_cases h : (1048576 : Int) - xs.length < 0
  · simp only [h, decide_true, cond_true, Option.bind_some]
    exact ⟨-1, rfl, .inl (by omega)⟩
  · simp only [h, decide_false, cond_false]
    rcases L52_eq n xs hg (by omega) xs.length n 0 (1048576 - xs.length) (by omega) (by omega) (by omega) (by omega) with ⟨r, h2, h3⟩ | ⟨r, h2, h3, h4⟩
    · rw [show ((0 : Int)) = ((0 : Nat) : Int) from rfl, h2]
      simp only [Option.bind_some]
      exact ⟨-1, by rw [show decide (r < ((0 : Nat) : Int)) = true by simpa using h3]; rfl, .inl (by omega)⟩
    · rw [show ((0 : Int)) = ((0 : Nat) : Int) from rfl, h2]
      simp only [Option.bind_some]
      exact ⟨r, by rw [show decide (r < ((0 : Nat) : Int)) = false by simpa using h3]; rfl, .inr ⟨by omega, by simpa using h4⟩⟩

theorem F132_eq (n : Nat) (a b : D3) : F132 n a b = some (decide (a = b), ()) := by
  obtain ⟨a1, a2, a3⟩ := a
  obtain ⟨b1, b2, b3⟩ := b
  unfold F132
  simp only [Prod.mk.injEq, bne_int]
  by_cases h1 : a1 = b1 <;> by_cases h2 : a2 = b2 <;> by_cases h3 : a3 = b3 <;> simp [h1, h2, h3]

theorem L102_eq (n : Nat) (xs ys : List D3) (hx : xs.length ≤ 9223372036854775806) (hl : ys.length = xs.length) : ∀ (k m i : Nat), i + k = xs.length → k < m →
    L102_0 n m xs ys (i : Int) = some (if xs.drop i = ys.drop i then .inr (.inl ()) else .inl (false, ()))
  | 0, m + 1, i, hi, hm => by
    have : i = xs.length := by omega
    subst this
    unfold L102_0
    simp [← hl]
  | k + 1, m + 1, i, hi, hm => by
    have hlt : i < xs.length := by omega
    have hlt2 : i < ys.length := by omega
    unfold L102_0
    simp only [lt_ii, le_0i, hlt, hlt2, Int.toNat_natCast, if_true, decide_true, cond_true, F132_eq, Option.bind_some]
    rw [w64s (k := k) (by omega), L102_eq n xs ys hx hl k m (i + 1) (by omega) (by omega), getD_drop xs i (0, 0, 0) hlt, getD_drop ys i (0, 0, 0) hlt2]
    by_cases h : xs.getD i ((0 : Int), (0 : Int), (0 : Int)) = ys.getD i ((0 : Int), (0 : Int), (0 : Int)) <;> simp only [h, eta3, decide_true, decide_false, Bool.not_true, Bool.not_false, cond_true, cond_false, List.cons.injEq, true_and, false_and, if_false]

theorem F102_eq (n : Nat) (xs ys : List D3) (hx : xs.length ≤ 1048576) (hn : 1048576 < n) : F102 n xs ys = some (decide (xs = ys), ()) := by
  unfold F102
  by_cases hl : ys.length = xs.length
  · rw [show ((xs.length : Int) != (ys.length : Int)) = false by simp [hl], cond_false, show ((0 : Int)) = ((0 : Nat) : Int) from rfl, L102_eq n xs ys (by omega) hl xs.length n 0 (by omega) (by omega)]
    by_cases h : xs = ys <;> simp [h]
  · rw [show ((xs.length : Int) != (ys.length : Int)) = true by simp; omega, cond_true]
    have : xs ≠ ys := fun h => hl (by rw [h])
    simp [this]

theorem L59_eq (n : Nat) (hn : 1048576 < n) (xs ys : List (List D3)) (hx : Small2 xs) (hl : ys.length = xs.length) : ∀ (k m i : Nat), i + k = xs.length → k < m →
    L59_0 n m xs ys (i : Int) = some (if xs.drop i = ys.drop i then .inr (.inl ()) else .inl (false, ()))
  | 0, m + 1, i, hi, hm => by
    have : i = xs.length := by omega
    subst this
    unfold L59_0
    simp [← hl]
  | k + 1, m + 1, i, hi, hm => by
    have hlt : i < xs.length := by omega
    have hlt2 : i < ys.length := by omega
    have h1 := hx.1
    unfold L59_0
    simp only [lt_ii, le_0i, hlt, hlt2, Int.toNat_natCast, if_true, decide_true, cond_true]
    rw [F102_eq n _ _ (hx.2 _ (getD_mem xs i _ hlt)) hn, Option.bind_some, w64s (k := k) (by omega), L59_eq n hn xs ys hx hl k m (i + 1) (by omega) (by omega), getD_drop xs i [] hlt, getD_drop ys i [] hlt2]
    simp only [show (Ty.rs (59 : Go.TypeId) ((Ty.int Go.IntKind.i64).pair ((Ty.int Go.IntKind.i64).pair (Ty.int Go.IntKind.i64)))).dflt = ([] : List D3) from rfl]
    by_cases h : xs.getD i [] = ys.getD i [] <;> simp only [h, decide_true, decide_false, Bool.not_true, Bool.not_false, cond_true, cond_false, List.cons.injEq, true_and, false_and, if_false]

theorem F20_eq (n : Nat) (hn : 1048576 < n) (xs ys : List (List D3)) (hx : Small2 xs) : F20 n xs ys = some (decide (xs = ys), ()) := by
  have h1 := hx.1
  have : F59 n xs ys = some (decide (xs = ys), ()) := by
    unfold F59
    by_cases hl : ys.length = xs.length
    · rw [show ((xs.length : Int) != (ys.length : Int)) = false by simp [hl], cond_false, show ((0 : Int)) = ((0 : Nat) : Int) from rfl, L59_eq n hn xs ys hx hl xs.length n 0 (by omega) (by omega)]
      by_cases h : xs = ys <;> simp [h]
    · rw [show ((xs.length : Int) != (ys.length : Int)) = true by simp; omega, cond_true]
      have : xs ≠ ys := fun h => hl (by rw [h])
      simp [this]
  unfold F20
  rw [this, Option.bind_some]
  cases decide (xs = ys) <;> rfl

end Go.Proofs.Ytdacfaincamliaa.Ev
