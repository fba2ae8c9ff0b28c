/- What the printed functions about executions' sizes and copies come to. Conditions: none. -/
import Derived.Test.YtdacfaincamliaaGX
import Derived.Test.YtdacfaincamliaaQX0
namespace Go.Proofs.Ytdacfaincamliaa.Ev
open Go

theorem F63_eq (n : Nat) (xs : List Int) (l : Int) (h0 : 0 ≤ l) (h1 : l ≤ 1048576) (hx : xs.length ≤ 9223372036854775807) : F63 n xs l = some (if l - xs.length < 0 then -1 else l - xs.length, ()) := by
  unfold F63
  rw [w64 (by omega) (by omega)]
  by_cases h : l - (xs.length : Int) < 0 <;> simp [h]

theorem L64_eq (n : Nat) (xs : List (List Int)) (hg : ∀ t ∈ xs, t.length ≤ 9223372036854775807) (hx : xs.length ≤ 1048576) : ∀ (k m i : Nat) (l : Int), i + k = xs.length → k < m → 0 ≤ l → l ≤ 1048576 →
    (∃ r, L64_0 n m xs l (i : Int) = some (.inl (r, ())) ∧ r < 0) ∨ ∃ r, L64_0 n m xs l (i : Int) = some (.inr (.inl (r, ()))) ∧ 0 ≤ r ∧ ∀ t ∈ xs.drop i, t.length ≤ 1048576
  | 0, m + 1, i, l, hi, hm, h0, h1 => by
    have : i = xs.length := by omega
    subst this
    right
    refine ⟨l, ?_, h0, by simp⟩
    unfold L64_0
    simp
  | k + 1, m + 1, i, l, hi, hm, h0, h1 => by
    have hlt : i < xs.length := by omega
    unfold L64_0
    simp only [lt_ii, le_0i, hlt, Int.toNat_natCast, if_true, decide_true, cond_true]
    rw [F63_eq n _ l h0 h1 (hg _ (getD_mem xs i _ hlt)), Option.bind_some, w64s (k := k) (by omega)]
    by_cases hneg : l - (xs.getD i []).length < 0
    · left
      refine ⟨-1, ?_, show (-1 : Int) < 0 by decide⟩
      simp only [if_pos hneg]
      rfl
    · simp only [if_neg hneg]
      rw [show decide (l - ((xs.getD i []).length : Int) < 0) = false by simpa using hneg, cond_false]
      rcases L64_eq n xs hg hx k m (i + 1) (l - (xs.getD i []).length) (by omega) (by omega) (by omega) (by omega) with ⟨r, h2, h3⟩ | ⟨r, h2, h3, h4⟩
      · exact .inl ⟨r, h2, h3⟩
      · refine .inr ⟨r, h2, h3, fun t ht => ?_⟩
        rw [getD_drop xs i [] hlt] at ht
        rcases List.mem_cons.mp ht with rfl | ht
        · omega
        · exact h4 t ht

theorem F28_eq (n : Nat) (hn : 1048576 < n) (x : Xn) (l : Int) (h0 : 0 ≤ l) (h1 : l ≤ 1048576) (hx : x.1.length ≤ 9223372036854775807) (hy : x.2.length ≤ 9223372036854775807) (hg : ∀ t ∈ x.2, t.length ≤ 9223372036854775807) : ∃ r : Int, F28 n x l = some (r, ()) ∧ (r < 0 ∨ x.1.length ≤ 1048576 ∧ SmallI x.2) := by
  unfold F28
  rw [F63_eq n x.1 l h0 h1 hx, Option.bind_some]
  by_cases hneg : l - (x.1.length : Int) < 0
  · simp only [if_pos hneg]
    exact ⟨-1, rfl, .inl (by decide)⟩
  · simp only [if_neg hneg]
    rw [show decide (l - (x.1.length : Int) < 0) = false by simpa using hneg, cond_false]
    unfold F64
    rw [w64 (by omega) (by omega)]
    by_cases h : (l - (x.1.length : Int)) - (x.2.length : Int) < 0
    · rw [show decide ((l - (x.1.length : Int)) - (x.2.length : Int) < 0) = true by simpa using h, cond_true]
      exact ⟨-1, rfl, .inl (by decide)⟩
    · rw [show decide ((l - (x.1.length : Int)) - (x.2.length : Int) < 0) = false by simpa using h, cond_false]
      rcases L64_eq n x.2 hg (by omega) x.2.length n 0 ((l - (x.1.length : Int)) - (x.2.length : Int)) (by omega) (by omega) (by omega) (by omega) with ⟨r, h2, h3⟩ | ⟨r, h2, h3, h4⟩
      · rw [show ((0 : Int)) = ((0 : Nat) : Int) from rfl, h2]
        simp only [Option.bind_some]
        exact ⟨-1, by rw [show decide (r < ((0 : Nat) : Int)) = true by simpa using h3]; rfl, .inl (by decide)⟩
      · rw [show ((0 : Int)) = ((0 : Nat) : Int) from rfl, h2]
        simp only [Option.bind_some]
        exact ⟨r, by rw [show decide (r < ((0 : Nat) : Int)) = false by simpa using h3]; rfl, .inr ⟨by omega, by omega, by simpa using h4⟩⟩

theorem L17_eq (n : Nat) (xs : List Int) (hx : xs.length ≤ 9223372036854775806) : ∀ (k m i : Nat) (ys : List Int), i + k = xs.length → k < m → ys.length = xs.length → ys.take i = xs.take i → L17_0 n m xs ys (i : Int) = some (.inl (xs, ()))
  | 0, m + 1, i, ys, hi, hm, hl, ht => by
    have : i = xs.length := by omega
    subst this
    unfold L17_0
    rw [List.take_length, List.take_of_length_le (by omega)] at ht
    simp [ht]
  | k + 1, m + 1, i, ys, hi, hm, hl, ht => by
    have hlt : i < xs.length := by omega
    unfold L17_0
    simp only [lt_ii, le_0i, hlt, hl, Int.toNat_natCast, if_true, decide_true, cond_true]
    rw [w64s (k := k) (by omega)]
    exact L17_eq n xs hx k m (i + 1) _ (by omega) (by omega) (by simp [hl]) (take_set xs ys i _ hlt hl ht)
theorem F17_eq (n : Nat) (xs : List Int) (h : xs.length ≤ 1048576) (hn : 1048576 < n) : F17 n xs = some (xs, ()) := by
  unfold F17
  rw [if_pos rfl, if_pos (by simp; omega), show L17_0 n n xs (List.replicate (xs.length : Int).toNat (0 : Int)) (0 : Int) = _ from L17_eq n xs (by omega) xs.length n 0 _ (by omega) (by omega) (by simp) (by simp)]

theorem L68_eq (n : Nat) (hn : 1048576 < n) (xs : List (List Int)) (hx : SmallI xs) : ∀ (k m i : Nat) (ys : List (List Int)), i + k = xs.length → k < m → ys.length = xs.length → ys.take i = xs.take i → L68_0 n m xs ys (i : Int) = some (.inl (xs, ()))
  | 0, m + 1, i, ys, hi, hm, hl, ht => by
    have : i = xs.length := by omega
    subst this
    unfold L68_0
    rw [List.take_length, List.take_of_length_le (by omega)] at ht
    simp [ht]
  | k + 1, m + 1, i, ys, hi, hm, hl, ht => by
    have hlt : i < xs.length := by omega
    have h1 := hx.1
    unfold L68_0
    simp only [lt_ii, le_0i, hlt, hl, Int.toNat_natCast, if_true, decide_true, cond_true]
    rw [F17_eq n _ (hx.2 _ (getD_mem xs i _ hlt)) hn, Option.bind_some, w64s (k := k) (by omega), if_pos (by rw [List.length_take]; omega), take_put _ (by omega)]
    exact L68_eq n hn xs hx k m (i + 1) _ (by omega) (by omega) (by simp [hl]) (take_set xs ys i _ hlt hl ht)
theorem F68_eq (n : Nat) (hn : 1048576 < n) (xs : List (List Int)) (h : SmallI xs) : F68 n xs = some (xs, ()) := by
  have h1 := h.1
  unfold F68
  rw [if_pos rfl, if_pos (by simp; omega), show L68_0 n n xs (List.replicate (xs.length : Int).toNat ([] : List Int)) (0 : Int) = _ from L68_eq n hn xs h xs.length n 0 _ (by omega) (by omega) (by simp) (by simp)]
theorem F30_eq (n : Nat) (hn : 1048576 < n) (x : Xn) (h : x.1.length ≤ 1048576) (h2 : SmallI x.2) : F30 n x = some (x, ()) := by
  unfold F30
  rw [F17_eq n x.1 h hn, Option.bind_some, F68_eq n hn x.2 h2]; rfl

theorem L21_eq (n : Nat) (xs : List Int) (hx : xs.length ≤ 9223372036854775806) : ∀ (k m i : Nat), i + k = xs.length → k < m → L21_0 n m xs xs (i : Int) = some (.inr (.inl ()))
  | 0, m + 1, i, hi, hm => by
    have : i = xs.length := by omega
    subst this
    unfold L21_0
    simp
  | k + 1, m + 1, i, hi, hm => by
    have hlt : i < xs.length := by omega
    unfold L21_0
    simp only [lt_ii, le_0i, hlt, Int.toNat_natCast, if_true, decide_true, cond_true, bne_int, Bool.not_true, cond_false]
    rw [w64s (k := k) (by omega), L21_eq n xs hx k m (i + 1) (by omega) (by omega)]
theorem F21_eq (n : Nat) (xs : List Int) (h : xs.length ≤ 1048576) (hn : 1048576 < n) : F21 n xs xs = some (true, ()) := by
  unfold F21
  rw [bne_int, decide_eq_true rfl, Bool.not_true, cond_false, show L21_0 n n xs xs (0 : Int) = _ from L21_eq n xs (by omega) xs.length n 0 (by omega) (by omega)]
theorem L72_eq (n : Nat) (hn : 1048576 < n) (xs : List (List Int)) (hx : SmallI xs) : ∀ (k m i : Nat), i + k = xs.length → k < m → L72_0 n m xs xs (i : Int) = some (.inr (.inl ()))
  | 0, m + 1, i, hi, hm => by
    have : i = xs.length := by omega
    subst this
    unfold L72_0
    simp
  | k + 1, m + 1, i, hi, hm => by
    have hlt : i < xs.length := by omega
    have h1 := hx.1
    unfold L72_0
    simp only [lt_ii, le_0i, hlt, Int.toNat_natCast, if_true, decide_true, cond_true]
    rw [F21_eq n _ (hx.2 _ (getD_mem xs i _ hlt)) hn, Option.bind_some, w64s (k := k) (by omega), L72_eq n hn xs hx k m (i + 1) (by omega) (by omega)]
    rfl
theorem F32_eq (n : Nat) (hn : 1048576 < n) (x : Xn) (h : x.1.length ≤ 1048576) (h2 : SmallI x.2) : F32 n x x = some (true, ()) := by
  have h1 := h2.1
  unfold F32 F72
  rw [F21_eq n x.1 h hn, Option.bind_some, bne_int, decide_eq_true rfl, Bool.not_true, cond_false, cond_false, show L72_0 n n x.2 x.2 (0 : Int) = _ from L72_eq n hn x.2 h2 x.2.length n 0 (by omega) (by omega)]
  rfl
end Go.Proofs.Ytdacfaincamliaa.Ev
