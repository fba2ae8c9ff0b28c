/- What the printed functions of ProgOk come to. Conditions: none. -/
import Derived.Test.YtaehbfaldofmbaaG5
import Derived.Test.YtaehbfaldofmbaaPL
namespace Go.Proofs.Ytaehbfaldofmbaa.Ev
open Go
abbrev D3 := Int × Int × Int

theorem bne_int (x y : Int) : (x != y) = !decide (x = y) := by by_cases h : x = y <;> simp [h]
theorem beq_int (x y : Int) : (x == y) = decide (x = y) := by by_cases h : x = y <;> simp [h]
theorem eta3 (x : D3) : (x.fst, x.snd.fst, x.snd.snd) = x := rfl
theorem F138_eq (n : Nat) (a : D3) : F138 n a = some (a, ()) := rfl

theorem L118_eq (n : Nat) (xs : List D3) (hx : xs.length ≤ 9223372036854775806) : ∀ (k m i : Nat) (ys : List D3), i + k = xs.length → k < m → ys.length = xs.length → ys.take i = xs.take i → L118_0 n m xs ys (i : Int) = some (.inl (xs, ()))
  | 0, m + 1, i, ys, hi, hm, hl, ht => by
    have : i = xs.length := by omega
    subst this
    unfold L118_0
    rw [List.take_length, List.take_of_length_le (by omega)] at ht
    simp [ht]
  | k + 1, m + 1, i, ys, hi, hm, hl, ht => by
    have hlt : i < xs.length := by omega
    unfold L118_0
    simp only [lt_ii, le_0i, hlt, hl, Int.toNat_natCast, if_true, decide_true, cond_true, F138_eq, Option.bind_some]
    rw [w64s (k := k) (by omega)]
    exact L118_eq n xs hx k m (i + 1) _ (by omega) (by omega) (by simp [hl]) (take_set xs ys i _ hlt hl ht)

theorem F118_eq (n : Nat) (xs : List D3) (h : xs.length ≤ 1048576) (hn : 1048576 < n) : F118 n xs = some (xs, ()) := by
  unfold F118
  rw [if_pos rfl, if_pos (by simp; omega), show ((0 : Int)) = ((0 : Nat) : Int) from rfl, L118_eq n xs (by omega) xs.length n 0 _ (by omega) (by omega) (by simp) (by simp)]


/-- Sizes small enough. -/
def Small2 (xs : List (List D3)) : Prop := xs.length ≤ 1048576 ∧ ∀ t ∈ xs, t.length ≤ 1048576

theorem L84_eq (n : Nat) (hn : 1048576 < n) (xs : List (List D3)) (hx : Small2 xs) : ∀ (k m i : Nat) (ys : List (List D3)), i + k = xs.length → k < m → ys.length = xs.length → ys.take i = xs.take i → L84_0 n m xs ys (i : Int) = some (.inl (xs, ()))
  | 0, m + 1, i, ys, hi, hm, hl, ht => by
    have : i = xs.length := by omega
    subst this
    unfold L84_0
    rw [List.take_length, List.take_of_length_le (by omega)] at ht
    simp [ht]
  | k + 1, m + 1, i, ys, hi, hm, hl, ht => by
    have hlt : i < xs.length := by omega
    have h1 := hx.1
    unfold L84_0
    simp only [lt_ii, le_0i, hlt, hl, Int.toNat_natCast, if_true, decide_true, cond_true]
    rw [F118_eq n _ (hx.2 _ (getD_mem xs i _ hlt)) hn, Option.bind_some, w64s (k := k) (by omega)]
    exact L84_eq n hn xs hx k m (i + 1) _ (by omega) (by omega) (by simp [hl]) (take_set xs ys i _ hlt hl ht)

theorem F84_eq (n : Nat) (hn : 1048576 < n) (xs : List (List D3)) (h : Small2 xs) : F84 n xs = some (xs, ()) := by
  have h1 := h.1
  unfold F84
  rw [if_pos rfl, if_pos (by simp; omega), show ((0 : Int)) = ((0 : Nat) : Int) from rfl, L84_eq n hn xs h xs.length n 0 _ (by omega) (by omega) (by simp) (by simp)]
theorem F36_eq (n : Nat) (hn : 1048576 < n) (xs : List (List D3)) (h : Small2 xs) : F36 n xs = some (xs, ()) := by
  unfold F36
  rw [F84_eq n hn xs h]; rfl

theorem F116_eq (n : Nat) (xs : List D3) (l : Int) (h0 : 0 ≤ l) (h1 : l ≤ 1048576) (hx : xs.length ≤ 9223372036854775807) : F116 n xs l = some (if l - xs.length < 0 then -1 else l - xs.length, ()) := by
  unfold F116
  rw [w64 (by omega) (by omega)]
  by_cases h : l - (xs.length : Int) < 0 <;> simp [h]

theorem L80_eq (n : Nat) (xs : List (List D3)) (hg : ∀ t ∈ xs, t.length ≤ 9223372036854775807) (hx : xs.length ≤ 1048576) : ∀ (k m i : Nat) (l : Int), i + k = xs.length → k < m → 0 ≤ l → l ≤ 1048576 →
    (∃ r, L80_0 n m xs l (i : Int) = some (.inl (r, ())) ∧ r < 0) ∨ ∃ r, L80_0 n m xs l (i : Int) = some (.inr (.inl (r, ()))) ∧ 0 ≤ r ∧ ∀ t ∈ xs.drop i, t.length ≤ 1048576
  | 0, m + 1, i, l, hi, hm, h0, h1 => by
    have : i = xs.length := by omega
    subst this
    right
    refine ⟨l, ?_, h0, by simp⟩
    unfold L80_0
    simp
  | k + 1, m + 1, i, l, hi, hm, h0, h1 => by
    have hlt : i < xs.length := by omega
    unfold L80_0
    simp only [lt_ii, le_0i, hlt, Int.toNat_natCast, if_true, decide_true, cond_true]
    rw [F116_eq n _ l h0 h1 (hg _ (getD_mem xs i _ hlt)), Option.bind_some, w64s (k := k) (by omega)]
    by_cases hneg : l - (xs.getD i []).length < 0
    · left
      refine ⟨-1, ?_, show (-1 : Int) < 0 by decide⟩
      simp only [show (Ty.rs (130 : Go.TypeId) ((Ty.int Go.IntKind.i64).pair ((Ty.int Go.IntKind.i64).pair (Ty.int Go.IntKind.i64)))).dflt = ([] : List D3) from rfl, if_pos hneg]
      rfl
    · simp only [show (Ty.rs (130 : Go.TypeId) ((Ty.int Go.IntKind.i64).pair ((Ty.int Go.IntKind.i64).pair (Ty.int Go.IntKind.i64)))).dflt = ([] : List D3) from rfl, if_neg hneg]
      rw [show decide (l - ((xs.getD i []).length : Int) < 0) = false by simpa using hneg, cond_false]
      rcases L80_eq n xs hg hx k m (i + 1) (l - (xs.getD i []).length) (by omega) (by omega) (by omega) (by omega) with ⟨r, h2, h3⟩ | ⟨r, h2, h3, h4⟩
      · exact .inl ⟨r, h2, h3⟩
      · refine .inr ⟨r, h2, h3, fun t ht => ?_⟩
        rw [getD_drop xs i [] hlt] at ht
        rcases List.mem_cons.mp ht with rfl | ht
        · omega
        · exact h4 t ht

theorem F34_eq (n : Nat) (hn : 1048576 < n) (xs : List (List D3)) (hx : xs.length ≤ 9223372036854775807) (hg : ∀ t ∈ xs, t.length ≤ 9223372036854775807) : ∃ r : Int, F34 n xs 1048576 = some (r, ()) ∧ (r < 0 ∨ Small2 xs) := by
  unfold F34 F80
  rw [w64 (by omega) (by omega)]
  by_cases h : (1048576 : Int) - xs.length < 0
  · simp only [h, decide_true, cond_true, Option.bind_some]
    exact ⟨-1, rfl, .inl (by omega)⟩
  · simp only [h, decide_false, cond_false]
    rcases L80_eq n xs hg (by omega) xs.length n 0 (1048576 - xs.length) (by omega) (by omega) (by omega) (by omega) with ⟨r, h2, h3⟩ | ⟨r, h2, h3, h4⟩
    · rw [show ((0 : Int)) = ((0 : Nat) : Int) from rfl, h2]
      simp only [Option.bind_some]
      exact ⟨-1, by rw [show decide (r < ((0 : Nat) : Int)) = true by simpa using h3]; rfl, .inl (by omega)⟩
    · rw [show ((0 : Int)) = ((0 : Nat) : Int) from rfl, h2]
      simp only [Option.bind_some]
      exact ⟨r, by rw [show decide (r < ((0 : Nat) : Int)) = false by simpa using h3]; rfl, .inr ⟨by omega, by simpa using h4⟩⟩

theorem F140_eq (n : Nat) (a b : D3) : F140 n a b = some (decide (a = b), ()) := by
  obtain ⟨a1, a2, a3⟩ := a
  obtain ⟨b1, b2, b3⟩ := b
  unfold F140
  simp only [Prod.mk.injEq, bne_int]
  by_cases h1 : a1 = b1 <;> by_cases h2 : a2 = b2 <;> by_cases h3 : a3 = b3 <;> simp [h1, h2, h3]

theorem L122_eq (n : Nat) (xs ys : List D3) (hx : xs.length ≤ 9223372036854775806) (hl : ys.length = xs.length) : ∀ (k m i : Nat), i + k = xs.length → k < m →
    L122_0 n m xs ys (i : Int) = some (if xs.drop i = ys.drop i then .inr (.inl ()) else .inl (false, ()))
  | 0, m + 1, i, hi, hm => by
    have : i = xs.length := by omega
    subst this
    unfold L122_0
    simp [← hl]
  | k + 1, m + 1, i, hi, hm => by
    have hlt : i < xs.length := by omega
    have hlt2 : i < ys.length := by omega
    unfold L122_0
    simp only [lt_ii, le_0i, hlt, hlt2, Int.toNat_natCast, if_true, decide_true, cond_true, F140_eq, Option.bind_some]
    rw [w64s (k := k) (by omega), L122_eq n xs ys hx hl k m (i + 1) (by omega) (by omega), getD_drop xs i (0, 0, 0) hlt, getD_drop ys i (0, 0, 0) hlt2]
    by_cases h : xs.getD i ((0 : Int), (0 : Int), (0 : Int)) = ys.getD i ((0 : Int), (0 : Int), (0 : Int)) <;> simp only [h, eta3, decide_true, decide_false, Bool.not_true, Bool.not_false, cond_true, cond_false, List.cons.injEq, true_and, false_and, if_false]

theorem F122_eq (n : Nat) (xs ys : List D3) (hx : xs.length ≤ 1048576) (hn : 1048576 < n) : F122 n xs ys = some (decide (xs = ys), ()) := by
  unfold F122
  by_cases hl : ys.length = xs.length
  · rw [show ((xs.length : Int) != (ys.length : Int)) = false by simp [hl], cond_false, show ((0 : Int)) = ((0 : Nat) : Int) from rfl, L122_eq n xs ys (by omega) hl xs.length n 0 (by omega) (by omega)]
    by_cases h : xs = ys <;> simp [h]
  · rw [show ((xs.length : Int) != (ys.length : Int)) = true by simp; omega, cond_true]
    have : xs ≠ ys := fun h => hl (by rw [h])
    simp [this]

theorem L87_eq (n : Nat) (hn : 1048576 < n) (xs ys : List (List D3)) (hx : Small2 xs) (hl : ys.length = xs.length) : ∀ (k m i : Nat), i + k = xs.length → k < m →
    L87_0 n m xs ys (i : Int) = some (if xs.drop i = ys.drop i then .inr (.inl ()) else .inl (false, ()))
  | 0, m + 1, i, hi, hm => by
    have : i = xs.length := by omega
    subst this
    unfold L87_0
    simp [← hl]
  | k + 1, m + 1, i, hi, hm => by
    have hlt : i < xs.length := by omega
    have hlt2 : i < ys.length := by omega
    have h1 := hx.1
    unfold L87_0
    simp only [lt_ii, le_0i, hlt, hlt2, Int.toNat_natCast, if_true, decide_true, cond_true]
    rw [F122_eq n _ _ (hx.2 _ (getD_mem xs i _ hlt)) hn, Option.bind_some, w64s (k := k) (by omega), L87_eq n hn xs ys hx hl k m (i + 1) (by omega) (by omega), getD_drop xs i [] hlt, getD_drop ys i [] hlt2]
    simp only [show (Ty.rs (52 : Go.TypeId) ((Ty.int Go.IntKind.i64).pair ((Ty.int Go.IntKind.i64).pair (Ty.int Go.IntKind.i64)))).dflt = ([] : List D3) from rfl]
    by_cases h : xs.getD i [] = ys.getD i [] <;> simp only [h, decide_true, decide_false, Bool.not_true, Bool.not_false, cond_true, cond_false, List.cons.injEq, true_and, false_and, if_false]

theorem F38_eq (n : Nat) (hn : 1048576 < n) (xs ys : List (List D3)) (hx : Small2 xs) : F38 n xs ys = some (decide (xs = ys), ()) := by
  have h1 := hx.1
  have : F87 n xs ys = some (decide (xs = ys), ()) := by
    unfold F87
    by_cases hl : ys.length = xs.length
    · rw [show ((xs.length : Int) != (ys.length : Int)) = false by simp [hl], cond_false, show ((0 : Int)) = ((0 : Nat) : Int) from rfl, L87_eq n hn xs ys hx hl xs.length n 0 (by omega) (by omega)]
      by_cases h : xs = ys <;> simp [h]
    · rw [show ((xs.length : Int) != (ys.length : Int)) = true by simp; omega, cond_true]
      have : xs ≠ ys := fun h => hl (by rw [h])
      simp [this]
  unfold F38
  rw [this, Option.bind_some]
  cases decide (xs = ys) <;> rfl
end Go.Proofs.Ytaehbfaldofmbaa.Ev
