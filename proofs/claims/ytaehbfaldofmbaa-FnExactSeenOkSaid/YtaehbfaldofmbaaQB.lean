/- What the printed functions about what was seen come to. Conditions: none. -/
import Derived.Test.YtaehbfaldofmbaaGS
import Derived.Test.YtaehbfaldofmbaaGT
import Derived.Test.YtaehbfaldofmbaaPL
namespace Go.Proofs.Ytaehbfaldofmbaa.Ev
open Go
abbrev Sn := List Int × List Int
def SmallS (s : Sn) : Prop := s.1.length ≤ 1048576 ∧ s.2.length ≤ 1048576

theorem F75_eq (n : Nat) (xs : List Int) (l : Int) (h0 : 0 ≤ l) (h1 : l ≤ 1048576) (hx : xs.length ≤ 9223372036854775807) : F75 n xs l = some (if l - xs.length < 0 then -1 else l - xs.length, ()) := by
  unfold F75
  rw [w64 (by omega) (by omega)]
  by_cases h : l - (xs.length : Int) < 0 <;> simp [h]

theorem F24_eq (n : Nat) (s : Sn) (l : Int) (h0 : 0 ≤ l) (h1 : l ≤ 1048576) (hx : s.1.length ≤ 9223372036854775807) (hy : s.2.length ≤ 9223372036854775807) :
    ∃ r : Int, F24 n s l = some (r, ()) ∧ (r < 0 ∨ (0 ≤ r ∧ r ≤ l ∧ SmallS s)) := by
  unfold F24
  rw [F75_eq n s.1 l h0 h1 hx, Option.bind_some]
  by_cases h : l - (s.1.length : Int) < 0
  · exact ⟨-1, by simp [h], .inl (by decide)⟩
  · simp only [h, if_false]
    rw [F75_eq n s.2 _ (by omega) (by omega) hy]
    simp only [decide_false, cond_false, Option.bind_some]
    by_cases h2 : l - (s.1.length : Int) - (s.2.length : Int) < 0
    · exact ⟨-1, by simp [h2], .inl (by decide)⟩
    · exact ⟨l - s.1.length - s.2.length, by simp [h2], .inr ⟨by omega, by omega, by omega, by omega⟩⟩

theorem L65_eq (n : Nat) (xs : List Int) (hx : xs.length ≤ 9223372036854775806) : ∀ (k m i : Nat) (ys : List Int), i + k = xs.length → k < m → ys.length = xs.length → ys.take i = xs.take i → L65_0 n m xs ys (i : Int) = some (.inl (xs, ()))
  | 0, m + 1, i, ys, hi, hm, hl, ht => by
    have : i = xs.length := by omega
    subst this
    unfold L65_0
    rw [List.take_length, List.take_of_length_le (by omega)] at ht
    simp [ht]
  | k + 1, m + 1, i, ys, hi, hm, hl, ht => by
    have hlt : i < xs.length := by omega
    unfold L65_0
    simp only [lt_ii, le_0i, hlt, hl, Int.toNat_natCast, if_true, decide_true, cond_true]
    rw [w64s (k := k) (by omega)]
    exact L65_eq n xs hx k m (i + 1) _ (by omega) (by omega) (by simp [hl]) (take_set xs ys i _ hlt hl ht)
theorem F65_eq (n : Nat) (xs : List Int) (h : xs.length ≤ 1048576) (hn : 1048576 < n) : F65 n xs = some (xs, ()) := by
  unfold F65
  rw [if_pos rfl, if_pos (by simp; omega), show ((0 : Int)) = ((0 : Nat) : Int) from rfl, L65_eq n xs (by omega) xs.length n 0 _ (by omega) (by omega) (by simp) (by simp)]
theorem F26_eq (n : Nat) (s : Sn) (h : SmallS s) (hn : 1048576 < n) : F26 n s = some (s, ()) := by
  unfold F26
  rw [F65_eq n s.1 h.1 hn, F65_eq n s.2 h.2 hn]; rfl

def cmpL : List Int → List Int → Int
  | [], [] => 0
  | [], _ :: _ => -1
  | _ :: _, [] => 1
  | a :: u, b :: v => if a < b then -1 else if a > b then 1 else cmpL u v
def cmpS (a b : Sn) : Int := if cmpL a.1 b.1 ≠ 0 then cmpL a.1 b.1 else cmpL a.2 b.2

/-- The longer one. -/
def lenC (xs ys : List Int) : Int := if xs.length < ys.length then -1 else if xs.length > ys.length then 1 else 0
theorem cmp_end (xs ys : List Int) (i : Nat) (h : ¬ (i < xs.length ∧ i < ys.length)) (hx : i ≤ xs.length) (hy : i ≤ ys.length) : cmpL (xs.drop i) (ys.drop i) = lenC xs ys := by
  unfold lenC
  by_cases h1 : i < xs.length
  · have h2 : i = ys.length := by omega
    rw [getD_drop xs i 0 h1, show ys.drop i = [] from List.drop_eq_nil_of_le (by omega), if_neg (by omega), if_pos (by omega)]
    rfl
  · rw [show xs.drop i = [] from List.drop_eq_nil_of_le (by omega)]
    by_cases h2 : i < ys.length
    · rw [getD_drop ys i 0 h2, if_pos (by omega)]; rfl
    · rw [show ys.drop i = [] from List.drop_eq_nil_of_le (by omega), if_neg (by omega), if_neg (by omega)]; rfl

theorem L112_eq (n : Nat) (xs ys : List Int) (hx : xs.length ≤ 9223372036854775806) : ∀ (k m i : Nat), i + k = xs.length → k < m → i ≤ ys.length →
    ∃ o, L112_0 n m xs ys (i : Int) = some o ∧ ((∃ r, o = .inl (r, ()) ∧ cmpL (xs.drop i) (ys.drop i) = r) ∨ (o = .inr (.inl (xs, ys, ())) ∧ cmpL (xs.drop i) (ys.drop i) = lenC xs ys))
  | 0, m + 1, i, hi, hm, hy => by
    have : i = xs.length := by omega
    subst this
    unfold L112_0
    simp only [lt_ii, Nat.lt_irrefl, decide_false, cond_false]
    exact ⟨_, rfl, .inr ⟨rfl, cmp_end xs ys _ (by omega) (by omega) hy⟩⟩
  | k + 1, m + 1, i, hi, hm, hy => by
    have hlt : i < xs.length := by omega
    unfold L112_0
    simp only [lt_ii, hlt, decide_true, cond_true]
    by_cases h2 : i < ys.length
    · simp only [h2, decide_true, cond_true]
      unfold J112_4
      simp only [lt_ii, le_0i, hlt, h2, if_true, Int.toNat_natCast]
      rw [getD_drop xs i 0 hlt, getD_drop ys i 0 h2]
      have hw := w64s (show i + k ≤ 9223372036854775806 by omega)
      by_cases c1 : xs.getD i 0 < ys.getD i 0
      · simp only [c1, decide_true, cond_true]
        exact ⟨_, rfl, .inl ⟨_, rfl, by rw [cmpL, if_pos c1]⟩⟩
      · by_cases c2 : xs.getD i 0 > ys.getD i 0
        · simp only [c1, c2, decide_true, decide_false, cond_true, cond_false]
          exact ⟨_, rfl, .inl ⟨_, rfl, by rw [cmpL, if_neg c1, if_pos c2]⟩⟩
        · simp only [c1, c2, decide_false, cond_false, hw]
          have := L112_eq n xs ys hx k m (i + 1) (by omega) (by omega) (by omega)
          simpa only [cmpL, c1, c2, if_false] using this
    · simp only [h2, decide_false, cond_false]
      exact ⟨_, rfl, .inr ⟨rfl, cmp_end xs ys i (by omega) (by omega) hy⟩⟩

theorem F112_eq (n : Nat) (xs ys : List Int) (hx : xs.length ≤ 1048576) (hn : 1048576 < n) : F112 n xs ys = some (cmpL xs ys, ()) := by
  unfold F112
  obtain ⟨o, h1, h2⟩ := L112_eq n xs ys (by omega) xs.length n 0 (by omega) (by omega) (by omega)
  rw [show ((0 : Int)) = ((0 : Nat) : Int) from rfl, h1]
  simp only [List.drop_zero] at h2
  rcases h2 with ⟨r, rfl, h3⟩ | ⟨rfl, h3⟩
  · simp only [h3]
  · simp only [h3, lenC, GT.gt, lt_ii]
    by_cases c1 : xs.length < ys.length
    · simp [c1]
    · by_cases c2 : ys.length < xs.length <;> simp [c1, c2]

theorem F76_eq (n : Nat) (a b : Sn) (ha : SmallS a) (hn : 1048576 < n) : F76 n a b = some (cmpS a b, ()) := by
  unfold F76 cmpS
  rw [F112_eq n a.1 b.1 ha.1 hn, F112_eq n a.2 b.2 ha.2 hn]
  simp only [bne_int, Option.bind_some]
  by_cases h : cmpL a.1 b.1 = 0 <;> simp [h]

theorem F137_eq (n : Nat) (a b : Int) : F137 n a b = some (if a < b then -1 else if a > b then 1 else 0, ()) := by
  unfold F137 F145
  simp only [bne_self_eq_false, Option.bind_some, cond_false]
  by_cases c1 : a < b
  · simp [c1]
  · by_cases c2 : a > b <;> simp [c1, c2]

theorem L114_eq (n : Nat) (xs ys : List Int) (hx : xs.length ≤ 9223372036854775806) : ∀ (k m i : Nat), i + k = xs.length → k < m → i ≤ ys.length →
    ∃ o, L114_0 n m xs ys xs (xs.length : Int) (i : Int) = some o ∧ ((∃ r, o = .inl (r, ()) ∧ cmpL (xs.drop i) (ys.drop i) = r) ∨ (o = .inr (.inl (xs, ys, ())) ∧ xs.length ≤ ys.length ∧ cmpL (xs.drop i) (ys.drop i) = lenC xs ys))
  | 0, m + 1, i, hi, hm, hy => by
    have : i = xs.length := by omega
    subst this
    unfold L114_0
    simp only [lt_ii, Nat.lt_irrefl, decide_false, cond_false]
    exact ⟨_, rfl, .inr ⟨rfl, hy, cmp_end xs ys _ (by omega) (by omega) hy⟩⟩
  | k + 1, m + 1, i, hi, hm, hy => by
    have hlt : i < xs.length := by omega
    unfold L114_0
    simp only [lt_ii, le_0i, hlt, decide_true, cond_true, if_true, Int.toNat_natCast, GE.ge, Int.ofNat_le]
    by_cases h2 : i < ys.length
    · rw [show decide (ys.length ≤ i) = false from decide_eq_false (by omega)]
      simp only [h2, if_true, cond_false, F137_eq, Option.bind_some]
      rw [getD_drop xs i 0 hlt, getD_drop ys i 0 h2]
      have hw := w64s (show i + k ≤ 9223372036854775806 by omega)
      by_cases c1 : xs.getD i 0 < ys.getD i 0
      · simp only [c1, if_true]
        exact ⟨_, rfl, .inl ⟨_, rfl, by rw [cmpL, if_pos c1]⟩⟩
      · by_cases c2 : xs.getD i 0 > ys.getD i 0
        · simp only [c1, c2, if_true, if_false]
          exact ⟨_, rfl, .inl ⟨_, rfl, by rw [cmpL, if_neg c1, if_pos c2]⟩⟩
        · simp only [c1, c2, if_false, hw, bne_self_eq_false, cond_false]
          have := L114_eq n xs ys hx k m (i + 1) (by omega) (by omega) (by omega)
          simpa only [cmpL, c1, c2, if_false] using this
    · rw [show decide (ys.length ≤ i) = true from decide_eq_true (by omega)]
      simp only [cond_true]
      refine ⟨_, rfl, .inl ⟨_, rfl, ?_⟩⟩
      rw [cmp_end xs ys i (by omega) (by omega) hy]
      unfold lenC
      rw [if_neg (by omega), if_pos (by omega)]

theorem F114_eq (n : Nat) (xs ys : List Int) (hx : xs.length ≤ 1048576) (hn : 1048576 < n) : F114 n xs ys = some (cmpL xs ys, ()) := by
  unfold F114
  obtain ⟨o, h1, h2⟩ := L114_eq n xs ys (by omega) xs.length n 0 (by omega) (by omega) (by omega)
  rw [show ((0 : Int)) = ((0 : Nat) : Int) from rfl, h1]
  simp only [List.drop_zero] at h2
  rcases h2 with ⟨r, rfl, h3⟩ | ⟨rfl, hle, h3⟩
  · simp only [h3]
  · simp only [h3, lenC, lt_ii]
    by_cases c1 : xs.length < ys.length
    · simp [c1]
    · have c2 : ¬ ys.length < xs.length := by omega
      simp [c1, c2]

theorem F113_two (n : Nat) (x y : Int) (hn : 1048576 < n) : F113 n [x, y] = some (if x ≠ 0 then x else y, ()) := by
  obtain ⟨m, rfl⟩ : ∃ m, n = m + 3 := ⟨n - 3, by omega⟩
  unfold F113
  have w1 : IntKind.i64.wrap (0 + 1) = 1 := by decide
  have w2 : IntKind.i64.wrap (1 + 1) = 2 := by decide
  unfold L113_0
  simp only [List.length_cons, List.length_nil]
  unfold L113_0
  simp only [List.length_cons, List.length_nil]
  unfold L113_0
  simp only [List.length_cons, List.length_nil, w1, w2]
  simp only [bne_int]
  by_cases h : x = 0 <;> by_cases h2 : y = 0 <;> simp [h, h2]

theorem F77_eq (n : Nat) (a b : Sn) (ha : SmallS a) (hn : 1048576 < n) : F77 n a b = some (cmpS a b, ()) := by
  unfold F77 cmpS
  rw [F114_eq n a.1 b.1 ha.1 hn, F114_eq n a.2 b.2 ha.2 hn]
  simp only [Option.bind_some, F113_two n _ _ hn]

theorem L66_eq (n : Nat) (xs ys : List Int) (hx : xs.length ≤ 9223372036854775806) (hl : ys.length = xs.length) : ∀ (k m i : Nat), i + k = xs.length → k < m →
    L66_0 n m xs ys (i : Int) = some (if xs.drop i = ys.drop i then .inr (.inl ()) else .inl (false, ()))
  | 0, m + 1, i, hi, hm => by
    have : i = xs.length := by omega
    subst this
    unfold L66_0
    simp [← hl]
  | k + 1, m + 1, i, hi, hm => by
    have hlt : i < xs.length := by omega
    have hlt2 : i < ys.length := by omega
    unfold L66_0
    simp only [lt_ii, le_0i, hlt, hlt2, Int.toNat_natCast, if_true, decide_true, cond_true]
    rw [w64s (k := k) (by omega), L66_eq n xs ys hx hl k m (i + 1) (by omega) (by omega), getD_drop xs i 0 hlt, getD_drop ys i 0 hlt2]
    by_cases h : xs.getD i 0 = ys.getD i 0
    · simp only [h, bne_self_eq_false, cond_false, List.cons.injEq, true_and]
    · rw [show (xs.getD i 0 != ys.getD i 0) = true by simpa using h]
      simp only [h, cond_true, List.cons.injEq, false_and, if_false]
theorem F66_eq (n : Nat) (xs ys : List Int) (hx : xs.length ≤ 1048576) (hn : 1048576 < n) : F66 n xs ys = some (decide (xs = ys), ()) := by
  unfold F66
  by_cases hl : ys.length = xs.length
  · rw [show ((xs.length : Int) != (ys.length : Int)) = false by simp [hl], cond_false, show ((0 : Int)) = ((0 : Nat) : Int) from rfl, L66_eq n xs ys (by omega) hl xs.length n 0 (by omega) (by omega)]
    by_cases h : xs = ys <;> simp [h]
  · rw [show ((xs.length : Int) != (ys.length : Int)) = true by simp; omega, cond_true]
    have : xs ≠ ys := fun h => hl (by rw [h])
    simp [this]
theorem F28_eq (n : Nat) (a b : Sn) (ha : SmallS a) (hn : 1048576 < n) : F28 n a b = some (decide (a = b), ()) := by
  obtain ⟨a1, a2⟩ := a
  obtain ⟨b1, b2⟩ := b
  unfold F28
  simp only [F66_eq n a1 b1 ha.1 hn, F66_eq n a2 b2 ha.2 hn, Option.bind_some, Prod.mk.injEq]
  by_cases h1 : a1 = b1 <;> by_cases h2 : a2 = b2 <;> simp [h1, h2]
end Go.Proofs.Ytaehbfaldofmbaa.Ev
