/- What the printed functions that put walls come to. Conditions: none. -/
import Derived.Test.YtaehbfaldofmbaaGP
import Derived.Test.YtaehbfaldofmbaaQA
import Derived.Test.YtaehbfaldofmbaaQW
namespace Go.Proofs.Ytaehbfaldofmbaa.Ev
open Go

/-- Rooms are in order, and there. -/
def gOk (many : Int) : Option Int → List Int → Bool
  | _, [] => true
  | pv, g :: l => (decide (g ≥ 0) && decide (g ≤ many - 1)) && ((match pv with | none => true | some p => decide (p < g)) && gOk many (some g) l)
def prev (gaps : List Int) : Nat → Option Int
  | 0 => none
  | j + 1 => some (gaps.getD j 0)
def W3 : D3 := (4, 0, 0)
def wallI (gaps : List Int) : Nat → List D3 → List D3
  | _, [] => []
  | at_, d :: l => (if (at_ : Int) ∈ gaps then [W3] else []) ++ d :: wallI gaps (at_ + 1) l
def wallT (gaps : List Int) (at_ : Nat) : List D3 → List D3
  | [] => []
  | d :: l => d :: wallI gaps at_ l
def wallP (gaps : List Int) : Nat → List (List D3) → List (List D3)
  | _, [] => []
  | at_, t :: p => wallT gaps at_ t :: wallP gaps (at_ + (t.length - 1)) p
def wallPut (p : List (List D3)) (gaps : List Int) : List (List D3) × Bool :=
  if progOk p && (gOk (gapsAll p) none gaps && progOk (wallP gaps 0 p)) then (wallP gaps 0 p, true) else ([], false)

theorem wallI_len (gaps : List Int) : ∀ (l : List D3) (a : Nat), (wallI gaps a l).length ≤ 2 * l.length
  | [], _ => by simp [wallI]
  | d :: l, a => by
    have := wallI_len gaps l (a + 1)
    simp only [wallI, List.length_append, List.length_cons]
    split <;> simp <;> omega
theorem wallT_len (gaps : List Int) (l : List D3) (a : Nat) : (wallT gaps a l).length ≤ 2 * l.length := by
  cases l with
  | nil => simp [wallT]
  | cons d l => have := wallI_len gaps l a; simp only [wallT, List.length_cons]; omega
theorem wallP_len (gaps : List Int) : ∀ (p : List (List D3)) (a : Nat), (wallP gaps a p).length = p.length
  | [], _ => rfl
  | t :: p, a => by simp [wallP, wallP_len gaps p]
theorem wallP_mem (gaps : List Int) : ∀ (p : List (List D3)) (a : Nat), ∀ t ∈ wallP gaps a p, ∃ s ∈ p, t.length ≤ 2 * s.length
  | [], _, t, h => by simp [wallP] at h
  | s :: p, a, t, h => by
    simp only [wallP, List.mem_cons] at h
    rcases h with rfl | h
    · exact ⟨s, by simp, wallT_len gaps s a⟩
    · obtain ⟨s', h1, h2⟩ := wallP_mem gaps p _ t h
      exact ⟨s', by simp [h1], h2⟩

theorem L100_eq (n : Nat) (gaps : List Int) (hg : gaps.length ≤ 9223372036854775806) (many : Int) (h1 : -1 ≤ many) (h2 : many ≤ 1000000) : ∀ (k m i : Nat), i + k = gaps.length → k < m →
    L100_0 n m gaps many (i : Int) = some (cond (gOk many (prev gaps i) (gaps.drop i)) (.inr (.inl ())) (.inl (false, ())))
  | 0, m + 1, i, hi, hm => by
    have : i = gaps.length := by omega
    subst this
    unfold L100_0
    simp [gOk]
  | k + 1, m + 1, i, hi, hm => by
    have hlt : i < gaps.length := by omega
    have ih := L100_eq n gaps hg many h1 h2 k m (i + 1) (by omega) (by omega)
    unfold L100_0
    simp only [lt_ii, le_0i, hlt, Int.toNat_natCast, if_true, decide_true, cond_true, F129_eq, Option.bind_some, J100_3]
    rw [w64 (x := many - 1) (by omega) (by omega), w64s (k := k) (by omega), getD_drop gaps i 0 hlt, ih]
    simp only [gOk]
    cases hb : (decide (gaps.getD i 0 ≥ 0) && decide (gaps.getD i 0 ≤ many - 1))
    · rfl
    · simp only [Bool.not_true, cond_false, Bool.true_and]
      cases i with
      | zero => simp [prev]
      | succ j =>
        have e0 : decide (((j + 1 : Nat) : Int) > 0) = true := decide_eq_true (by omega)
        have e1 : IntKind.i64.wrap (((j + 1 : Nat) : Int) - 1) = (j : Int) := by rw [w64 (by omega) (by omega)]; omega
        simp only [e0, cond_true, e1, le_0i, lt_ii, show j < gaps.length by omega, if_true, Int.toNat_natCast, prev]
        by_cases hc : gaps.getD j 0 < gaps.getD (j + 1) 0
        · rw [decide_eq_false (show ¬ (gaps.getD j 0 ≥ gaps.getD (j + 1) 0) by omega), decide_eq_true hc]
          simp
        · rw [decide_eq_true (show gaps.getD j 0 ≥ gaps.getD (j + 1) 0 by omega), decide_eq_false hc]
          simp
theorem F100_eq (n : Nat) (hn : 1048576 < n) (gaps : List Int) (hg : gaps.length ≤ 1048576) (many : Int) (h1 : -1 ≤ many) (h2 : many ≤ 1000000) : F100 n gaps many = some (gOk many none gaps, ()) := by
  unfold F100
  have e := L100_eq n gaps (by omega) many h1 h2 gaps.length n 0 (by omega) (by omega)
  rw [List.drop_zero] at e
  have e : L100_0 n n gaps many (0 : Int) = _ := e
  rw [e]
  simp only [prev]
  cases gOk many none gaps <;> rfl

theorem L60_0_eq (n : Nat) (gaps : List Int) (hg : gaps.length ≤ 9223372036854775806) (p o : List (List D3)) (many : Int) (h1 : -1 ≤ many) (h2 : many ≤ 1000000) : ∀ (k m i : Nat), i + k = gaps.length → k < m →
    L60_0 n m gaps (p, ()) (o, ()) many gaps (gaps.length : Int) (i : Int) = some (cond (gOk many (prev gaps i) (gaps.drop i)) (.inr (.inl (gaps, (p, ()), (o, ()), many, ()))) (.inl (([], ()), false, ())))
  | 0, m + 1, i, hi, hm => by
    have : i = gaps.length := by omega
    subst this
    unfold L60_0
    simp [gOk]
  | k + 1, m + 1, i, hi, hm => by
    have hlt : i < gaps.length := by omega
    have ih := L60_0_eq n gaps hg p o many h1 h2 k m (i + 1) (by omega) (by omega)
    unfold L60_0
    simp only [lt_ii, le_0i, hlt, Int.toNat_natCast, if_true, decide_true, cond_true, F102_eq, Option.bind_some, J60_7]
    rw [w64 (x := many - 1) (by omega) (by omega), w64s (k := k) (by omega), getD_drop gaps i 0 hlt, ih]
    simp only [gOk]
    cases hb : (decide (gaps.getD i 0 ≥ 0) && decide (gaps.getD i 0 ≤ many - 1))
    · rfl
    · simp only [Bool.not_true, cond_false, Bool.true_and]
      cases i with
      | zero => simp [prev]
      | succ j =>
        have e0 : decide (((j + 1 : Nat) : Int) > 0) = true := decide_eq_true (by omega)
        have e1 : IntKind.i64.wrap (((j + 1 : Nat) : Int) - 1) = (j : Int) := by rw [w64 (by omega) (by omega)]; omega
        simp only [e0, cond_true, e1, le_0i, lt_ii, show j < gaps.length by omega, if_true, Int.toNat_natCast, prev]
        by_cases hc : gaps.getD j 0 < gaps.getD (j + 1) 0
        · rw [decide_eq_false (show ¬ (gaps.getD (j + 1) 0 ≤ gaps.getD j 0) by omega), decide_eq_true hc]
          simp
        · rw [decide_eq_true (show gaps.getD (j + 1) 0 ≤ gaps.getD j 0 by omega), decide_eq_false hc]
          simp

theorem L101_eq (n : Nat) (xs : List Int) (hx : xs.length ≤ 9223372036854775806) (y : Int) : ∀ (k m i : Nat), i + k = xs.length → k < m →
    L101_0 n m xs y (i : Int) = some (if y ∈ xs.drop i then .inl (true, ()) else .inr (.inl ()))
  | 0, m + 1, i, hi, hm => by
    have : i = xs.length := by omega
    subst this
    unfold L101_0
    simp
  | k + 1, m + 1, i, hi, hm => by
    have hlt : i < xs.length := by omega
    have ih := L101_eq n xs hx y k m (i + 1) (by omega) (by omega)
    unfold L101_0
    simp only [lt_ii, le_0i, hlt, Int.toNat_natCast, if_true, decide_true, cond_true]
    rw [w64s (k := k) (by omega), getD_drop xs i 0 hlt, ih, beq_int]
    by_cases h : xs.getD i 0 = y
    · rw [decide_eq_true h, cond_true, if_pos (show y ∈ xs.getD i 0 :: xs.drop (i + 1) by rw [h]; simp)]
    · rw [decide_eq_false h, cond_false]
      by_cases h2 : y ∈ xs.drop (i + 1)
      · rw [if_pos h2, if_pos (by simp [h2])]
      · rw [if_neg h2, if_neg (by simp only [List.mem_cons, not_or]; exact ⟨fun e => h e.symm, h2⟩)]
theorem F101_eq (n : Nat) (hn : 1048576 < n) (xs : List Int) (hx : xs.length ≤ 1048576) (y : Int) : F101 n xs y = some (decide (y ∈ xs), ()) := by
  unfold F101
  have e := L101_eq n xs (by omega) y xs.length n 0 (by omega) (by omega)
  rw [List.drop_zero] at e
  have e : L101_0 n n xs y (0 : Int) = _ := e
  rw [e]
  by_cases h : y ∈ xs <;> simp [h]

theorem L132_eq (n : Nat) (xs : List Int) (hx : xs.length ≤ 9223372036854775806) (y : Int) : ∀ (k m i : Nat), i + k = xs.length → k < m →
    (y ∈ xs.drop i ∧ ∃ j : Nat, L132_0 n m xs y (xs.length : Int) (i : Int) = some (.inl ((j : Int), ()))) ∨ (y ∉ xs.drop i ∧ L132_0 n m xs y (xs.length : Int) (i : Int) = some (.inr (.inl ())))
  | 0, m + 1, i, hi, hm => by
    have : i = xs.length := by omega
    subst this
    unfold L132_0
    right
    simp
  | k + 1, m + 1, i, hi, hm => by
    have hlt : i < xs.length := by omega
    have ih := L132_eq n xs hx y k m (i + 1) (by omega) (by omega)
    unfold L132_0
    simp only [lt_ii, le_0i, hlt, Int.toNat_natCast, if_true, decide_true, cond_true]
    rw [w64s (k := k) (by omega), getD_drop xs i 0 hlt, beq_int]
    by_cases h : y = xs.getD i 0
    · left
      rw [decide_eq_true h]
      exact ⟨by rw [h]; simp, i, rfl⟩
    · rw [decide_eq_false h, cond_false]
      rcases ih with ⟨h1, j, h2⟩ | ⟨h1, h2⟩
      · exact .inl ⟨by simp [h1], j, h2⟩
      · exact .inr ⟨by simp only [List.mem_cons, not_or]; exact ⟨h, h1⟩, h2⟩
theorem F103_eq (n : Nat) (hn : 1048576 < n) (xs : List Int) (hx : xs.length ≤ 1048576) (y : Int) : F103 n xs y = some (decide (y ∈ xs), ()) := by
  unfold F103 F132
  have e := L132_eq n xs (by omega) y xs.length n 0 (by omega) (by omega)
  rw [List.drop_zero] at e
  rcases e with ⟨h1, j, e⟩ | ⟨h1, e⟩
  · have e : L132_0 n n xs y (xs.length : Int) (0 : Int) = _ := e
    rw [e, decide_eq_true h1]
    simp
  · have e : L132_0 n n xs y (xs.length : Int) (0 : Int) = _ := e
    rw [e, decide_eq_false h1]
    simp

theorem L59_2_eq (n : Nat) (hn : 1048576 < n) (gaps : List Int) (hg : gaps.length ≤ 1048576) (p o out : List (List D3)) (t : Nat) (ht : t < p.length) (hs : (p.getD t []).length ≤ 1000) : ∀ (k m i : Nat) (a : Nat) (row : List D3), i + k = (p.getD t []).length → k < m → a + k ≤ 1000000 → row.length ≤ 2 * i →
    L59_2 n m gaps (p, ()) (o, ()) (out, ()) (a : Int) (t : Int) row (i : Int) = some (.inl (gaps, (p, ()), (o, ()), (out, ()), ((a + (k - 1) : Nat) : Int), (t : Int), row ++ wallT gaps a ((p.getD t []).drop i), ()))
  | 0, m + 1, i, a, row, hi, hm, ha, hr => by
    unfold L59_2
    simp only [lt_ii, le_0i, ht, Int.toNat_natCast, if_true]
    rw [show decide (i < (p.getD t []).length) = false from decide_eq_false (by omega), cond_false, List.drop_eq_nil_of_le (by omega)]
    simp [wallT]
  | k + 1, m + 1, i, a, row, hi, hm, ha, hr => by
    have hlt : i < (p.getD t []).length := by omega
    have ih := L59_2_eq n hn gaps hg p o out t ht hs k m (i + 1)
    unfold L59_2
    simp only [lt_ii, le_0i, ht, hlt, Int.toNat_natCast, if_true, decide_true, cond_true, eta3, List.length_append, List.length_cons, List.length_nil, F101_eq n hn gaps hg, Option.bind_some, J59_16, J59_11]
    rw [w64s (i := i) (k := k) (by omega), w64s (i := a) (k := k) (by omega), if_pos (by omega), getD_drop (p.getD t []) i ((0 : Int), (0 : Int), (0 : Int)) hlt]
    generalize hd : (p.getD t []).getD i ((0 : Int), (0 : Int), (0 : Int)) = d
    simp only [lt_ii]
    by_cases hl : i + 1 < (p.getD t []).length
    · simp only [hl, decide_true, cond_true]
      rw [if_pos (by omega), ih (a + 1) _ (by omega) (by omega) (by omega) (by simp; omega), ih (a + 1) _ (by omega) (by omega) (by omega) (by simp; omega)]
      rw [show a + 1 + (k - 1) = a + (k + 1 - 1) by omega]
      rw [getD_drop (p.getD t []) (i + 1) ((0 : Int), (0 : Int), (0 : Int)) hl]
      simp only [wallT, wallI, W3]
      by_cases hm2 : (a : Int) ∈ gaps
      · simp [hm2]
      · simp [hm2]
    · simp only [hl, decide_false, cond_false]
      have hk : k = 0 := by omega
      subst hk
      rw [ih a _ (by omega) (by omega) (by omega) (by simp; omega)]
      have e : (p.getD t []).drop (i + 1) = [] := List.drop_eq_nil_of_le (by omega)
      rw [e]
      simp [wallT, wallI]

theorem L59_0_eq (n : Nat) (hn : 1048576 < n) (gaps : List Int) (hg : gaps.length ≤ 1048576) (p o : List (List D3)) (hp : p.length ≤ 100) (hs : ∀ t ∈ p, t.length ≤ 1000) : ∀ (k m i : Nat) (a : Nat) (out : List (List D3)), i + k = p.length → k < m → a ≤ 1000 * i → out.length = i →
    L59_0 n m gaps (p, ()) (o, ()) (out, ()) (a : Int) (i : Int) = some (.inl ((o, ()), (out ++ wallP gaps a (p.drop i), ()), ()))
  | 0, m + 1, i, a, out, hi, hm, ha, ho => by
    have : i = p.length := by omega
    subst this
    unfold L59_0
    simp [wallP]
  | k + 1, m + 1, i, a, out, hi, hm, ha, ho => by
    have hlt : i < p.length := by omega
    have hsz := hs _ (getD_mem p i [] hlt)
    have e := L59_2_eq n hn gaps hg p o out i hlt hsz (p.getD i []).length n 0 a [] (by omega) (by omega) (by omega) (by simp)
    have e : L59_2 n n gaps (p, ()) (o, ()) (out, ()) (a : Int) (i : Int) [] (0 : Int) = _ := e
    unfold L59_0
    simp only [lt_ii, hlt, decide_true, cond_true, e, List.length_cons, List.length_nil]
    rw [if_pos (by omega), w64s (i := i) (k := k) (by omega), List.drop_zero, List.nil_append,
      L59_0_eq n hn gaps hg p o hp hs k m (i + 1) _ _ (by omega) (by omega) (by omega) (by simp [ho]), getD_drop p i [] hlt]
    simp [wallP]

theorem gapsLe {p : List (List D3)} (h : progOk p = true) : (gapsAll p : Int) ≤ 1000000 := by
  have hl := progOk_len2 h
  obtain ⟨h1, h2⟩ := hl
  match p, h1, h2 with
  | [], _, _ => simp [gapsAll]
  | [a], _, h2 => have := h2 a (by simp); simp only [gapsAll]; omega
  | [a, b], _, h2 => have := h2 a (by simp); have := h2 b (by simp); simp only [gapsAll]; omega
  | [a, b, c], _, h2 => have := h2 a (by simp); have := h2 b (by simp); have := h2 c (by simp); simp only [gapsAll]; omega
  | _ :: _ :: _ :: _ :: _, h1, _ => simp at h1

theorem F59_eq (n : Nat) (hn : 1048576 < n) (p : List (List D3)) (gaps : List Int) (hg : gaps.length ≤ 1048576) : F59 n p gaps = some ((wallPut p gaps).1, (wallPut p gaps).2, ()) := by
  unfold F59 wallPut
  rw [F35_eq n hn p, Option.bind_some]
  cases hok : progOk p
  · simp
  · have hl := progOk_len2 hok
    simp only [Bool.not_true, cond_false, F40_eq n hn, hok, if_true, Option.bind_some, F100_eq n hn gaps hg (gapsAll p) (by omega) (gapsLe hok), Bool.true_and]
    cases hgo : gOk (gapsAll p) none gaps
    · simp
    · simp only [Bool.not_true, cond_false, Bool.true_and]
      unfold J59_3
      have e := L59_0_eq n hn gaps hg p [] (by omega) (fun t ht => by have := hl.2 t ht; omega) p.length n 0 0 [] (by omega) (by omega) (by omega) rfl
      have e : L59_0 n n gaps (p, ()) ([], ()) ([], ()) (0 : Int) (0 : Int) = _ := e
      simp only [e, List.nil_append, List.drop_zero, F35_eq n hn, Option.bind_some]
      cases progOk (wallP gaps 0 p) <;> simp

theorem L60_4_eq (n : Nat) (hn : 1048576 < n) (gaps : List Int) (hg : gaps.length ≤ 1048576) (o out p : List (List D3)) (pl : Int) (t : Nat) (s : List D3) (hs : s.length ≤ 1000) : ∀ (k m i : Nat) (a : Nat) (row : List D3), 0 < i → i + k = s.length → k < m → a + k ≤ 1000000 → row.length ≤ 2 * i →
    L60_4 n m gaps (o, ()) (out, ()) (a : Int) row p pl (t : Int) s (s.length : Int) (i : Int) = some (.inl (gaps, (o, ()), (out, ()), ((a + k : Nat) : Int), row ++ wallI gaps a (s.drop i), p, pl, (t : Int), ()))
  | 0, m + 1, i, a, row, h0, hi, hm, ha, hr => by
    have : i = s.length := by omega
    subst this
    unfold L60_4
    simp [wallI]
  | k + 1, m + 1, i, a, row, h0, hi, hm, ha, hr => by
    have hlt : i < s.length := by omega
    have ih := fun row => L60_4_eq n hn gaps hg o out p pl t s hs k m (i + 1) (a + 1) row (by omega) (by omega) (by omega) (by omega)
    have e0 : decide ((i : Int) > 0) = true := decide_eq_true (by omega)
    unfold L60_4
    simp only [lt_ii, le_0i, hlt, Int.toNat_natCast, if_true, decide_true, cond_true, e0, eta3, F103_eq n hn gaps hg, Option.bind_some, J60_22, J60_23, J60_24, List.length_append, List.length_cons, List.length_nil]
    rw [w64s (i := a) (k := k) (by omega), if_pos (by omega), if_pos (by omega), if_pos (by omega)]
    simp only [w64s (i := i) (k := k) (by omega)]
    rw [getD_drop s i ((0 : Int), (0 : Int), (0 : Int)) hlt]
    simp only [wallI]
    rw [show a + (k + 1) = a + 1 + k by omega]
    by_cases hm2 : (a : Int) ∈ gaps
    · simp only [hm2, decide_true, cond_true, if_true]
      rw [ih _ (by simp; omega)]
      simp [W3]
    · simp only [hm2, decide_false, cond_false, if_false]
      rw [ih _ (by simp; omega)]
      simp

theorem L60_4_all (n : Nat) (hn : 1048576 < n) (gaps : List Int) (hg : gaps.length ≤ 1048576) (o out p : List (List D3)) (pl : Int) (t : Nat) (s : List D3) (hs : s.length ≤ 1000) (a : Nat) (ha : a ≤ 900000) :
    L60_4 n n gaps (o, ()) (out, ()) (a : Int) [] p pl (t : Int) s (s.length : Int) (0 : Int) = some (.inl (gaps, (o, ()), (out, ()), ((a + (s.length - 1) : Nat) : Int), wallT gaps a s, p, pl, (t : Int), ())) := by
  obtain ⟨m, rfl⟩ : ∃ m, n = m + 1 := ⟨n - 1, by omega⟩
  cases s with
  | nil =>
    unfold L60_4
    simp [wallT]
  | cons d l =>
    have e := L60_4_eq (m + 1) hn gaps hg o out p pl t (d :: l) hs l.length m 1 a [d] (by omega) (by simp; omega) (by simp at hs; omega) (by simp at hs; omega) (by simp)
    have e : L60_4 (m + 1) m gaps (o, ()) (out, ()) (a : Int) [d] p pl (t : Int) (d :: l) ((d :: l).length : Int) (1 : Int) = _ := e
    unfold L60_4
    have e1 : decide ((0 : Int) < ((d :: l).length : Int)) = true := decide_eq_true (by simp)
    have e2 : ((0 : Int) < ((d :: l).length : Int)) = True := by simp
    have e3 : IntKind.i64.wrap (0 + 1) = (1 : Int) := w64 (by omega) (by omega)
    simp only [e1, cond_true, e2, if_true, show ((0 : Int) ≤ 0) = True by simp, show decide ((0 : Int) > 0) = false from rfl, cond_false, Int.toNat_zero, List.getD_cons_zero, eta3, J60_23, J60_24, List.length_nil, List.nil_append, List.length_singleton]
    rw [if_pos (by omega)]
    simp only [e3]
    rw [e]
    simp [wallT]

theorem L60_2_eq (n : Nat) (hn : 1048576 < n) (gaps : List Int) (hg : gaps.length ≤ 1048576) (p o : List (List D3)) (hp : p.length ≤ 100) (hs : ∀ t ∈ p, t.length ≤ 1000) : ∀ (k m i : Nat) (a : Nat) (out : List (List D3)), i + k = p.length → k < m → a ≤ 1000 * i → out.length = i →
    L60_2 n m gaps (o, ()) (out, ()) (a : Int) p (p.length : Int) (i : Int) = some (.inl ((o, ()), (out ++ wallP gaps a (p.drop i), ()), ()))
  | 0, m + 1, i, a, out, hi, hm, ha, ho => by
    have : i = p.length := by omega
    subst this
    unfold L60_2
    simp [wallP]
  | k + 1, m + 1, i, a, out, hi, hm, ha, ho => by
    have hlt : i < p.length := by omega
    have hsz := hs _ (getD_mem p i [] hlt)
    have e := L60_4_all n hn gaps hg o out p (p.length : Int) i (p.getD i []) hsz a (by omega)
    unfold L60_2
    simp only [lt_ii, le_0i, hlt, Int.toNat_natCast, if_true, decide_true, cond_true, e, List.length_cons, List.length_nil]
    rw [if_pos (by omega), w64s (i := i) (k := k) (by omega),
      L60_2_eq n hn gaps hg p o hp hs k m (i + 1) _ _ (by omega) (by omega) (by omega) (by simp [ho]), getD_drop p i [] hlt]
    simp [wallP]

theorem gOk_bad {gaps : List Int} (h : gOk (-1) none gaps = true) : gaps = [] := by
  cases gaps with
  | nil => rfl
  | cons g l =>
    simp only [gOk, Bool.and_eq_true, decide_eq_true_eq] at h
    omega

theorem F60_eq (n : Nat) (hn : 1048576 < n) (p : List (List D3)) (hs : ∀ t ∈ p, t.length ≤ 1048576) (gaps : List Int) (hg : gaps.length ≤ 1048576) : F60 n p gaps = some ((wallPut p gaps).1, (wallPut p gaps).2, ()) := by
  unfold F60 wallPut
  rw [F41_eq n hn p hs, Option.bind_some]
  cases hok : progOk p
  · have e := L60_0_eq n gaps (by omega) p [] (-1) (by omega) (by omega) gaps.length n 0 (by omega) (by omega)
    have e : L60_0 n n gaps (p, ()) ([], ()) (-1 : Int) gaps (gaps.length : Int) (0 : Int) = _ := e
    rw [List.drop_zero] at e
    simp only [Bool.false_eq_true, if_false, Bool.false_and, e, prev]
    cases gOk (-1) none gaps
    · rfl
    · rfl
  · have hl := progOk_len2 hok
    have e := L60_0_eq n gaps (by omega) p [] (gapsAll p) (by omega) (gapsLe hok) gaps.length n 0 (by omega) (by omega)
    have e : L60_0 n n gaps (p, ()) ([], ()) (gapsAll p : Int) gaps (gaps.length : Int) (0 : Int) = _ := e
    rw [List.drop_zero] at e
    simp only [if_true, Bool.true_and, e, prev]
    cases gOk (gapsAll p) none gaps
    · rfl
    · have e := L60_2_eq n hn gaps hg p [] (by omega) (fun t ht => by have := hl.2 t ht; omega) p.length n 0 0 [] (by omega) (by omega) (by omega) rfl
      have e : L60_2 n n gaps ([], ()) ([], ()) (0 : Int) p (p.length : Int) (0 : Int) = _ := e
      simp only [cond_true, Bool.true_and, e, List.nil_append, List.drop_zero]
      rw [decide_eq_false (show ¬ ((gapsAll p : Int) < 0) by omega), F37_eq n hn _ (fun t ht => by
        obtain ⟨s, h1, h2⟩ := wallP_mem gaps p 0 t ht
        have := hl.2 s h1
        omega)]
      simp only [cond_false, Option.bind_some]
      cases progOk (wallP gaps 0 p) <;> simp
end Go.Proofs.Ytaehbfaldofmbaa.Ev
