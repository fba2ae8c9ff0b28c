/- The law of events, over its plain functions. Conditions: none. -/
import Derived.Test.YtaehbfaldofmbaaG12
import Derived.Test.YtaehbfaldofmbaaQP
import Derived.Test.YtaehbfaldofmbaaQE
namespace Go.Proofs.Ytaehbfaldofmbaa.Ev
open Go

/-- The list's end, from a number on, is this and that behind it. -/
theorem getD_of_drop {α : Type} {xs ys : List α} {x d : α} {j : Nat} (h : xs.drop j = x :: ys) : xs.getD j d = x ∧ j < xs.length ∧ xs.drop (j + 1) = ys := by
  have hj : j < xs.length := by
    by_cases hj : j < xs.length
    · exact hj
    · rw [List.drop_eq_nil_of_le (by omega)] at h; cases h
  rw [getD_drop xs j d hj] at h
  injection h with h1 h2
  exact ⟨h1, hj, h2⟩

theorem L12_2_eq (n : Nat) (p : List (List D3)) (xs : List E3) (hx : xs.length ≤ 1000000) (t : Nat) (ht : t < p.length) (hs : (p.getD t []).length ≤ 1000) (rest : List E3) : ∀ (k m i j : Nat), i + k = (p.getD t []).length → k < m → xs.drop j = evT t i ((p.getD t []).drop i) ++ rest → j ≤ xs.length →
    ∃ j' : Nat, L12_2 n m (p, ()) xs (j : Int) (t : Int) (i : Int) = some (.inr (.inl ((p, ()), xs, (j' : Int), (t : Int), ()))) ∧ xs.drop j' = rest ∧ j' ≤ xs.length
  | 0, m + 1, i, j, hi, hm, hd, hjl => by
    unfold L12_2
    simp only [lt_ii, le_0i, ht, Int.toNat_natCast, if_true]
    rw [show decide (i < (p.getD t []).length) = false from decide_eq_false (by omega), cond_false]
    rw [show (p.getD t []).drop i = [] from List.drop_eq_nil_of_le (by omega)] at hd
    exact ⟨j, rfl, by simpa [evT] using hd, hjl⟩
  | k + 1, m + 1, i, j, hi, hm, hd, hjl => by
    have hlt : i < (p.getD t []).length := by omega
    have ih := fun j => L12_2_eq n p xs hx t ht hs rest k m (i + 1) j (by omega) (by omega)
    rw [getD_drop (p.getD t []) i ((0 : Int), (0 : Int), (0 : Int)) hlt] at hd
    simp only [evT, List.cons_append] at hd
    obtain ⟨e1, hj, hd2⟩ := getD_of_drop (d := ((0 : Int), (0 : Int), false)) hd
    unfold L12_2
    have e0 : decide ((j : Int) ≥ (xs.length : Int)) = false := decide_eq_false (by omega)
    simp only [lt_ii, le_0i, ht, hlt, hj, Int.toNat_natCast, if_true, decide_true, cond_true, e0, cond_false, e1, beq_self_eq_true, Bool.and_self, Bool.not_true]
    unfold J12_16
    have w1 := w64s (i := j) (k := 0) (by omega)
    simp only [lt_ii, le_0i, ht, hlt, Int.toNat_natCast, if_true, w1]
    by_cases h9 : ((p.getD t []).getD i ((0 : Int), (0 : Int), (0 : Int))).1 = 9
    · have : (((p.getD t []).getD i ((0 : Int), (0 : Int), (0 : Int))).1 == (9 : Int)) = true := by rw [beq_int]; exact decide_eq_true h9
      simp only [this, cond_true]
      rw [if_pos h9] at hd2
      obtain ⟨e2, hj2, hd3⟩ := getD_of_drop (d := ((0 : Int), (0 : Int), false)) hd2
      have e3 : decide (((j + 1 : Nat) : Int) ≥ (xs.length : Int)) = false := decide_eq_false (by omega)
      simp only [e3, cond_false, lt_ii, hj2, if_true, e2, beq_self_eq_true, Bool.and_self, Bool.not_true, J12_20, J12_13]
      rw [w64s (i := j + 1) (k := 0) (by omega), w64s (i := i) (k := 0) (by omega)]
      exact ih (j + 1 + 1) hd3 (by omega)
    · have : (((p.getD t []).getD i ((0 : Int), (0 : Int), (0 : Int))).1 == (9 : Int)) = false := by rw [beq_int]; exact decide_eq_false h9
      simp only [this, cond_false, J12_13]
      rw [if_neg h9, List.nil_append] at hd2
      rw [w64s (i := i) (k := 0) (by omega)]
      exact ih (j + 1) hd2 (by omega)

theorem L12_0_eq (n : Nat) (hn : 1048576 < n) (p : List (List D3)) (xs : List E3) (hx : xs.length ≤ 1000000) (hp : p.length ≤ 1000) (hs : ∀ t ∈ p, t.length ≤ 1000) : ∀ (k m i j : Nat), i + k = p.length → k < m → xs.drop j = evP i (p.drop i) → j ≤ xs.length →
    L12_0 n m (p, ()) xs (j : Int) (i : Int) = some (.inr (.inl (xs, (xs.length : Int), ())))
  | 0, m + 1, i, j, hi, hm, hd, hj => by
    have : i = p.length := by omega
    subst this
    unfold L12_0
    simp only [List.drop_length, evP] at hd
    have : xs.length ≤ j := List.drop_eq_nil_iff.mp hd
    have : j = xs.length := by omega
    subst this
    simp
  | k + 1, m + 1, i, j, hi, hm, hd, hj => by
    have hlt : i < p.length := by omega
    have hsz := hs _ (getD_mem p i [] hlt)
    rw [getD_drop p i [] hlt] at hd
    simp only [evP] at hd
    obtain ⟨j', e, hd', hj'⟩ := L12_2_eq n p xs hx i hlt hsz (evP (i + 1) (p.drop (i + 1))) (p.getD i []).length n 0 j (by omega) (by omega) (by rw [List.drop_zero]; exact hd) hj
    have e : L12_2 n n (p, ()) xs (j : Int) (i : Int) (0 : Int) = _ := e
    unfold L12_0
    simp only [lt_ii, hlt, decide_true, cond_true, e]
    rw [w64s (show i + k ≤ 9223372036854775806 by omega)]
    exact L12_0_eq n hn p xs hx hp hs k m (i + 1) j' (by omega) (by omega) hd' hj'

theorem pure_FnExecEvents (xs : pdens [.c false (.v true (.rs 5 (.int .u8)))]) (hg : GoodP 0 [.c false (.v true (.rs 5 (.int .u8)))] xs) :
    ∃ n, F12 n xs.1 = some (true, ()) := by
  obtain ⟨c, _⟩ := xs
  obtain ⟨⟨h1, h2⟩, _⟩ := hg
  refine ⟨1048577, ?_⟩
  have hn : 1048576 < 1048577 := by omega
  generalize 1048577 = n at *
  unfold F12
  by_cases hc : (c.length : Int) > 1048576
  · simp only [hc, decide_true, cond_true]
  · simp only [hc, decide_false, cond_false]
    obtain ⟨b, q, p', k1, k2, _, _, l1, l2, l3⟩ := any_ok n hn c (goodBytes (by omega) h2) (fun _ => some ())
    unfold F47
    simp only [k1, k2, F48_eq n hn q (fun t ht => by have := l3 t ht; omega), F50_eq n hn, F35_eq n hn, Option.bind_some]
    cases hok : progOk q
    · have e := F49_self n hn [] (by simp)
      simp only [Bool.false_eq_true, if_false, e, Option.bind_some, Bool.not_true, cond_false, Bool.not_false, cond_true]
    · have hL : lens q ≤ 14 := (progOkIff.mp hok).2.2.1
      have hlen := evP_len q 0
      have e := F49_self n hn (evP 0 q) (by omega)
      simp only [if_true, e, Option.bind_some, Bool.not_true, cond_false]
      unfold J12_7
      have e2 := L12_0_eq n hn q (evP 0 q) (by omega) (by omega) (fun t ht => by have := l3 t ht; omega) q.length n 0 0 (by omega) (by omega) rfl (by omega)
      have e2 : L12_0 n n (q, ()) (evP 0 q) (0 : Int) (0 : Int) = _ := e2
      simp only [e2, beq_self_eq_true]
end Go.Proofs.Ytaehbfaldofmbaa.Ev
