/- What the printed functions about events come to. Conditions: none. -/
import Derived.Test.YtdacfaincamliaaGE
import Derived.Test.YtdacfaincamliaaQA
namespace Go.Proofs.Ytdacfaincamliaa.Ev
open Go
abbrev E3 := Int × Int × Bool

/-- The events of a thread, from a step on. -/
def evT (t : Nat) : Nat → List D3 → List E3
  | _, [] => []
  | i, d :: l => ((t : Int), (i : Int), false) :: ((if d.1 = 9 then [((t : Int), (i : Int), true)] else []) ++ evT t (i + 1) l)
/-- The events of a program, from a thread on. -/
def evP : Nat → List (List D3) → List E3
  | _, [] => []
  | t, s :: p => evT t 0 s ++ evP (t + 1) p
theorem evT_len (t : Nat) : ∀ (l : List D3) (i : Nat), (evT t i l).length ≤ 2 * l.length
  | [], i => by simp [evT]
  | d :: l, i => by
    have := evT_len t l (i + 1)
    simp only [evT, List.length_cons, List.length_append]
    split <;> simp <;> omega
theorem evP_len : ∀ (p : List (List D3)) (t : Nat), (evP t p).length ≤ 2 * lens p
  | [], t => by simp [evP]
  | s :: p, t => by
    have := evP_len p (t + 1)
    have := evT_len t s 0
    simp only [evP, lens, List.length_append]
    omega

theorem L42_2_eq (n : Nat) (p : List (List D3)) (a : Int) (t : Nat) (s : List D3) (hs : s.length ≤ 1000) : ∀ (k m i : Nat) (acc : List E3), i + k = s.length → k < m → acc.length ≤ 100000 + 2 * i →
    L42_2 n m acc (t : Int) p a (t : Int) s (s.length : Int) (i : Int) = some (.inl (acc ++ evT t i (s.drop i), p, a, (t : Int), ()))
  | 0, m + 1, i, acc, hi, hm, hl => by
    have : i = s.length := by omega
    subst this
    unfold L42_2
    simp [evT]
  | k + 1, m + 1, i, acc, hi, hm, hl => by
    have hlt : i < s.length := by omega
    have ih := fun acc => L42_2_eq n p a t s hs k m (i + 1) acc (by omega) (by omega)
    unfold L42_2
    simp only [lt_ii, le_0i, hlt, Int.toNat_natCast, if_true, decide_true, cond_true, List.length_append, List.length_cons, List.length_nil]
    rw [getD_drop s i ((0 : Int), (0 : Int), (0 : Int)) hlt, if_pos (by omega)]
    simp only [evT, J42_13]
    rw [w64s (show i + k ≤ 9223372036854775806 by omega)]
    by_cases h9 : (s.getD i ((0 : Int), (0 : Int), (0 : Int))).1 = 9
    · have : ((s.getD i ((0 : Int), (0 : Int), (0 : Int))).1 == (9 : Int)) = true := by rw [beq_int]; exact decide_eq_true h9
      simp only [this, cond_true, h9, if_true]
      rw [if_pos (by omega), ih _ (by simp; omega)]
      simp
    · have : ((s.getD i ((0 : Int), (0 : Int), (0 : Int))).1 == (9 : Int)) = false := by rw [beq_int]; exact decide_eq_false h9
      simp only [this, cond_false, h9, if_false]
      rw [ih _ (by simp; omega)]
      simp

theorem L42_0_eq (n : Nat) (hn : 1048576 < n) (p : List (List D3)) (hs : ∀ t ∈ p, t.length ≤ 1000) (hp : p.length ≤ 40) : ∀ (k m i : Nat) (acc : List E3), i + k = p.length → k < m → acc.length ≤ 2000 * i →
    L42_0 n m acc p (p.length : Int) (i : Int) = some (.inl (acc ++ evP i (p.drop i), ()))
  | 0, m + 1, i, acc, hi, hm, hl => by
    have : i = p.length := by omega
    subst this
    unfold L42_0
    simp [evP]
  | k + 1, m + 1, i, acc, hi, hm, hl => by
    have hlt : i < p.length := by omega
    have hsz := hs _ (getD_mem p i [] hlt)
    have ih := fun acc => L42_0_eq n hn p hs hp k m (i + 1) acc (by omega) (by omega)
    have e := L42_2_eq n p (p.length : Int) i (p.getD i []) hsz (p.getD i []).length n 0 acc (by omega) (by omega) (by omega)
    have e : L42_2 n n acc (i : Int) p (p.length : Int) (i : Int) (p.getD i []) ((p.getD i []).length : Int) (0 : Int) = _ := e
    have hT := evT_len i (p.getD i []) 0
    unfold L42_0
    simp only [lt_ii, le_0i, hlt, Int.toNat_natCast, if_true, decide_true, cond_true, e]
    rw [w64s (show i + k ≤ 9223372036854775806 by omega), List.drop_zero, ih _ (by rw [List.length_append]; omega), getD_drop p i [] hlt]
    simp [evP]

theorem len3 {p : List (List D3)} (h : progOk p = true) : p.length ≤ 3 ∧ ∀ t ∈ p, t.length ≤ 7 := by
  unfold progOk at h
  simp only [Bool.and_eq_true, decide_eq_true_eq, List.all_eq_true] at h
  exact ⟨h.1, fun t ht => thOk_len (h.2.1 t ht)⟩

theorem F42_eq (n : Nat) (hn : 1048576 < n) (p : List (List D3)) (hs : ∀ t ∈ p, t.length ≤ 1048576) : F42 n p = some (if progOk p then evP 0 p else [], ()) := by
  unfold F42
  rw [F69_eq n hn p hs, Option.bind_some]
  cases h : progOk p
  · rfl
  · have hl := len3 h
    have e := L42_0_eq n hn p (fun t ht => by have := hl.2 t ht; omega) (by omega) p.length n 0 [] (by omega) (by omega) (by simp)
    rw [List.drop_zero, List.nil_append] at e
    have e : L42_0 n n [] p (p.length : Int) (0 : Int) = _ := e
    simp only [e, Bool.not_true, cond_false, if_true]

theorem L65_2_eq (n : Nat) (p : List (List D3)) (t : Nat) (ht : t < p.length) (hs : (p.getD t []).length ≤ 1000) : ∀ (k m i : Nat) (acc : List E3), i + k = (p.getD t []).length → k < m → acc.length ≤ 100000 + 2 * i →
    L65_2 n m (p, ()) acc (t : Int) (i : Int) = some (.inl ((p, ()), acc ++ evT t i ((p.getD t []).drop i), (t : Int), ()))
  | 0, m + 1, i, acc, hi, hm, hl => by
    unfold L65_2
    simp only [lt_ii, le_0i, ht, Int.toNat_natCast, if_true]
    rw [show decide (i < (p.getD t []).length) = false from decide_eq_false (by omega), cond_false, List.drop_eq_nil_of_le (by omega)]
    simp [evT]
  | k + 1, m + 1, i, acc, hi, hm, hl => by
    have hlt : i < (p.getD t []).length := by omega
    have ih := fun acc => L65_2_eq n p t ht hs k m (i + 1) acc (by omega) (by omega)
    unfold L65_2
    simp only [lt_ii, le_0i, ht, hlt, Int.toNat_natCast, if_true, decide_true, cond_true, List.length_append, List.length_cons, List.length_nil]
    rw [getD_drop (p.getD t []) i ((0 : Int), (0 : Int), (0 : Int)) hlt, if_pos (by omega)]
    simp only [evT, J65_9]
    rw [w64s (show i + k ≤ 9223372036854775806 by omega)]
    by_cases h9 : ((p.getD t []).getD i ((0 : Int), (0 : Int), (0 : Int))).1 = 9
    · have : (((p.getD t []).getD i ((0 : Int), (0 : Int), (0 : Int))).1 == (9 : Int)) = true := by rw [beq_int]; exact decide_eq_true h9
      simp only [this, cond_true, h9, if_true]
      rw [if_pos (by omega), ih _ (by simp; omega)]
      simp
    · have : (((p.getD t []).getD i ((0 : Int), (0 : Int), (0 : Int))).1 == (9 : Int)) = false := by rw [beq_int]; exact decide_eq_false h9
      simp only [this, cond_false, h9, if_false]
      rw [ih _ (by simp; omega)]
      simp

theorem L65_0_eq (n : Nat) (hn : 1048576 < n) (p : List (List D3)) (hs : ∀ t ∈ p, t.length ≤ 1000) (hp : p.length ≤ 40) : ∀ (k m i : Nat) (acc : List E3), i + k = p.length → k < m → acc.length ≤ 2000 * i →
    L65_0 n m (p, ()) acc (i : Int) = some (.inl (acc ++ evP i (p.drop i), ()))
  | 0, m + 1, i, acc, hi, hm, hl => by
    have : i = p.length := by omega
    subst this
    unfold L65_0
    simp [evP]
  | k + 1, m + 1, i, acc, hi, hm, hl => by
    have hlt : i < p.length := by omega
    have hsz := hs _ (getD_mem p i [] hlt)
    have ih := fun acc => L65_0_eq n hn p hs hp k m (i + 1) acc (by omega) (by omega)
    have e := L65_2_eq n p i hlt hsz (p.getD i []).length n 0 acc (by omega) (by omega) (by omega)
    have e : L65_2 n n (p, ()) acc (i : Int) (0 : Int) = _ := e
    have hT := evT_len i (p.getD i []) 0
    unfold L65_0
    simp only [lt_ii, hlt, decide_true, cond_true, e]
    rw [w64s (show i + k ≤ 9223372036854775806 by omega), List.drop_zero, ih _ (by rw [List.length_append]; omega), getD_drop p i [] hlt]
    simp [evP]

theorem F65_eq (n : Nat) (hn : 1048576 < n) (p : List (List D3)) : F65 n p = some (if progOk p then evP 0 p else [], ()) := by
  unfold F65
  rw [F36_eq n hn p, Option.bind_some]
  cases h : progOk p
  · rfl
  · have hl := len3 h
    have e := L65_0_eq n hn p (fun t ht => by have := hl.2 t ht; omega) (by omega) p.length n 0 [] (by omega) (by omega) (by simp)
    rw [List.drop_zero, List.nil_append] at e
    have e : L65_0 n n (p, ()) [] (0 : Int) = _ := e
    simp only [e, Bool.not_true, cond_false, if_true]

end Go.Proofs.Ytdacfaincamliaa.Ev
