/- What the marks of programs, executions and what is seen come to. Conditions: none. -/
import Derived.Test.YtdacfaincamliaaGK
import Derived.Test.YtdacfaincamliaaQT
import Derived.Test.YtdacfaincamliaaQX
namespace Go.Proofs.Ytdacfaincamliaa.Ev
open Go

theorem getD_set_eq {α : Type} {xs : List α} {i : Nat} (y d : α) (h : i < xs.length) : (xs.set i y).getD i d = y := by
  rw [List.getD_eq_getElem?_getD, List.getElem?_set_self h]; rfl
theorem take_set_succ {α : Type} {xs : List α} {i : Nat} (y : α) (h : i < xs.length) : (xs.set i y).take (i + 1) = xs.take i ++ [y] := by
  rw [List.take_add_one, List.getElem?_set_self h, List.take_set_of_le (Nat.le_refl _)]
  rfl
theorem drop_set {α : Type} {xs : List α} {i : Nat} (y : α) : (xs.set i y).drop (i + 1) = xs.drop (i + 1) := by
  rw [List.drop_set, if_pos (by omega)]
theorem set_set {α : Type} {xs : List α} {i : Nat} (y z : α) : (xs.set i y).set i z = xs.set i z := by simp

/-! ### Marks of programs -/
def mkD : Nat → Int → List D3
  | 0, _ => []
  | l + 1, k => (k, k + 1, k + 1 + 1) :: mkD l (k + 1 + 1 + 1)
theorem mkD_len : ∀ (l : Nat) (k : Int), (mkD l k).length = l
  | 0, _ => rfl
  | l + 1, k => by simp [mkD, mkD_len l]
theorem L103_eq (n : Nat) : ∀ (l m i : Nat) (k : Int) (xs pre : List D3), xs.length ≤ 9223372036854775806 → i + l = xs.length → l < m → 0 ≤ k → k + 3 * l ≤ 9223372036854775807 → xs.take i = pre →
    L103_0 n m xs k (i : Int) = some (.inl (pre ++ mkD l k, k + 3 * l, ()))
  | 0, m + 1, i, k, xs, pre, hx, hi, hm, h0, h1, hp => by
    unfold L103_0
    rw [show decide ((i : Int) < (xs.length : Int)) = false from decide_eq_false (by omega), cond_false]
    subst hp
    rw [List.take_of_length_le (by omega)]
    simp [mkD]
  | l + 1, m + 1, i, k, xs, pre, hx, hi, hm, h0, h1, hp => by
    have hlt : i < xs.length := by omega
    have w1 : IntKind.i64.wrap (k + 1) = k + 1 := w64 (by omega) (by omega)
    have w2 : IntKind.i64.wrap (k + 1 + 1) = k + 1 + 1 := w64 (by omega) (by omega)
    have w3 : IntKind.i64.wrap (k + 1 + 1 + 1) = k + 1 + 1 + 1 := w64 (by omega) (by omega)
    unfold L103_0
    simp only [lt_ii, le_0i, hlt, Int.toNat_natCast, if_true, decide_true, cond_true, List.length_set, w1, w2, w3, set_set, getD_set_eq _ _ hlt, List.set_set, getD_set_eq]
    rw [w64s (i := i) (k := l) (by omega)]
    rw [L103_eq n l m (i + 1) _ _ (pre ++ [(k, k + 1, k + 1 + 1)]) (by simp; omega) (by simp; omega) (by omega) (by omega) (by omega) (by rw [take_set_succ _ hlt, hp])]
    simp only [mkD, List.append_assoc, List.singleton_append]
    have : k + 1 + 1 + 1 + 3 * (l : Int) = k + 3 * ((l + 1 : Nat) : Int) := by push_cast; omega
    rw [this]
theorem F103_eq (n : Nat) (xs : List D3) (k : Int) (hn : 1048576 < n) (hx : xs.length ≤ 1048576) (h0 : 0 ≤ k) (h1 : k + 3145728 ≤ 9223372036854775807) : F103 n xs k = some (k + 3 * xs.length, mkD xs.length k, ()) := by
  unfold F103
  have e := L103_eq n xs.length n 0 k xs [] (by omega) (by omega) (by omega) h0 (by omega) rfl
  have e : L103_0 n n xs k (0 : Int) = _ := e
  rw [e]
  rfl

/-- Marks of a program. -/
def mkP : List (List D3) → Int → List (List D3)
  | [], _ => []
  | t :: p, k => mkD t.length k :: mkP p (k + 3 * t.length)
def mkK : List (List D3) → Int → Int
  | [], k => k
  | t :: p, k => mkK p (k + 3 * t.length)
theorem mkP_len : ∀ (p : List (List D3)) (k : Int), (mkP p k).length = p.length
  | [], _ => rfl
  | t :: p, k => by simp [mkP, mkP_len p]
theorem mkK_ge : ∀ (p : List (List D3)) (k : Int), k ≤ mkK p k
  | [], k => Int.le_refl _
  | t :: p, k => by have := mkK_ge p (k + 3 * t.length); simp only [mkK]; omega
theorem L60_eq (n : Nat) (hn : 1048576 < n) : ∀ (q : List (List D3)) (m i : Nat) (k : Int) (xs pre : List (List D3)), xs.length ≤ 1048576 → i + q.length = xs.length → q.length < m → 0 ≤ k → k + 3145728 * q.length ≤ 9223372036854775807 → xs.take i = pre → xs.drop i = q → (∀ t ∈ q, t.length ≤ 1048576) →
    L60_0 n m xs k (i : Int) = some (.inl (pre ++ mkP q k, mkK q k, ()))
  | [], m + 1, i, k, xs, pre, hx, hi, hm, h0, h1, hp, hd, hs => by
    simp only [List.length_nil] at hi
    unfold L60_0
    rw [show decide ((i : Int) < (xs.length : Int)) = false from decide_eq_false (by omega), cond_false]
    subst hp
    rw [List.take_of_length_le (by omega)]
    simp [mkP, mkK]
  | t :: q, m + 1, i, k, xs, pre, hx, hi, hm, h0, h1, hp, hd, hs => by
    simp only [List.length_cons] at hi hm h1
    have hlt : i < xs.length := by omega
    have ht := hs t (by simp)
    rw [getD_drop xs i [] hlt] at hd
    injection hd with hd1 hd2
    unfold L60_0
    simp only [lt_ii, le_0i, hlt, Int.toNat_natCast, if_true, decide_true, cond_true, hd1]
    rw [F103_eq n t k hn ht h0 (by omega), Option.bind_some, if_pos (by rw [List.length_take]; omega), w64s (i := i) (k := q.length) (by omega)]
    simp only
    rw [take_put _ hlt, L60_eq n hn q m (i + 1) _ _ (pre ++ [mkD t.length k]) (by simp; omega) (by simp; omega) (by omega) (by omega) (by omega) (by rw [take_set_succ _ hlt, hp]) (by rw [drop_set]; exact hd2) (fun u hu => hs u (by simp [hu]))]
    simp only [mkP, mkK, List.append_assoc, List.singleton_append]
theorem F22_eq (n : Nat) (hn : 1048576 < n) (p : List (List D3)) (h : Small2 p) (k : Int) (h0 : 0 ≤ k) (h1 : k ≤ 1048576) : F22 n p k = some (mkK p k, mkP p k, ()) := by
  have hp := h.1
  unfold F22 F60
  have e := L60_eq n hn p n 0 k p [] (by omega) (by omega) (by omega) h0 (by omega) rfl rfl h.2
  have e : L60_0 n n p k (0 : Int) = _ := e
  rw [e]
  rfl
theorem mkK_le : ∀ (p : List (List D3)) (k : Int), (∀ t ∈ p, t.length ≤ 1048576) → mkK p k ≤ k + 3145728 * p.length
  | [], k, _ => by simp [mkK]
  | t :: p, k, h => by
    have := mkK_le p (k + 3 * t.length) fun u hu => h u (by simp [hu])
    have := h t (by simp)
    simp only [mkK, List.length_cons]
    omega

/-! ### Marks of rows -/
def mkI : Nat → Int → List Int
  | 0, _ => []
  | l + 1, k => k :: mkI l (k + 1)
theorem mkI_len : ∀ (l : Nat) (k : Int), (mkI l k).length = l
  | 0, _ => rfl
  | l + 1, k => by simp [mkI, mkI_len l]
theorem L23_eq (n : Nat) : ∀ (l m i : Nat) (k : Int) (xs pre : List Int), xs.length ≤ 1048576 → i + l = xs.length → l < m → 0 ≤ k → k + l ≤ 9223372036854775807 → xs.take i = pre →
    L23_0 n m xs k (i : Int) = some (.inl (pre ++ mkI l k, k + l, ()))
  | 0, m + 1, i, k, xs, pre, hx, hi, hm, h0, h1, hp => by
    unfold L23_0
    rw [show decide ((i : Int) < (xs.length : Int)) = false from decide_eq_false (by omega), cond_false]
    subst hp
    rw [List.take_of_length_le (by omega)]
    simp [mkI]
  | l + 1, m + 1, i, k, xs, pre, hx, hi, hm, h0, h1, hp => by
    have hlt : i < xs.length := by omega
    have w1 : IntKind.i64.wrap (k + 1) = k + 1 := w64 (by omega) (by omega)
    unfold L23_0
    simp only [lt_ii, le_0i, hlt, Int.toNat_natCast, if_true, decide_true, cond_true, w1]
    rw [w64s (i := i) (k := l) (by omega), L23_eq n l m (i + 1) (k + 1) (xs.set i k) (pre ++ [k]) (by simp; omega) (by simp; omega) (by omega) (by omega) (by omega) (by rw [take_set_succ _ hlt, hp])]
    simp only [mkI, List.append_assoc, List.singleton_append]
    rw [show k + 1 + (l : Int) = k + ((l + 1 : Nat) : Int) by push_cast; omega]
theorem F23_eq (n : Nat) (xs : List Int) (k : Int) (hn : 1048576 < n) (hx : xs.length ≤ 1048576) (h0 : 0 ≤ k) (h1 : k + 1048576 ≤ 9223372036854775807) : F23 n xs k = some (k + xs.length, mkI xs.length k, ()) := by
  have e : L23_0 n n xs k (0 : Int) = _ := L23_eq n xs.length n 0 k xs [] hx (by omega) (by omega) h0 (by omega) rfl
  unfold F23
  rw [e]
  rfl
theorem L90_eq (n : Nat) (hn : 1048576 < n) : ∀ (l m i : Nat) (k : Int) (xs : List (List Int)), xs.length ≤ 1048576 → i + l = xs.length → l < m → 0 ≤ k → k + 1048576 * (l + 1) ≤ 9223372036854775807 → (∀ t ∈ xs.drop i, t.length ≤ 1048576) →
    ∃ ys r, L90_0 n m xs k (i : Int) = some (.inl (ys, r, ())) ∧ 0 ≤ r
  | 0, m + 1, i, k, xs, hx, hi, hm, h0, h1, hs => by
    unfold L90_0
    rw [show decide ((i : Int) < (xs.length : Int)) = false from decide_eq_false (by omega), cond_false]
    exact ⟨xs, k, rfl, h0⟩
  | l + 1, m + 1, i, k, xs, hx, hi, hm, h0, h1, hs => by
    have hlt : i < xs.length := by omega
    rw [getD_drop xs i [] hlt] at hs
    have ht := hs _ (List.mem_cons_self)
    unfold L90_0
    simp only [lt_ii, le_0i, hlt, Int.toNat_natCast, if_true, decide_true, cond_true]
    rw [F23_eq n _ k hn ht h0 (by omega), Option.bind_some, if_pos (by rw [List.length_take]; omega), w64s (i := i) (k := l) (by omega)]
    simp only
    rw [take_put _ hlt]
    exact L90_eq n hn l m (i + 1) _ _ (by simp; omega) (by simp; omega) (by omega) (by omega) (by push_cast at h1 ⊢; omega) (by rw [drop_set]; exact fun t ht => hs t (by simp [ht]))
theorem F48_eq (n : Nat) (hn : 1048576 < n) (x : Xn) (h : x.1.length ≤ 1048576) (h2 : SmallI x.2) (k : Int) (h0 : 0 ≤ k) (h1 : k ≤ 9223370000000000000) : ∃ r ys, F48 n x k = some (r, ys, ()) ∧ 0 ≤ r := by
  have hl := h2.1
  obtain ⟨ys, r, e, hr⟩ := L90_eq n hn x.2.length n 0 (k + x.1.length) x.2 h2.1 (by omega) (by omega) (by omega) (by omega) (by simpa using h2.2)
  have e : L90_0 n n x.2 (k + x.1.length) (0 : Int) = _ := e
  unfold F48 F90
  rw [F23_eq n x.1 k hn h h0 (by omega), Option.bind_some]
  simp only [e]
  exact ⟨r, _, rfl, hr⟩
theorem F24_eq (n : Nat) (hn : 1048576 < n) (s : List Int × List Int) (h1 : s.1.length ≤ 1048576) (h2 : s.2.length ≤ 1048576) : F24 n s 1 = some (((1 : Int) + (s.1.length : Int) + (s.2.length : Int)), (mkI s.1.length 1, mkI s.2.length ((1 : Int) + (s.1.length : Int))), ()) := by
  unfold F24
  rw [F23_eq n s.1 1 hn h1 (by omega) (by omega), Option.bind_some, F23_eq n s.2 _ hn h2 (by omega) (by omega)]
  rfl
theorem L61_eq (n : Nat) (xs : List Int) (hx : xs.length ≤ 1048576) : ∀ (l m i : Nat) (k : Int), i + l = xs.length → l < m → 0 ≤ k → k + l ≤ 9223372036854775807 → xs.drop i = mkI l k →
    L61_0 n m xs k (i : Int) = some (.inr (.inl (k + l, ())))
  | 0, m + 1, i, k, hi, hm, h0, h1, hp => by
    unfold L61_0
    rw [show decide ((i : Int) < (xs.length : Int)) = false from decide_eq_false (by omega), cond_false]
    simp
  | l + 1, m + 1, i, k, hi, hm, h0, h1, hp => by
    have hlt : i < xs.length := by omega
    have w1 : IntKind.i64.wrap (k + 1) = k + 1 := w64 (by omega) (by omega)
    rw [getD_drop xs i 0 hlt] at hp
    injection hp with hp1 hp2
    unfold L61_0
    simp only [lt_ii, le_0i, hlt, Int.toNat_natCast, if_true, decide_true, cond_true, w1, hp1, bne_int, Bool.not_true, cond_false]
    rw [w64s (i := i) (k := l) (by omega), L61_eq n xs hx l m (i + 1) (k + 1) (by omega) (by omega) (by omega) (by omega) hp2]
    rw [show k + 1 + (l : Int) = k + ((l + 1 : Nat) : Int) by push_cast; omega]
theorem F61_eq (n : Nat) (hn : 1048576 < n) (l : Nat) (k : Int) (hl : l ≤ 1048576) (h0 : 0 ≤ k) (h1 : k + 1048576 ≤ 9223372036854775807) : F61 n (mkI l k) k = some (k + l, ()) := by
  have hx := mkI_len l k
  have e : L61_0 n n (mkI l k) k (0 : Int) = _ := L61_eq n (mkI l k) (by omega) l n 0 k (by omega) (by omega) h0 (by omega) rfl
  unfold F61
  rw [e]
theorem F25_eq (n : Nat) (hn : 1048576 < n) (a b : Nat) (h1 : a ≤ 1048576) (h2 : b ≤ 1048576) : F25 n (mkI a 1, mkI b ((1 : Int) + (a : Int))) 1 = some (((1 : Int) + (a : Int) + (b : Int)), ()) := by
  unfold F25
  rw [F61_eq n hn a 1 h1 (by omega) (by omega), Option.bind_some]
  simp only
  rw [decide_eq_false (show ¬ (1 + (a : Int)) < 0 by omega), cond_false, F61_eq n hn b (1 + a) h2 (by omega) (by omega), Option.bind_some]
  simp only
  rw [decide_eq_false (show ¬ (1 + (a : Int) + b) < 0 by omega), cond_false]
end Go.Proofs.Ytdacfaincamliaa.Ev
