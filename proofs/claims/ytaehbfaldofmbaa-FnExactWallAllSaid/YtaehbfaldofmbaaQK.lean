/- What the printed marks come to. Conditions: none. -/
import Derived.Test.YtaehbfaldofmbaaGK
import Derived.Test.YtaehbfaldofmbaaQE
namespace Go.Proofs.Ytaehbfaldofmbaa.Ev
open Go

theorem getD_set_eq {α : Type} {xs : List α} {i : Nat} (y d : α) (h : i < xs.length) : (xs.set i y).getD i d = y := by
  rw [List.getD_eq_getElem?_getD, List.getElem?_set_self h]; rfl
theorem take_set_succ {α : Type} {xs : List α} {i : Nat} (y : α) (h : i < xs.length) : (xs.set i y).take (i + 1) = xs.take i ++ [y] := by
  rw [List.take_add_one, List.getElem?_set_self h, List.take_set_of_le (Nat.le_refl _)]
  rfl
theorem drop_set {α : Type} {xs : List α} {i : Nat} (y : α) : (xs.set i y).drop (i + 1) = xs.drop (i + 1) := by
  rw [List.drop_set, if_pos (by omega)]
theorem set_set {α : Type} {xs : List α} {i : Nat} (y z : α) : (xs.set i y).set i z = xs.set i z := by simp

/-- Marks of events. -/
def mkE : Nat → Int → List E3
  | 0, _ => []
  | l + 1, k => (k, k + 1, ((k + 1 + 1).tmod 3 == 0)) :: mkE l (k + 1 + 1 + 1)
theorem mkE_len : ∀ (l : Nat) (k : Int), (mkE l k).length = l
  | 0, _ => rfl
  | l + 1, k => by simp [mkE, mkE_len l]

theorem L54_eq (n : Nat) : ∀ (l m i : Nat) (k : Int) (xs pre : List E3), xs.length ≤ 9223372036854775806 → i + l = xs.length → l < m → 0 ≤ k → k + 3 * l ≤ 9223372036854775807 → xs.take i = pre →
    L54_0 n m xs k (i : Int) = some (.inl (pre ++ mkE l k, k + 3 * l, ()))
  | 0, m + 1, i, k, xs, pre, hx, hi, hm, h0, h1, hp => by
    unfold L54_0
    rw [show decide ((i : Int) < (xs.length : Int)) = false from decide_eq_false (by omega), cond_false]
    subst hp
    rw [List.take_of_length_le (by omega)]
    simp [mkE]
  | l + 1, m + 1, i, k, xs, pre, hx, hi, hm, h0, h1, hp => by
    have hlt : i < xs.length := by omega
    have w1 : IntKind.i64.wrap (k + 1) = k + 1 := w64 (by omega) (by omega)
    have w2 : IntKind.i64.wrap (k + 1 + 1) = k + 1 + 1 := w64 (by omega) (by omega)
    have w3 : IntKind.i64.wrap (k + 1 + 1 + 1) = k + 1 + 1 + 1 := w64 (by omega) (by omega)
    unfold L54_0
    simp only [lt_ii, le_0i, hlt, Int.toNat_natCast, if_true, decide_true, cond_true, List.length_set, w1, w2, w3, set_set, getD_set_eq _ _ hlt, List.set_set, getD_set_eq]
    rw [w64s (i := i) (k := l) (by omega)]
    rw [L54_eq n l m (i + 1) _ _ (pre ++ [(k, k + 1, ((k + 1 + 1).tmod 3 == 0))]) (by simp; omega) (by simp; omega) (by omega) (by omega) (by omega) (by rw [take_set_succ _ hlt, hp])]
    simp only [mkE, List.append_assoc, List.singleton_append]
    have : k + 1 + 1 + 1 + 3 * (l : Int) = k + 3 * ((l + 1 : Nat) : Int) := by push_cast; omega
    rw [this]

theorem F54_eq (n : Nat) (xs : List E3) (k : Int) (hn : 1048576 < n) (hx : xs.length ≤ 1048576) (h0 : 0 ≤ k) (h1 : k ≤ 1048576) : F54 n xs k = some (k + 3 * xs.length, mkE xs.length k, ()) := by
  unfold F54
  have e := L54_eq n xs.length n 0 k xs [] (by omega) (by omega) (by omega) h0 (by omega) rfl
  have e : L54_0 n n xs k (0 : Int) = _ := e
  rw [e]
  rfl

theorem L55_eq (n : Nat) (xs : List E3) (hx : xs.length ≤ 9223372036854775806) : ∀ (l m i : Nat) (k : Int), i + l = xs.length → l < m → 0 ≤ k → k + 3 * l ≤ 9223372036854775807 → xs.drop i = mkE l k →
    L55_0 n m xs k (i : Int) = some (.inr (.inl (k + 3 * l, ())))
  | 0, m + 1, i, k, hi, hm, h0, h1, hp => by
    unfold L55_0
    rw [show decide ((i : Int) < (xs.length : Int)) = false from decide_eq_false (by omega), cond_false]
    simp
  | l + 1, m + 1, i, k, hi, hm, h0, h1, hp => by
    have hlt : i < xs.length := by omega
    have w1 : IntKind.i64.wrap (k + 1) = k + 1 := w64 (by omega) (by omega)
    have w2 : IntKind.i64.wrap (k + 1 + 1) = k + 1 + 1 := w64 (by omega) (by omega)
    have w3 : IntKind.i64.wrap (k + 1 + 1 + 1) = k + 1 + 1 + 1 := w64 (by omega) (by omega)
    rw [getD_drop xs i ((0 : Int), (0 : Int), false) hlt] at hp
    simp only [mkE] at hp
    injection hp with hp1 hp2
    unfold L55_0
    simp only [lt_ii, le_0i, hlt, Int.toNat_natCast, if_true, decide_true, cond_true, w1, w2, w3, hp1, bne_self_eq_false, cond_false, beq_self_eq_true, Bool.not_true]
    rw [w64s (i := i) (k := l) (by omega)]
    rw [L55_eq n xs hx l m (i + 1) _ (by omega) (by omega) (by omega) (by omega) hp2]
    have : k + 1 + 1 + 1 + 3 * (l : Int) = k + 3 * ((l + 1 : Nat) : Int) := by push_cast; omega
    rw [this]

theorem F55_eq (n : Nat) (l : Nat) (k : Int) (hn : 1048576 < n) (hx : l ≤ 1048576) (h0 : 0 ≤ k) (h1 : k ≤ 1048576) : F55 n (mkE l k) k = some (k + 3 * l, ()) := by
  unfold F55
  have e := L55_eq n (mkE l k) (by rw [mkE_len]; omega) l n 0 k (by rw [mkE_len]; omega) (by omega) h0 (by omega) rfl
  have e : L55_0 n n (mkE l k) k (0 : Int) = _ := e
  rw [e]

theorem F96_eq (n : Nat) (a b : E3) : F96 n a b = some (decide (a = b), ()) := by
  obtain ⟨a1, a2, a3⟩ := a
  obtain ⟨b1, b2, b3⟩ := b
  unfold F96
  simp only [Prod.mk.injEq, bne_int]
  by_cases h1 : a1 = b1 <;> by_cases h2 : a2 = b2 <;> cases a3 <;> cases b3 <;> simp [h1, h2]

theorem L52_self (n : Nat) (xs : List E3) (hx : xs.length ≤ 9223372036854775806) : ∀ (l m i : Nat), i + l = xs.length → l < m → L52_0 n m xs xs (i : Int) = some (.inr (.inl ()))
  | 0, m + 1, i, hi, hm => by
    unfold L52_0
    rw [show decide ((i : Int) < (xs.length : Int)) = false from decide_eq_false (by omega), cond_false]
  | l + 1, m + 1, i, hi, hm => by
    have hlt : i < xs.length := by omega
    unfold L52_0
    simp only [lt_ii, le_0i, hlt, Int.toNat_natCast, if_true, decide_true, cond_true, F96_eq, Option.bind_some, Bool.not_true, cond_false]
    rw [w64s (i := i) (k := l) (by omega)]
    exact L52_self n xs hx l m (i + 1) (by omega) (by omega)
theorem F52_self (n : Nat) (xs : List E3) (hn : 1048576 < n) (hx : xs.length ≤ 1048576) : F52 n xs xs = some (true, ()) := by
  unfold F52
  have e := L52_self n xs (by omega) xs.length n 0 (by omega) (by omega)
  have e : L52_0 n n xs xs (0 : Int) = _ := e
  simp only [bne_self_eq_false, cond_false, e]

/-! ### Marks of programs -/
def mkD : Nat → Int → List D3
  | 0, _ => []
  | l + 1, k => (k, k + 1, k + 1 + 1) :: mkD l (k + 1 + 1 + 1)
theorem mkD_len : ∀ (l : Nat) (k : Int), (mkD l k).length = l
  | 0, _ => rfl
  | l + 1, k => by simp [mkD, mkD_len l]
theorem L128_eq (n : Nat) : ∀ (l m i : Nat) (k : Int) (xs pre : List D3), xs.length ≤ 9223372036854775806 → i + l = xs.length → l < m → 0 ≤ k → k + 3 * l ≤ 9223372036854775807 → xs.take i = pre →
    L128_0 n m xs k (i : Int) = some (.inl (pre ++ mkD l k, k + 3 * l, ()))
  | 0, m + 1, i, k, xs, pre, hx, hi, hm, h0, h1, hp => by
    unfold L128_0
    rw [show decide ((i : Int) < (xs.length : Int)) = false from decide_eq_false (by omega), cond_false]
    subst hp
    rw [List.take_of_length_le (by omega)]
    simp [mkD]
  | l + 1, m + 1, i, k, xs, pre, hx, hi, hm, h0, h1, hp => by
    have hlt : i < xs.length := by omega
    have w1 : IntKind.i64.wrap (k + 1) = k + 1 := w64 (by omega) (by omega)
    have w2 : IntKind.i64.wrap (k + 1 + 1) = k + 1 + 1 := w64 (by omega) (by omega)
    have w3 : IntKind.i64.wrap (k + 1 + 1 + 1) = k + 1 + 1 + 1 := w64 (by omega) (by omega)
    unfold L128_0
    simp only [lt_ii, le_0i, hlt, Int.toNat_natCast, if_true, decide_true, cond_true, List.length_set, w1, w2, w3, set_set, getD_set_eq _ _ hlt, List.set_set, getD_set_eq]
    rw [w64s (i := i) (k := l) (by omega)]
    rw [L128_eq n l m (i + 1) _ _ (pre ++ [(k, k + 1, k + 1 + 1)]) (by simp; omega) (by simp; omega) (by omega) (by omega) (by omega) (by rw [take_set_succ _ hlt, hp])]
    simp only [mkD, List.append_assoc, List.singleton_append]
    have : k + 1 + 1 + 1 + 3 * (l : Int) = k + 3 * ((l + 1 : Nat) : Int) := by push_cast; omega
    rw [this]
theorem F128_eq (n : Nat) (xs : List D3) (k : Int) (hn : 1048576 < n) (hx : xs.length ≤ 1048576) (h0 : 0 ≤ k) (h1 : k + 3145728 ≤ 9223372036854775807) : F128 n xs k = some (k + 3 * xs.length, mkD xs.length k, ()) := by
  unfold F128
  have e := L128_eq n xs.length n 0 k xs [] (by omega) (by omega) (by omega) h0 (by omega) rfl
  have e : L128_0 n n xs k (0 : Int) = _ := e
  rw [e]
  rfl

/-- Marks of a program. -/
def mkP : List (List D3) → Int → List (List D3)
  | [], _ => []
  | t :: p, k => mkD t.length k :: mkP p (k + 3 * t.length)
def mkK : List (List D3) → Int → Int
  | [], k => k
  | t :: p, k => mkK p (k + 3 * t.length)
theorem mkP_len : ∀ (p : List (List D3)) (k : Int), (mkP p k).length = p.length
  | [], _ => rfl
  | t :: p, k => by simp [mkP, mkP_len p]
theorem mkK_ge : ∀ (p : List (List D3)) (k : Int), k ≤ mkK p k
  | [], k => Int.le_refl _
  | t :: p, k => by have := mkK_ge p (k + 3 * t.length); simp only [mkK]; omega
theorem L97_eq (n : Nat) (hn : 1048576 < n) : ∀ (q : List (List D3)) (m i : Nat) (k : Int) (xs pre : List (List D3)), xs.length ≤ 1048576 → i + q.length = xs.length → q.length < m → 0 ≤ k → k + 3145728 * q.length ≤ 9223372036854775807 → xs.take i = pre → xs.drop i = q → (∀ t ∈ q, t.length ≤ 1048576) →
    L97_0 n m xs k (i : Int) = some (.inl (pre ++ mkP q k, mkK q k, ()))
  | [], m + 1, i, k, xs, pre, hx, hi, hm, h0, h1, hp, hd, hs => by
    simp only [List.length_nil] at hi
    unfold L97_0
    rw [show decide ((i : Int) < (xs.length : Int)) = false from decide_eq_false (by omega), cond_false]
    subst hp
    rw [List.take_of_length_le (by omega)]
    simp [mkP, mkK]
  | t :: q, m + 1, i, k, xs, pre, hx, hi, hm, h0, h1, hp, hd, hs => by
    simp only [List.length_cons] at hi hm h1
    have hlt : i < xs.length := by omega
    have ht := hs t (by simp)
    rw [getD_drop xs i [] hlt] at hd
    injection hd with hd1 hd2
    unfold L97_0
    simp only [lt_ii, le_0i, hlt, Int.toNat_natCast, if_true, decide_true, cond_true, hd1]
    rw [F128_eq n t k hn ht h0 (by omega), Option.bind_some, if_pos (by rw [List.length_take]; omega), w64s (i := i) (k := q.length) (by omega)]
    simp only
    rw [take_put _ hlt, L97_eq n hn q m (i + 1) _ _ (pre ++ [mkD t.length k]) (by simp; omega) (by simp; omega) (by omega) (by omega) (by omega) (by rw [take_set_succ _ hlt, hp]) (by rw [drop_set]; exact hd2) (fun u hu => hs u (by simp [hu]))]
    simp only [mkP, mkK, List.append_assoc, List.singleton_append]
theorem F53_eq (n : Nat) (hn : 1048576 < n) (p : List (List D3)) (h : Small2 p) (k : Int) (h0 : 0 ≤ k) (h1 : k ≤ 1048576) : F53 n p k = some (mkK p k, mkP p k, ()) := by
  have hp := h.1
  unfold F53 F97
  have e := L97_eq n hn p n 0 k p [] (by omega) (by omega) (by omega) h0 (by omega) rfl rfl h.2
  have e : L97_0 n n p k (0 : Int) = _ := e
  rw [e]
  rfl
end Go.Proofs.Ytaehbfaldofmbaa.Ev
