/- What the printed marks of programs come to when they are held, and walls. Conditions: none. -/
import Derived.Test.YtaehbfaldofmbaaGH
import Derived.Test.YtaehbfaldofmbaaQK
import Derived.Test.YtaehbfaldofmbaaQG
namespace Go.Proofs.Ytaehbfaldofmbaa.Ev
open Go

theorem L133_eq (n : Nat) (xs : List D3) (hx : xs.length ≤ 9223372036854775806) : ∀ (l m i : Nat) (k : Int), i + l = xs.length → l < m → 0 ≤ k → k + 3 * l ≤ 9223372036854775807 → xs.drop i = mkD l k →
    L133_0 n m xs k (i : Int) = some (.inr (.inl (k + 3 * l, ())))
  | 0, m + 1, i, k, hi, hm, h0, h1, hp => by
    unfold L133_0
    rw [show decide ((i : Int) < (xs.length : Int)) = false from decide_eq_false (by omega), cond_false]
    simp
  | l + 1, m + 1, i, k, hi, hm, h0, h1, hp => by
    have hlt : i < xs.length := by omega
    have w1 : IntKind.i64.wrap (k + 1) = k + 1 := w64 (by omega) (by omega)
    have w2 : IntKind.i64.wrap (k + 1 + 1) = k + 1 + 1 := w64 (by omega) (by omega)
    have w3 : IntKind.i64.wrap (k + 1 + 1 + 1) = k + 1 + 1 + 1 := w64 (by omega) (by omega)
    rw [getD_drop xs i ((0 : Int), (0 : Int), (0 : Int)) hlt] at hp
    simp only [mkD] at hp
    injection hp with hp1 hp2
    unfold L133_0
    simp only [lt_ii, le_0i, hlt, Int.toNat_natCast, if_true, decide_true, cond_true, w1, w2, w3, hp1, bne_self_eq_false, cond_false]
    rw [w64s (i := i) (k := l) (by omega)]
    rw [L133_eq n xs hx l m (i + 1) _ (by omega) (by omega) (by omega) (by omega) hp2]
    have : k + 1 + 1 + 1 + 3 * (l : Int) = k + 3 * ((l + 1 : Nat) : Int) := by push_cast; omega
    rw [this]
theorem F133_eq (n : Nat) (l : Nat) (k : Int) (hn : 1048576 < n) (hx : l ≤ 1048576) (h0 : 0 ≤ k) (h1 : k + 3145728 ≤ 9223372036854775807) : F133 n (mkD l k) k = some (k + 3 * l, ()) := by
  unfold F133
  have e := L133_eq n (mkD l k) (by rw [mkD_len]; omega) l n 0 k (by rw [mkD_len]; omega) (by omega) h0 (by omega) rfl
  have e : L133_0 n n (mkD l k) k (0 : Int) = _ := e
  rw [e]
theorem L104_eq (n : Nat) (hn : 1048576 < n) (xs : List (List D3)) (hx : xs.length ≤ 1048576) : ∀ (q : List (List D3)) (m i : Nat) (k : Int), i + q.length = xs.length → q.length < m → 0 ≤ k → k + 3145728 * q.length ≤ 9223372036854775807 → xs.drop i = mkP q k → (∀ t ∈ q, t.length ≤ 1048576) →
    L104_0 n m xs k (i : Int) = some (.inr (.inl (mkK q k, ())))
  | [], m + 1, i, k, hi, hm, h0, h1, hp, hs => by
    simp only [List.length_nil] at hi
    unfold L104_0
    rw [show decide ((i : Int) < (xs.length : Int)) = false from decide_eq_false (by omega), cond_false]
    rfl
  | t :: q, m + 1, i, k, hi, hm, h0, h1, hp, hs => by
    simp only [List.length_cons] at hi hm h1
    have hlt : i < xs.length := by omega
    have ht := hs t (by simp)
    rw [getD_drop xs i [] hlt] at hp
    simp only [mkP] at hp
    injection hp with hp1 hp2
    unfold L104_0
    simp only [lt_ii, le_0i, hlt, Int.toNat_natCast, if_true, decide_true, cond_true, hp1]
    rw [F133_eq n t.length k hn ht h0 (by omega), Option.bind_some, w64s (i := i) (k := q.length) (by omega)]
    simp only
    rw [show decide (k + 3 * (t.length : Int) < 0) = false from decide_eq_false (by omega), cond_false]
    exact L104_eq n hn xs hx q m (i + 1) _ (by omega) (by omega) (by omega) (by omega) hp2 (fun u hu => hs u (by simp [hu]))
theorem F64_eq (n : Nat) (hn : 1048576 < n) (p : List (List D3)) (h : Small2 p) (k : Int) (h0 : 0 ≤ k) (h1 : k ≤ 1048576) : F64 n (mkP p k) k = some (mkK p k, ()) := by
  have hp := h.1
  have hk := mkK_ge p k
  unfold F64 F104
  have e := L104_eq n hn (mkP p k) (by rw [mkP_len]; omega) p n 0 k (by rw [mkP_len]; omega) (by omega) h0 (by omega) rfl h.2
  have e : L104_0 n n (mkP p k) k (0 : Int) = _ := e
  rw [e]
  simp only [Option.bind_some]
  rw [show decide (mkK p k < 0) = false from decide_eq_false (by omega)]
  rfl
theorem mkK_le' : ∀ (p : List (List D3)) (k : Int), (∀ t ∈ p, t.length ≤ 1048576) → mkK p k ≤ k + 3145728 * p.length
  | [], k, _ => by simp [mkK]
  | t :: p, k, h => by
    have h1 := mkK_le' p (k + 3 * t.length) fun u hu => h u (by simp [hu])
    have h2 := h t (by simp)
    simp only [mkK, List.length_cons]
    omega
theorem mkK_le (p : List (List D3)) (h : Small2 p) (k : Int) : mkK p k ≤ k + 3298534883328 := by
  have h1 := mkK_le' p k h.2
  have h2 := h.1
  omega
/-- Walls keep a program small. -/
theorem wallPut_sm (p : List (List D3)) (gaps : List Int) : Small2 (wallPut p gaps).1 := by
  unfold wallPut
  split
  · rename_i h
    simp only [Bool.and_eq_true] at h
    obtain ⟨h1, h2⟩ := progOk_len2 h.2.2
    exact ⟨by show (wallP gaps 0 p).length ≤ _; omega, fun t ht => by have := h2 t ht; omega⟩
  · exact ⟨by simp, fun t ht => by cases ht⟩
end Go.Proofs.Ytaehbfaldofmbaa.Ev
