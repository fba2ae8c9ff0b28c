/- What the printed functions of ProgReads come to. Conditions: none. -/
import Derived.Test.YtaehbfaldofmbaaGR
import Derived.Test.YtaehbfaldofmbaaQA
namespace Go.Proofs.Ytaehbfaldofmbaa.Ev
open Go

/-- How many reads. -/
def readsN : List D3 → Nat
  | [] => 0
  | d :: l => (if rd d then 1 else 0) + readsN l
def readsAll : List (List D3) → Nat
  | [] => 0
  | t :: p => readsN t + readsAll p
theorem readsN_le : ∀ l : List D3, readsN l ≤ l.length
  | [] => Nat.le_refl _
  | d :: l => by have := readsN_le l; unfold readsN; simp; split <;> omega
theorem dflt52 : (Ty.rs (52 : Go.TypeId) ((Ty.int Go.IntKind.i64).pair ((Ty.int Go.IntKind.i64).pair (Ty.int Go.IntKind.i64)))).dflt = ([] : List D3) := rfl

theorem L42_2_eq (n : Nat) (p : List (List D3)) (t : Nat) (ht : t < p.length) (hl : (p.getD t []).length ≤ 1048576) : ∀ (k m i : Nat) (u : Int), i + k = (p.getD t []).length → k < m → 0 ≤ u → u + k ≤ 2097152 →
    L42_2 n m (p, ()) u (t : Int) (i : Int) = some (.inl ((p, ()), u + readsN ((p.getD t []).drop i), (t : Int), ()))
  | 0, m + 1, i, u, hi, hm, h0, h1 => by
    have : i = (p.getD t []).length := by omega
    unfold L42_2
    simp only [dflt52, lt_ii, le_0i, ht, Int.toNat_natCast, if_true]
    rw [show decide (i < (p.getD t []).length) = false from decide_eq_false (by omega), cond_false, List.drop_eq_nil_of_le (by omega)]
    simp [readsN]
  | k + 1, m + 1, i, u, hi, hm, h0, h1 => by
    have hlt : i < (p.getD t []).length := by omega
    have ih := fun u => L42_2_eq n p t ht hl k m (i + 1) u (by omega) (by omega)
    unfold L42_2
    simp only [dflt52, lt_ii, le_0i, ht, hlt, Int.toNat_natCast, if_true, decide_true, cond_true, eta3, F82_eq, Option.bind_some]
    rw [getD_drop (p.getD t []) i ((0 : Int), (0 : Int), (0 : Int)) hlt]
    generalize (p.getD t []).getD i ((0 : Int), (0 : Int), (0 : Int)) = d
    have hw := w64s (show i + k ≤ 9223372036854775806 by omega)
    have hu : IntKind.i64.wrap (u + 1) = u + 1 := w64 (by omega) (by omega)
    revert ih hw
    generalize ((i + 1 : Nat) : Int) = j
    intro ih hw
    unfold J42_9 readsN
    have ih1 := ih (u + 1) (by omega) (by omega)
    have ih2 := ih u (by omega) (by omega)
    cases rd d <;> simp [hw, hu, ih1, ih2, Int.add_assoc]

theorem L42_0_eq (n : Nat) (hn : 1048576 < n) (p : List (List D3)) (hp : p.length ≤ 1000) (hs : ∀ t ∈ p, t.length ≤ 1000) : ∀ (k m i : Nat) (u : Int), i + k = p.length → k < m → 0 ≤ u → u ≤ 1000 * i →
    L42_0 n m (p, ()) u (i : Int) = some (.inl (u + readsAll (p.drop i), ()))
  | 0, m + 1, i, u, hi, hm, _, _ => by
    have : i = p.length := by omega
    subst this
    unfold L42_0
    simp [readsAll]
  | k + 1, m + 1, i, u, hi, hm, h0, h1 => by
    have hlt : i < p.length := by omega
    have hsz := hs _ (getD_mem p i [] hlt)
    have hus := readsN_le (p.getD i [])
    unfold L42_0
    simp only [lt_ii, hlt, decide_true, cond_true]
    rw [getD_drop p i [] hlt, show ((0 : Int)) = ((0 : Nat) : Int) from rfl, L42_2_eq n p i hlt (by omega) (p.getD i []).length n 0 u (by omega) (by omega) h0 (by omega)]
    simp only [List.drop_zero]
    rw [w64s (show i + k ≤ 9223372036854775806 by omega), L42_0_eq n hn p hp hs k m (i + 1) _ (by omega) (by omega) (by omega) (by omega)]
    simp only [readsAll, Int.natCast_add, Int.add_assoc]

theorem progOk_len {p : List (List D3)} (h : progOk p = true) : p.length ≤ 3 ∧ ∀ t ∈ p, t.length ≤ 7 := by
  unfold progOk at h
  simp only [Bool.and_eq_true, decide_eq_true_eq, List.all_eq_true] at h
  exact ⟨h.1, fun t ht => thOk_len (h.2.1 t ht)⟩

theorem F42_eq (n : Nat) (hn : 1048576 < n) (p : List (List D3)) : F42 n p = some (if progOk p then (readsAll p : Int) else -1, ()) := by
  unfold F42
  rw [F35_eq n hn p, Option.bind_some]
  by_cases h : progOk p = true
  · have hl := progOk_len h
    have := L42_0_eq n hn p (by omega) (fun t ht => by have := hl.2 t ht; omega) p.length n 0 0 (by omega) (by omega) (by omega) (by omega)
    rw [show (((0 : Nat)) : Int) = 0 from rfl, List.drop_zero] at this
    simp only [h, Bool.not_true, cond_false, this, Int.zero_add, if_true]
  · simp [h]

theorem L92_eq (n : Nat) (xs : List D3) (hl : xs.length ≤ 1048576) : ∀ (k m i : Nat) (u : Int), i + k = xs.length → k < m → 0 ≤ u → u + k ≤ 2097152 →
    L92_0 n m u xs (xs.length : Int) (i : Int) = some (.inl (u + readsN (xs.drop i), ()))
  | 0, m + 1, i, u, hi, hm, h0, h1 => by
    have : i = xs.length := by omega
    subst this
    unfold L92_0
    simp [readsN]
  | k + 1, m + 1, i, u, hi, hm, h0, h1 => by
    have hlt : i < xs.length := by omega
    have ih := fun u => L92_eq n xs hl k m (i + 1) u (by omega) (by omega)
    unfold L92_0
    simp only [lt_ii, le_0i, hlt, Int.toNat_natCast, if_true, decide_true, cond_true, eta3, F120_eq, Option.bind_some]
    rw [getD_drop xs i ((0 : Int), (0 : Int), (0 : Int)) hlt]
    generalize xs.getD i ((0 : Int), (0 : Int), (0 : Int)) = d
    have hw := w64s (show i + k ≤ 9223372036854775806 by omega)
    have hu : IntKind.i64.wrap (u + 1) = u + 1 := w64 (by omega) (by omega)
    revert ih hw
    generalize ((i + 1 : Nat) : Int) = j
    intro ih hw
    unfold J92_7 readsN
    have ih1 := ih (u + 1) (by omega) (by omega)
    have ih2 := ih u (by omega) (by omega)
    cases rd d <;> simp [hw, hu, ih1, ih2, Int.add_assoc]
theorem F92_eq (n : Nat) (hn : 1048576 < n) (xs : List D3) (hl : xs.length ≤ 1048576) : F92 n xs = some ((readsN xs : Int), ()) := by
  unfold F92
  have := L92_eq n xs hl xs.length n 0 0 (by omega) (by omega) (by omega) (by omega)
  rw [show (((0 : Nat)) : Int) = 0 from rfl, List.drop_zero] at this
  rw [this]
  simp

theorem L43_eq (n : Nat) (hn : 1048576 < n) (p : List (List D3)) (hp : p.length ≤ 1000) (hs : ∀ t ∈ p, t.length ≤ 1000) : ∀ (k m i : Nat) (u : Int), i + k = p.length → k < m → 0 ≤ u → u ≤ 1000 * i →
    L43_0 n m u p (p.length : Int) (i : Int) = some (.inl (u + readsAll (p.drop i), ()))
  | 0, m + 1, i, u, hi, hm, _, _ => by
    have : i = p.length := by omega
    subst this
    unfold L43_0
    simp [readsAll]
  | k + 1, m + 1, i, u, hi, hm, h0, h1 => by
    have hlt : i < p.length := by omega
    have hsz := hs _ (getD_mem p i [] hlt)
    have hus := readsN_le (p.getD i [])
    unfold L43_0
    simp only [dflt52, lt_ii, le_0i, hlt, Int.toNat_natCast, if_true, decide_true, cond_true]
    rw [F92_eq n hn _ (by omega), Option.bind_some, getD_drop p i [] hlt, w64s (show i + k ≤ 9223372036854775806 by omega), w64 (by simp only; omega) (by simp only; omega), L43_eq n hn p hp hs k m (i + 1) _ (by omega) (by omega) (by simp only; omega) (by simp only; omega)]
    simp only [readsAll, Int.natCast_add, Int.add_assoc]

theorem F43_eq (n : Nat) (hn : 1048576 < n) (p : List (List D3)) (hs : ∀ t ∈ p, t.length ≤ 1048576) : F43 n p = some (if progOk p then (readsAll p : Int) else -1, ()) := by
  unfold F43
  rw [F37_eq n hn p hs, Option.bind_some]
  by_cases h : progOk p = true
  · have hl := progOk_len h
    have := L43_eq n hn p (by omega) (fun t ht => by have := hl.2 t ht; omega) p.length n 0 0 (by omega) (by omega) (by omega) (by omega)
    rw [show (((0 : Nat)) : Int) = 0 from rfl, List.drop_zero] at this
    simp only [h, Bool.not_true, cond_false, this, Int.zero_add, if_true]
  · simp [h]
end Go.Proofs.Ytaehbfaldofmbaa.Ev
