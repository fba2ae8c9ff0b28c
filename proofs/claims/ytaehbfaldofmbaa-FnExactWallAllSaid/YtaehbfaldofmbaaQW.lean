/- What the printed functions of WallGaps come to. Conditions: none. -/
import Derived.Test.YtaehbfaldofmbaaGW
import Derived.Test.YtaehbfaldofmbaaQA
namespace Go.Proofs.Ytaehbfaldofmbaa.Ev
open Go

/-- How many rooms for walls. -/
def gapsAll : List (List D3) → Nat
  | [] => 0
  | t :: p => (t.length - 1) + gapsAll p
theorem progOk_len2 {p : List (List D3)} (h : progOk p = true) : p.length ≤ 3 ∧ ∀ t ∈ p, t.length ≤ 7 := by
  unfold progOk at h
  simp only [Bool.and_eq_true, decide_eq_true_eq, List.all_eq_true] at h
  exact ⟨h.1, fun t ht => thOk_len (h.2.1 t ht)⟩
theorem gap_one (l : Nat) (h : l ≤ 1000) : (if (0 : Int) > IntKind.i64.wrap ((l : Int) - 1) then (0 : Int) else IntKind.i64.wrap ((l : Int) - 1)) = ((l - 1 : Nat) : Int) := by
  rw [w64 (by omega) (by omega)]
  split <;> omega

theorem L40_eq (n : Nat) (p : List (List D3)) (hp : p.length ≤ 1000) (hs : ∀ t ∈ p, t.length ≤ 1000) : ∀ (k m i : Nat) (u : Int), i + k = p.length → k < m → 0 ≤ u → u ≤ 1000 * i →
    L40_0 n m (p, ()) u (i : Int) = some (.inl (u + gapsAll (p.drop i), ()))
  | 0, m + 1, i, u, hi, hm, _, _ => by
    have : i = p.length := by omega
    subst this
    unfold L40_0
    simp [gapsAll]
  | k + 1, m + 1, i, u, hi, hm, h0, h1 => by
    have hlt : i < p.length := by omega
    have hsz := hs _ (getD_mem p i [] hlt)
    unfold L40_0
    simp only [lt_ii, le_0i, hlt, Int.toNat_natCast, if_true, decide_true, cond_true]
    rw [gap_one _ hsz, getD_drop p i [] hlt, w64s (show i + k ≤ 9223372036854775806 by omega), w64 (by omega) (by omega), L40_eq n p hp hs k m (i + 1) _ (by omega) (by omega) (by omega) (by omega)]
    simp only [gapsAll, Int.natCast_add, Int.add_assoc]

theorem F40_eq (n : Nat) (hn : 1048576 < n) (p : List (List D3)) : F40 n p = some (if progOk p then (gapsAll p : Int) else -1, ()) := by
  unfold F40
  rw [F35_eq n hn p, Option.bind_some]
  by_cases h : progOk p = true
  · have hl := progOk_len2 h
    have := L40_eq n p (by omega) (fun t ht => by have := hl.2 t ht; omega) p.length n 0 0 (by omega) (by omega) (by omega) (by omega)
    rw [show (((0 : Nat)) : Int) = 0 from rfl, List.drop_zero] at this
    simp only [h, Bool.not_true, cond_false, this, Int.zero_add, if_true]
  · simp [h]

theorem L41_eq (n : Nat) (p : List (List D3)) (hp : p.length ≤ 1000) (hs : ∀ t ∈ p, t.length ≤ 1000) : ∀ (k m i : Nat) (u : Int), i + k = p.length → k < m → 0 ≤ u → u ≤ 1000 * i →
    L41_0 n m u p (p.length : Int) (i : Int) = some (.inl (u + gapsAll (p.drop i), ()))
  | 0, m + 1, i, u, hi, hm, _, _ => by
    have : i = p.length := by omega
    subst this
    unfold L41_0
    simp [gapsAll]
  | k + 1, m + 1, i, u, hi, hm, h0, h1 => by
    have hlt : i < p.length := by omega
    have hsz := hs _ (getD_mem p i [] hlt)
    unfold L41_0
    simp only [lt_ii, le_0i, hlt, Int.toNat_natCast, if_true, decide_true, cond_true]
    rw [gap_one _ hsz, getD_drop p i [] hlt, w64s (show i + k ≤ 9223372036854775806 by omega), w64 (by omega) (by omega), L41_eq n p hp hs k m (i + 1) _ (by omega) (by omega) (by omega) (by omega)]
    simp only [gapsAll, Int.natCast_add, Int.add_assoc]

theorem F41_eq (n : Nat) (hn : 1048576 < n) (p : List (List D3)) (hs : ∀ t ∈ p, t.length ≤ 1048576) : F41 n p = some (if progOk p then (gapsAll p : Int) else -1, ()) := by
  unfold F41
  rw [F37_eq n hn p hs, Option.bind_some]
  by_cases h : progOk p = true
  · have hl := progOk_len2 h
    have := L41_eq n p (by omega) (fun t ht => by have := hl.2 t ht; omega) p.length n 0 0 (by omega) (by omega) (by omega) (by omega)
    rw [show (((0 : Nat)) : Int) = 0 from rfl, List.drop_zero] at this
    simp only [h, Bool.not_true, cond_false, this, Int.zero_add, if_true]
  · simp [h]
end Go.Proofs.Ytaehbfaldofmbaa.Ev
