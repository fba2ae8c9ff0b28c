/- The law of rooms for walls, over its plain functions. Conditions: none. -/
import Derived.Test.YtaehbfaldofmbaaG9
import Derived.Test.YtaehbfaldofmbaaQP
import Derived.Test.YtaehbfaldofmbaaQW
namespace Go.Proofs.Ytaehbfaldofmbaa.Ev
open Go

/-- How many threads have steps. -/
def someN : List (List D3) → Nat
  | [] => 0
  | t :: p => (if 0 < t.length then 1 else 0) + someN p
theorem gaps_some : ∀ p : List (List D3), gapsAll p + someN p = lens p
  | [] => rfl
  | t :: p => by
    have := gaps_some p
    simp only [gapsAll, someN, lens]
    split <;> omega

theorem L9_eq (n : Nat) (p : List (List D3)) (hp : p.length ≤ 1000) (hs : ∀ t ∈ p, t.length ≤ 1000) (g : Int) : ∀ (k m i : Nat) (u v : Int), i + k = p.length → k < m → 0 ≤ u → u ≤ 1000 * i → 0 ≤ v → v ≤ 1000 * i →
    L9_0 n m (p, ()) g u v (i : Int) = some (.inl (g, u + lens (p.drop i), v + someN (p.drop i), ()))
  | 0, m + 1, i, u, v, hi, hm, _, _, _, _ => by
    have : i = p.length := by omega
    subst this
    unfold L9_0
    simp [lens, someN]
  | k + 1, m + 1, i, u, v, hi, hm, h0, h1, h2, h3 => by
    have hlt : i < p.length := by omega
    have hsz := hs _ (getD_mem p i [] hlt)
    have ih := fun u v => L9_eq n p hp hs g k m (i + 1) u v (by omega) (by omega)
    unfold L9_0
    simp only [lt_ii, le_0i, hlt, Int.toNat_natCast, if_true, decide_true, cond_true]
    rw [getD_drop p i [] hlt]
    simp only [lens, someN, J9_11]
    rw [w64s (show i + k ≤ 9223372036854775806 by omega), w64 (x := u + _) (by omega) (by omega), w64 (x := v + 1) (by omega) (by omega)]
    by_cases hz : 0 < (p.getD i []).length
    · have : decide (((p.getD i []).length : Int) > 0) = true := decide_eq_true (by omega)
      simp only [this, cond_true, hz, if_true]
      rw [ih _ _ (by omega) (by omega) (by omega) (by omega)]
      simp [Int.add_assoc]
    · have : decide (((p.getD i []).length : Int) > 0) = false := decide_eq_false (by omega)
      simp only [this, cond_false, hz, if_false]
      rw [ih _ _ (by omega) (by omega) (by omega) (by omega)]
      simp [Int.add_assoc]

theorem pure_FnWallGaps (xs : pdens [.c false (.v true (.rs 5 (.int .u8)))]) (hg : GoodP 0 [.c false (.v true (.rs 5 (.int .u8)))] xs) :
    ∃ n, F9 n xs.1 = some (true, ()) := by
  obtain ⟨c, _⟩ := xs
  obtain ⟨⟨h1, h2⟩, _⟩ := hg
  refine ⟨1048577, ?_⟩
  have hn : 1048576 < 1048577 := by omega
  generalize 1048577 = n at *
  unfold F9
  by_cases hc : (c.length : Int) > 1048576
  · simp only [hc, decide_true, cond_true]
  · simp only [hc, decide_false, cond_false]
    obtain ⟨b, q, p', k1, k2, _, _, l1, l2, l3⟩ := any_ok n hn c (goodBytes (by omega) h2) (fun _ => some ())
    unfold F44
    simp only [k1, k2, F41_eq n hn q (fun t ht => by have := l3 t ht; omega), F40_eq n hn, Option.bind_some, bne_self_eq_false, cond_false]
    cases hok : progOk q
    · simp
    · simp only [if_true]
      rw [decide_eq_false (show ¬ ((gapsAll q : Int) < 0) by omega)]
      simp only [cond_false]
      unfold J9_7
      have hL : lens q ≤ 14 := (progOkIff.mp hok).2.2.1
      have hS := gaps_some q
      have e := L9_eq n q (by omega) (fun t ht => by have := l3 t ht; omega) (gapsAll q : Int) q.length n 0 0 0 (by omega) (by omega) (by omega) (by omega) (by omega) (by omega)
      rw [List.drop_zero] at e
      have e : L9_0 n n (q, ()) (gapsAll q : Int) (0 : Int) (0 : Int) (0 : Int) = _ := e
      simp only [e]
      rw [w64 (by omega) (by omega)]
      have : (gapsAll q : Int) = 0 + (lens q : Int) - (0 + (someN q : Int)) := by omega
      rw [← this]
      simp
end Go.Proofs.Ytaehbfaldofmbaa.Ev
