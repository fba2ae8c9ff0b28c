/- The law of ProgOk over its plain functions. Conditions: none. -/
import Derived.Test.YtaehbfaldofmbaaQ4c
namespace Go.Proofs.Ytaehbfaldofmbaa.Ev
open Go

theorem L37_2_eq (n : Nat) (a : Int) (p : List (List D3)) (l t : Int) (xs : List D3) (hl : xs.length ≤ 1048576) : ∀ (k m i : Nat) (u : Int), i + k = xs.length → k < m → 0 ≤ u → u + k ≤ 2097152 →
    L37_2 n m a u p l t xs (xs.length : Int) (i : Int) = some (.inl (a, u + usesN (xs.drop i), p, l, t, ()))
  | 0, m + 1, i, u, hi, hm, h0, h1 => by
    have : i = xs.length := by omega
    subst this
    unfold L37_2
    simp [usesN]
  | k + 1, m + 1, i, u, hi, hm, h0, h1 => by
    have hlt : i < xs.length := by omega
    have ih := fun u => L37_2_eq n a p l t xs hl k m (i + 1) u (by omega) (by omega)
    unfold L37_2
    simp only [lt_ii, le_0i, hlt, Int.toNat_natCast, if_true, decide_true, cond_true, eta3, F86_eq, Option.bind_some]
    rw [getD_drop xs i ((0 : Int), (0 : Int), (0 : Int)) hlt]
    generalize xs.getD i ((0 : Int), (0 : Int), (0 : Int)) = d
    have hw := w64s (show i + k ≤ 9223372036854775806 by omega)
    have hu : IntKind.i64.wrap (u + 1) = u + 1 := w64 (by omega) (by omega)
    revert ih hw
    generalize ((i + 1 : Nat) : Int) = j
    intro ih hw
    unfold J37_15 usesN
    have ih1 := ih (u + 1) (by omega) (by omega)
    have ih2 := ih u (by omega) (by omega)
    cases us d <;> simp [hw, hu, ih1, ih2, Int.add_assoc]

theorem L37_0_eq (n : Nat) (hn : 1048576 < n) (p : List (List D3)) (hp : p.length ≤ 3) (hs : ∀ t ∈ p, t.length ≤ 1048576) : ∀ (k m i : Nat) (a u : Int), i + k = p.length → k < m → 0 ≤ a → a ≤ 7 * i → 0 ≤ u → u ≤ 7 * i →
    L37_0 n m a u p (p.length : Int) (i : Int) = some (if (p.drop i).all thOk then .inr (.inl (a + lens (p.drop i), u + usesAll (p.drop i), ())) else .inl (false, ()))
  | 0, m + 1, i, a, u, hi, hm, _, _, _, _ => by
    have : i = p.length := by omega
    subst this
    unfold L37_0
    simp [lens, usesAll]
  | k + 1, m + 1, i, a, u, hi, hm, h0, h1, h2, h3 => by
    have hlt : i < p.length := by omega
    have ih := fun a u => L37_0_eq n hn p hp hs k m (i + 1) a u (by omega) (by omega)
    have hsz := hs _ (getD_mem p i [] hlt)
    unfold L37_0
    simp only [show (Ty.rs (52 : Go.TypeId) ((Ty.int Go.IntKind.i64).pair ((Ty.int Go.IntKind.i64).pair (Ty.int Go.IntKind.i64)))).dflt = ([] : List D3) from rfl, lt_ii, le_0i, hlt, Int.toNat_natCast, if_true, decide_true, cond_true, F85_eq n _ hn hsz, Option.bind_some]
    rw [getD_drop p i [] hlt]
    by_cases hok : thOk (p.getD i []) = true
    · have hlen := thOk_len hok
      have hus := usesN_le (p.getD i [])
      simp only [hok, Bool.not_true, cond_false]
      rw [w64 (by omega) (by omega), show ((0 : Int)) = ((0 : Nat) : Int) from rfl, L37_2_eq n _ p _ _ (p.getD i []) (by omega) (p.getD i []).length n 0 u (by omega) (by omega) h2 (by omega)]
      simp only [List.drop_zero]
      rw [w64s (show i + k ≤ 9223372036854775806 by omega), ih _ _ (by omega) (by omega) (by omega) (by omega)]
      simp only [List.all_cons, hok, Bool.true_and, lens, usesAll]
      split
      · simp only [Int.natCast_add, Int.add_assoc]
      · rfl
    · simp only [hok, Bool.not_false, cond_true, List.all_cons, Bool.false_and]
      rfl

theorem F37_eq (n : Nat) (hn : 1048576 < n) (p : List (List D3)) (hs : ∀ t ∈ p, t.length ≤ 1048576) : F37 n p = some (progOk p, ()) := by
  unfold F37 progOk
  by_cases h : p.length ≤ 3
  · rw [show decide ((p.length : Int) > 3) = false by simp; omega, cond_false]
    have := L37_0_eq n hn p h hs p.length n 0 0 0 (by omega) (by omega) (by omega) (by omega) (by omega) (by omega)
    rw [show (((0 : Nat)) : Int) = 0 from rfl, List.drop_zero] at this
    rw [this]
    simp only [h, decide_true, Bool.true_and]
    by_cases ha : p.all thOk = true
    · simp only [ha, if_true, Bool.true_and, Int.zero_add]
      rw [show decide ((lens p : Int) ≤ 14) = decide (lens p ≤ 14) by by_cases hl : lens p ≤ 14 <;> simp [hl] <;> omega, show decide ((usesAll p : Int) ≤ 6) = decide (usesAll p ≤ 6) by by_cases hl : usesAll p ≤ 6 <;> simp [hl] <;> omega]
      cases decide (lens p ≤ 14) <;> rfl
    · simp [ha]
  · rw [show decide ((p.length : Int) > 3) = true by simp; omega]
    simp [h]

theorem pure_FnExactProgOk (xs : pdens [.val true true (.rs 115 (.rs 130 (.pair (.int .i64) (.pair (.int .i64) (.int .i64)))))]) (hg : GoodP [.val true true (.rs 115 (.rs 130 (.pair (.int .i64) (.pair (.int .i64) (.int .i64)))))] xs) :
    ∃ n, F5 n xs.1 = some (true, ()) := by
  obtain ⟨p, _⟩ := xs
  obtain ⟨⟨h1, h2⟩, _⟩ := hg
  refine ⟨1048577, ?_⟩
  have hn : 1048576 < 1048577 := by omega
  generalize 1048577 = n at *
  obtain ⟨r, h3, h4⟩ := F34_eq n hn p h1 (fun t ht => (h2 t ht).1)
  unfold F5
  rw [h3, Option.bind_some]
  rcases h4 with h4 | h4
  · rw [decide_eq_true h4]; rfl
  · have e := F36_eq n hn p h4
    simp only [e, F35_eq n hn p, F37_eq n hn p h4.2, F38_eq n hn p p h4, Option.bind_some, decide_true]
    cases decide (r < 0) <;> simp
end Go.Proofs.Ytaehbfaldofmbaa.Ev
