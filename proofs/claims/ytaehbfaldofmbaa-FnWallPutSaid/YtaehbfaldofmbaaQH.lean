/- Draws of walls; programs that are compared with themselves. Conditions: none. -/
import Derived.Test.YtaehbfaldofmbaaQG
namespace Go.Proofs.Ytaehbfaldofmbaa.Ev
open Go

theorem L61_2_self (n : Nat) (p : List (List D3)) (t : Nat) (ht : t < p.length) (hs : (p.getD t []).length ≤ 1000000) : ∀ (k m i : Nat), i + k = (p.getD t []).length → k < m →
    L61_2 n m (p, ()) (p, ()) (t : Int) (i : Int) = some (.inr (.inl ((p, ()), (p, ()), (t : Int), ())))
  | 0, m + 1, i, hi, hm => by
    unfold L61_2
    simp only [lt_ii, le_0i, ht, Int.toNat_natCast, if_true]
    rw [show decide (i < (p.getD t []).length) = false from decide_eq_false (by omega), cond_false]
  | k + 1, m + 1, i, hi, hm => by
    have hlt : i < (p.getD t []).length := by omega
    unfold L61_2
    simp only [lt_ii, le_0i, ht, hlt, Int.toNat_natCast, if_true, decide_true, cond_true, beq_self_eq_true, Bool.and_self, Bool.not_true, cond_false]
    rw [w64s (k := k) (by omega)]
    exact L61_2_self n p t ht hs k m (i + 1) (by omega) (by omega)
theorem L61_0_self (n : Nat) (hn : 1048576 < n) (p : List (List D3)) (hp : p.length ≤ 1000000) (hs : ∀ t ∈ p, t.length ≤ 1000000) : ∀ (k m i : Nat), i + k = p.length → k < m →
    L61_0 n m (p, ()) (p, ()) (i : Int) = some (.inr (.inl ()))
  | 0, m + 1, i, hi, hm => by
    have : i = p.length := by omega
    subst this
    unfold L61_0
    simp
  | k + 1, m + 1, i, hi, hm => by
    have hlt : i < p.length := by omega
    have hsz := hs _ (getD_mem p i [] hlt)
    have e := L61_2_self n p i hlt hsz (p.getD i []).length n 0 (by omega) (by omega)
    have e : L61_2 n n (p, ()) (p, ()) (i : Int) (0 : Int) = _ := e
    unfold L61_0
    simp only [lt_ii, le_0i, hlt, Int.toNat_natCast, if_true, decide_true, cond_true, bne_self_eq_false, cond_false, e]
    rw [w64s (k := k) (by omega)]
    exact L61_0_self n hn p hp hs k m (i + 1) (by omega) (by omega)
theorem F61_self (n : Nat) (hn : 1048576 < n) (p : List (List D3)) (hp : p.length ≤ 1000000) (hs : ∀ t ∈ p, t.length ≤ 1000000) : F61 n p p = some (true, ()) := by
  unfold F61
  have e := L61_0_self n hn p hp hs p.length n 0 (by omega) (by omega)
  have e : L61_0 n n (p, ()) (p, ()) (0 : Int) = _ := e
  simp only [bne_self_eq_false, cond_false, e]

theorem wallPut_small (p : List (List D3)) (gaps : List Int) : (wallPut p gaps).1.length ≤ 1000000 ∧ ∀ t ∈ (wallPut p gaps).1, t.length ≤ 1000000 := by
  unfold wallPut
  by_cases h : (progOk p && (gOk (gapsAll p) none gaps && progOk (wallP gaps 0 p))) = true
  · rw [if_pos h]
    simp only [Bool.and_eq_true] at h
    have hl := progOk_len2 h.2.2
    exact ⟨by show (wallP gaps 0 p).length ≤ _; omega, fun t ht => by have := hl.2 t ht; omega⟩
  · rw [if_neg h]
    simp

theorem wallI_nil : ∀ (l : List D3) (a : Nat), wallI [] a l = l
  | [], _ => rfl
  | d :: l, a => by simp [wallI, wallI_nil l]
theorem wallP_nil : ∀ (p : List (List D3)) (a : Nat), wallP [] a p = p
  | [], _ => rfl
  | t :: p, a => by
    simp only [wallP, wallP_nil p]
    cases t with
    | nil => rfl
    | cons d l => simp [wallT, wallI_nil]
theorem wallPut_nil (p : List (List D3)) : (wallPut p []).2 = progOk p ∧ (progOk p = true → (wallPut p []).1 = p) := by
  unfold wallPut
  rw [wallP_nil]
  simp only [gOk, Bool.true_and, Bool.and_self]
  cases progOk p <;> simp

theorem gapsAll12 {p : List (List D3)} (h : Pl 12 p) : gapsAll p ≤ 36 := by
  obtain ⟨_, h1, h2⟩ := h
  match p, h1, h2 with
  | [], _, _ => simp [gapsAll]
  | [a], _, h2 => have := h2 a (by simp); simp only [gapsAll]; omega
  | [a, b], _, h2 => have := h2 a (by simp); have := h2 b (by simp); simp only [gapsAll]; omega
  | [a, b, c], _, h2 => have := h2 a (by simp); have := h2 b (by simp); have := h2 c (by simp); simp only [gapsAll]; omega
  | _ :: _ :: _ :: _ :: _, h1, _ => simp at h1

theorem L58_0_ok (n : Nat) (hn : 1048576 < n) (b : List Int) (hl : b.length ≤ 1000000) (o q : List (List D3)) (g : Nat) (hg : g ≤ 36) (hF : F40 n q = some ((g : Int), ()) ∨ (g = 0 ∧ F40 n q = some ((-1 : Int), ()))) : ∀ (c m i : Nat) (p : Int) (k : Nat) (xs : List Int), i + c = g → c < m → Rd k b p → k + c ≤ 500000000 → xs.length ≤ i →
    ∃ (ys : List Int) (p' : Int), L58_0 n m (o, ()) ((b, p), ()) (q, ()) xs (i : Int) = some (.inl ((o, ()), ((b, p'), ()), (q, ()), ys, ())) ∧ Rd (k + c) b p' ∧ ys.length ≤ g
  | 0, m + 1, i, p, k, xs, hi, hm, h, hk, hx => by
    unfold L58_0
    have : i = g := by omega
    subst this
    rcases hF with hF | ⟨h0, hF⟩
    · rw [hF]
      simp only [Option.bind_some, Int.lt_irrefl, decide_false, cond_false]
      exact ⟨xs, p, rfl, h, hx⟩
    · rw [hF]
      simp only [Option.bind_some]
      rw [decide_eq_false (show ¬ ((i : Int) < -1) by omega)]
      exact ⟨xs, p, rfl, h, hx⟩
  | c + 1, m + 1, i, p, k, xs, hi, hm, h, hk, hx => by
    unfold L58_0
    have hF' : F40 n q = some ((g : Int), ()) := by
      rcases hF with hF | ⟨h0, _⟩
      · exact hF
      · omega
    have ih := fun p xs => L58_0_ok n hn b hl o q g hg hF c m (i + 1) p (k + 1) xs (by omega) (by omega)
    obtain ⟨y, h1, h2, _⟩ := F90_ok n b p k 2 h (by omega) hl
    rw [hF']
    simp only [Option.bind_some, h1, J58_6, List.length_cons, List.length_nil]
    rw [decide_eq_true (show (i : Int) < (g : Int) by omega), if_pos (by omega)]
    simp only [w64s (i := i) (k := 0) (by omega), cond_true]
    cases y == (0 : Int)
    · obtain ⟨ys, p2, g1, g2, g3⟩ := ih (p + 1) xs h2 (by omega) (by omega)
      exact ⟨ys, p2, g1, g2.mono (by omega), g3⟩
    · obtain ⟨ys, p2, g1, g2, g3⟩ := ih (p + 1) (xs ++ [(i : Int)]) h2 (by omega) (by simp; omega)
      exact ⟨ys, p2, g1, g2.mono (by omega), g3⟩

theorem F58_ok (n : Nat) (hn : 1048576 < n) (c : List Int) (hc : Bytes c) : ∃ (q : List (List D3)) (gaps : List Int), F58 n c = some (q, gaps, ()) ∧ Pl 12 q ∧ gaps.length ≤ 100 := by
  unfold F58
  obtain ⟨b, h1, h2, h3⟩ := F88_ok n c hc
  obtain ⟨q, p1, g1, g2, g3⟩ := F93_ok n hn b 0 0 h2 (by omega) h3
  have hg := gapsAll12 g3
  have : ∃ g : Nat, g ≤ 36 ∧ (F40 n q = some ((g : Int), ()) ∨ (g = 0 ∧ F40 n q = some ((-1 : Int), ()))) := by
    rw [F40_eq n hn q]
    cases progOk q
    · exact ⟨0, by omega, .inr ⟨rfl, rfl⟩⟩
    · exact ⟨gapsAll q, hg, .inl rfl⟩
  obtain ⟨g, hg1, hg2⟩ := this
  obtain ⟨ys, p2, i1, i2, i3⟩ := L58_0_ok n hn b h3 [] q g hg1 hg2 g n 0 p1 _ [] (by omega) (by omega) g2 (by omega) (by simp)
  have i1 : L58_0 n n ([], ()) ((b, p1), ()) (q, ()) [] (0 : Int) = _ := i1
  obtain ⟨y, j1, j2, _⟩ := F90_ok n b p2 _ 16 i2 (by omega) h3
  obtain ⟨y2, l1, l2, _⟩ := F90_ok n b (p2 + 1) _ 9 j2 (by omega) h3
  simp only [h1, g1, i1, j1, l1, Option.bind_some, J58_15, List.length_cons, List.length_nil]
  cases y == (0 : Int)
  · simp only [cond_false]
    cases y == (1 : Int)
    · exact ⟨q, ys, rfl, g3, by omega⟩
    · simp only [cond_true]
      by_cases hz : (ys.length : Int) > 0
      · rw [decide_eq_true hz, cond_true, if_pos hz, if_pos (by show 0 < ys.length; omega), if_pos (by omega)]
        exact ⟨q, _, rfl, g3, by simp; omega⟩
      · rw [decide_eq_false hz, cond_false]
        exact ⟨q, ys, rfl, g3, by omega⟩
  · simp only [cond_true]
    rw [if_pos (by omega)]
    exact ⟨q, _, rfl, g3, by simp; omega⟩
end Go.Proofs.Ytaehbfaldofmbaa.Ev
