/- What the laws over all ways begin with. Conditions: those of each theorem. -/
import Derived.Test.YtdacfaincamliaaGB
import Derived.Test.YtdacfaincamliaaQD
import Derived.Test.YtdacfaincamliaaQ34
namespace Go.Proofs.Ytdacfaincamliaa.Ev
open Go
theorem goodB {c : List Int} (h1 : c.length ≤ 1048576) (h : ∀ x ∈ c, Good (.int .u8) x) : Bytes c := by
  refine ⟨h1, fun x hx => ?_⟩
  have := h x hx
  simp only [Good, Lit.wf, Bool.and_eq_true, decide_eq_true_eq] at this
  have e1 : IntKind.u8.min = 0 := by decide
  have e2 : IntKind.u8.max = 255 := by decide
  rw [e1, e2] at this
  exact this
theorem F33_ok (n : Nat) (hn : 1048576 < n) (c : List Int) (hc : Bytes c) : ∃ q : List (List D3), F33 n c = some (q, ()) ∧ Pl 12 q := by
  obtain ⟨b, h1, h2, h3⟩ := F74_ok n c hc
  obtain ⟨q, p1, g1, _, g3⟩ := F73_ok n hn b 0 0 h2 (by omega) h3
  refine ⟨q, ?_, g3⟩
  unfold F33
  simp only [h1, Option.bind_some]
  rw [g1]
  rfl
theorem all_two (n : Nat) (hn : 1048576 + 2000 < n) {q : List (List D3)} (hq : Pl 12 q) : F34 n q = some (if progOk q then execs q else [], ()) ∧ F35 n q = some (if progOk q then execs q else [], ()) :=
  ⟨F34_eq n hn q fun t ht => by have := hq.2.2 t ht; omega, F35_eq n hn q⟩
theorem L81g_eq (n : Nat) (xs ys : List Int) (hx : xs.length ≤ 1048576) (hy : ys.length = xs.length) : ∀ (k m i : Nat), i + k = xs.length → k < m → L81_0 n m xs ys (i : Int) = some (if xs.drop i = ys.drop i then .inr (.inl ()) else .inl (false, ()))
  | 0, m + 1, i, hi, hm => by
    have : i = xs.length := by omega
    subst this
    unfold L81_0
    rw [List.drop_of_length_le (by omega), List.drop_of_length_le (by omega), if_pos rfl]
    simp
  | k + 1, m + 1, i, hi, hm => by
    have hlt : i < xs.length := by omega
    have hlt2 : i < ys.length := by omega
    unfold L81_0
    simp only [lt_ii, le_0i, hlt, hlt2, Int.toNat_natCast, if_true, decide_true, cond_true]
    rw [w64s (k := k) (by omega), L81g_eq n xs ys hx hy k m (i + 1) (by omega) (by omega), getD_drop xs i 0 hlt, getD_drop ys i 0 hlt2, bne_int]
    by_cases h : xs.getD i 0 = ys.getD i 0
    · rw [decide_eq_true h, Bool.not_true, cond_false]
      by_cases h2 : xs.drop (i + 1) = ys.drop (i + 1)
      · rw [if_pos h2, if_pos (by rw [h, h2])]
      · rw [if_neg h2, if_neg (fun e => h2 (by injection e))]
    · rw [decide_eq_false h, Bool.not_false, cond_true, if_neg (fun e => h (by injection e))]
theorem F81g_eq (n : Nat) (hn : 1048576 < n) (xs ys : List Int) (hx : xs.length ≤ 1048576) : F81 n xs ys = some (decide (xs = ys), ()) := by
  unfold F81
  by_cases hl : ys.length = xs.length
  · have h := L81g_eq n xs ys hx hl xs.length n 0 (by omega) (by omega)
    rw [show ((0 : Nat) : Int) = 0 from rfl, List.drop_zero, List.drop_zero] at h
    rw [hl, bne_self_eq_false, cond_false, h]
    by_cases e : xs = ys
    · rw [if_pos e, decide_eq_true e]
    · rw [if_neg e, decide_eq_false e]
  · have e : xs ≠ ys := fun e => hl (by rw [e])
    rw [bne_int, decide_eq_false (by omega), Bool.not_false, cond_true, decide_eq_false e]
theorem L37_eq (n : Nat) (hn : 1048576 < n) (a b : Xn) (h1 : a.2.length ≤ 1000) (h2 : ∀ r ∈ a.2, r.length ≤ 1000) (hl : b.2.length = a.2.length) : ∀ (k m i : Nat), i + k = a.2.length → k < m → L37_0 n m (a, ()) (b, ()) (i : Int) = some (if a.2.drop i = b.2.drop i then .inr (.inl ()) else .inl (false, ()))
  | 0, m + 1, i, hi, hm => by
    have : i = a.2.length := by omega
    subst this
    unfold L37_0
    rw [List.drop_of_length_le (by omega), List.drop_of_length_le (by omega), if_pos rfl]
    simp
  | k + 1, m + 1, i, hi, hm => by
    have hlt : i < a.2.length := by omega
    have hlt2 : i < b.2.length := by omega
    have h9 := h2 _ (getD_mem a.2 i [] hlt)
    have ih : L37_0 n m ((a.1, a.2), ()) ((b.1, b.2), ()) ((i + 1 : Nat) : Int) = _ := L37_eq n hn a b h1 h2 hl k m (i + 1) (by omega) (by omega)
    unfold L37_0
    simp only [lt_ii, le_0i, hlt, hlt2, Int.toNat_natCast, if_true, decide_true, cond_true]
    rw [F81g_eq n hn _ _ (by omega), Option.bind_some, w64s (k := k) (by omega)]
    simp only [ih]
    rw [getD_drop a.2 i [] hlt, getD_drop b.2 i [] hlt2]
    by_cases h : a.2.getD i [] = b.2.getD i []
    · rw [decide_eq_true h, Bool.not_true, cond_false]
      by_cases h2 : a.2.drop (i + 1) = b.2.drop (i + 1)
      · rw [if_pos h2, if_pos (by rw [h, h2])]
      · rw [if_neg h2, if_neg (fun e => h2 (by injection e))]
    · rw [decide_eq_false h, Bool.not_false, cond_true, if_neg (fun e => h (by injection e))]
theorem F37_eq (n : Nat) (hn : 1048576 < n) (a b : Xn) (h0 : a.1.length ≤ 1000) (h1 : a.2.length ≤ 1000) (h2 : ∀ r ∈ a.2, r.length ≤ 1000) : F37 n (a.1, a.2) (b.1, b.2) = some (decide (a = b), ()) := by
  unfold F37
  simp only
  rw [F81g_eq n hn _ _ (by omega), Option.bind_some]
  simp only
  by_cases e1 : a.1 = b.1
  · rw [decide_eq_true e1, Bool.not_true, cond_false]
    by_cases hl : b.2.length = a.2.length
    · have h : L37_0 n n ((a.1, a.2), ()) ((b.1, b.2), ()) (0 : Int) = _ := L37_eq n hn a b h1 h2 hl a.2.length n 0 (by omega) (by omega)
      rw [List.drop_zero, List.drop_zero] at h
      rw [hl, bne_self_eq_false, cond_false]
      unfold J37_3
      simp only [h]
      by_cases e2 : a.2 = b.2
      · rw [if_pos e2, decide_eq_true (Prod.ext e1 e2)]
      · rw [if_neg e2, decide_eq_false (fun e => e2 (by rw [e]))]
    · rw [bne_int, decide_eq_false (fun e => hl (by omega)), Bool.not_false, cond_true, decide_eq_false (fun e => hl (by rw [e]))]
  · rw [decide_eq_false e1, Bool.not_false, cond_true, decide_eq_false (fun e => e1 (by rw [e]))]
end Go.Proofs.Ytdacfaincamliaa.Ev
