/- The law of SeenIn over its plain functions. Conditions: none. -/
import Derived.Test.YtaehbfaldofmbaaG4
import Derived.Test.YtaehbfaldofmbaaQM
namespace Go.Proofs.Ytaehbfaldofmbaa.Ev
open Go
def SmallL (xs : List Sn) : Prop := xs.length ≤ 1048576 ∧ ∀ s ∈ xs, SmallS s

theorem L29_eq (n : Nat) (xs : List Sn) (hx : xs.length ≤ 1048576) (hs : ∀ s ∈ xs, s.1.length ≤ 9223372036854775807 ∧ s.2.length ≤ 9223372036854775807) : ∀ (k m i : Nat) (l : Int), i + k = xs.length → k < m → 0 ≤ l → l ≤ 1048576 →
    (∃ r : Int, L29_0 n m xs l (i : Int) = some (.inl (r, ())) ∧ r < 0) ∨ ∃ r : Int, L29_0 n m xs l (i : Int) = some (.inr (.inl (r, ()))) ∧ 0 ≤ r ∧ r ≤ l ∧ ∀ s ∈ xs.drop i, SmallS s
  | 0, m + 1, i, l, hi, hm, h0, h1 => by
    have : i = xs.length := by omega
    subst this
    refine .inr ⟨l, ?_, h0, Int.le_refl _, by simp⟩
    unfold L29_0
    simp
  | k + 1, m + 1, i, l, hi, hm, h0, h1 => by
    have hlt : i < xs.length := by omega
    have hg := hs _ (getD_mem xs i ([], []) hlt)
    obtain ⟨r, e, h2⟩ := F24_eq n (xs.getD i ([], [])) l h0 h1 hg.1 hg.2
    have e : F24 n ((xs.getD i ([], [])).1, (xs.getD i ([], [])).2) l = _ := e
    unfold L29_0
    simp only [lt_ii, le_0i, hlt, Int.toNat_natCast, if_true, decide_true, cond_true, e, Option.bind_some]
    rw [w64s (k := k) (by omega)]
    rcases h2 with h2 | ⟨h2, h3, h4⟩
    · rw [decide_eq_true h2]
      exact .inl ⟨-1, rfl, by decide⟩
    · rw [decide_eq_false (show ¬ r < 0 by omega)]
      simp only [cond_false]
      rcases L29_eq n xs hx hs k m (i + 1) r (by omega) (by omega) h2 (by omega) with ⟨q, k1, k2⟩ | ⟨q, k1, k2, k3, k4⟩
      · exact .inl ⟨q, k1, k2⟩
      · refine .inr ⟨q, k1, k2, by omega, fun s hs' => ?_⟩
        rw [getD_drop xs i ([], []) hlt] at hs'
        rcases List.mem_cons.mp hs' with rfl | hs'
        · exact h4
        · exact k4 s hs'
theorem F29_eq (n : Nat) (hn : 1048576 < n) (xs : List Sn) (hx : xs.length ≤ 9223372036854775807) (hs : ∀ s ∈ xs, s.1.length ≤ 9223372036854775807 ∧ s.2.length ≤ 9223372036854775807) : ∃ r : Int, F29 n xs 1048576 = some (r, ()) ∧ (r < 0 ∨ (0 ≤ r ∧ r ≤ 1048576 ∧ SmallL xs)) := by
  unfold F29
  rw [w64 (by omega) (by omega)]
  by_cases h : (1048576 : Int) - xs.length < 0
  · simp only [h, decide_true, cond_true]
    exact ⟨-1, rfl, .inl (by decide)⟩
  · simp only [h, decide_false, cond_false]
    rcases L29_eq n xs (by omega) hs xs.length n 0 (1048576 - xs.length) (by omega) (by omega) (by omega) (by omega) with ⟨q, k1, k2⟩ | ⟨q, k1, k2, k3, k4⟩
    · have k1 : L29_0 n n xs (1048576 - xs.length) (0 : Int) = _ := k1
      rw [k1]
      exact ⟨q, rfl, .inl k2⟩
    · have k1 : L29_0 n n xs (1048576 - xs.length) (0 : Int) = _ := k1
      rw [k1]
      exact ⟨q, rfl, .inr ⟨k2, by omega, by omega, by simpa using k4⟩⟩
theorem L31_eq (n : Nat) (hn : 1048576 < n) (xs : List Sn) (hx : SmallL xs) : ∀ (k m i : Nat) (ys : List Sn), i + k = xs.length → k < m → ys.length = xs.length → ys.take i = xs.take i → L31_0 n m xs ys (i : Int) = some (.inl (xs, ()))
  | 0, m + 1, i, ys, hi, hm, hl, ht => by
    have : i = xs.length := by omega
    subst this
    unfold L31_0
    rw [List.take_length, List.take_of_length_le (by omega)] at ht
    simp [ht]
  | k + 1, m + 1, i, ys, hi, hm, hl, ht => by
    have hlt : i < xs.length := by omega
    have h1 := hx.1
    have e := F26_eq n (xs.getD i ([], [])) (hx.2 _ (getD_mem xs i ([], []) hlt)) hn
    have e : F26 n ((xs.getD i ([], [])).1, (xs.getD i ([], [])).2) = _ := e
    unfold L31_0
    simp only [lt_ii, le_0i, hlt, hl, Int.toNat_natCast, if_true, decide_true, cond_true, e, Option.bind_some]
    rw [w64s (k := k) (by omega), if_pos (by rw [List.length_take]; omega), take_put _ (by omega)]
    exact L31_eq n hn xs hx k m (i + 1) _ (by omega) (by omega) (by simp [hl]) (take_set xs ys i _ hlt hl ht)
theorem F31_eq (n : Nat) (hn : 1048576 < n) (xs : List Sn) (h : SmallL xs) : F31 n xs = some (xs, ()) := by
  have h1 := h.1
  unfold F31
  rw [if_pos rfl, if_pos (by simp; omega), show ((0 : Int)) = ((0 : Nat) : Int) from rfl, L31_eq n hn xs h xs.length n 0 _ (by omega) (by omega) (by simp) (by simp)]

theorem L30_eq (n : Nat) (hn : 1048576 < n) (xs : List Sn) (hx : SmallL xs) (s : Sn) : ∀ (k m i : Nat), i + k = xs.length → k < m →
    L30_0 n m xs (s, ()) (i : Int) = some (if (xs.drop i).any (fun z => decide (cmpS z s = 0)) then .inl (true, ()) else .inr (.inl ()))
  | 0, m + 1, i, hi, hm => by
    have : i = xs.length := by omega
    subst this
    unfold L30_0
    simp
  | k + 1, m + 1, i, hi, hm => by
    have hlt : i < xs.length := by omega
    have h1 := hx.1
    have e := F76_eq n (xs.getD i ([], [])) s (hx.2 _ (getD_mem xs i ([], []) hlt)) hn
    have e : F76 n ((xs.getD i ([], [])).1, (xs.getD i ([], [])).2) (s.1, s.2) = _ := e
    unfold L30_0
    simp only [lt_ii, le_0i, hlt, Int.toNat_natCast, if_true, decide_true, cond_true, e, Option.bind_some, beq_int]
    rw [getD_drop xs i ([], []) hlt, List.any_cons]
    cases decide (cmpS (xs.getD i ([], [])) s = 0)
    · simp only [cond_false, Bool.false_or]
      rw [w64s (k := k) (by omega)]
      exact L30_eq n hn xs hx s k m (i + 1) (by omega) (by omega)
    · rfl
theorem F30_eq (n : Nat) (hn : 1048576 < n) (xs : List Sn) (hx : SmallL xs) (s : Sn) : F30 n xs s = some (xs.any (fun z => decide (cmpS z s = 0)), ()) := by
  have e := L30_eq n hn xs hx s xs.length n 0 (by omega) (by have := hx.1; omega)
  have e : L30_0 n n xs ((s.1, s.2), ()) (0 : Int) = _ := e
  unfold F30
  rw [e, List.drop_zero]
  cases xs.any (fun z => decide (cmpS z s = 0)) <;> rfl

theorem L115_eq (n : Nat) (hn : 1048576 < n) (xs : List Sn) (hx : SmallL xs) (s : Sn) (hs : SmallS s) : ∀ (k m i : Nat), i + k = xs.length → k < m →
    ∃ r : Int, L115_0 n m xs s (xs.length : Int) (i : Int) = some (if (xs.drop i).any (fun z => decide (cmpS s z = 0)) then .inl (r, ()) else .inr (.inl ())) ∧ 0 ≤ r
  | 0, m + 1, i, hi, hm => by
    have : i = xs.length := by omega
    subst this
    refine ⟨0, ?_, Int.le_refl _⟩
    unfold L115_0
    simp
  | k + 1, m + 1, i, hi, hm => by
    have hlt : i < xs.length := by omega
    have h1 := hx.1
    have e := F77_eq n s (xs.getD i ([], [])) hs hn
    have e : F79 n (s.1, s.2) ((xs.getD i ([], [])).1, (xs.getD i ([], [])).2) = some (cmpS s (xs.getD i ([], [])) == 0, ()) := by
      unfold F79
      have e : F77 n (s.1, s.2) ((xs.getD i ([], [])).1, (xs.getD i ([], [])).2) = _ := e
      simp only [e, Option.bind_some]
    unfold L115_0
    simp only [lt_ii, le_0i, hlt, Int.toNat_natCast, if_true, decide_true, cond_true, e, Option.bind_some, beq_int]
    rw [getD_drop xs i ([], []) hlt, List.any_cons]
    cases decide (cmpS s (xs.getD i ([], [])) = 0)
    · simp only [cond_false, Bool.false_or]
      rw [w64s (k := k) (by omega)]
      exact L115_eq n hn xs hx s hs k m (i + 1) (by omega) (by omega)
    · exact ⟨(i : Int), rfl, by omega⟩
theorem F32_eq (n : Nat) (hn : 1048576 < n) (xs : List Sn) (hx : SmallL xs) (s : Sn) (hs : SmallS s) : F32 n xs s = some (xs.any (fun z => decide (cmpS s z = 0)), ()) := by
  obtain ⟨r, e, h0⟩ := L115_eq n hn xs hx s hs xs.length n 0 (by omega) (by have := hx.1; omega)
  have e : L115_0 n n xs s (xs.length : Int) (0 : Int) = _ := e
  unfold F32 F78 F115
  have e : L115_0 n n xs (s.1, s.2) (xs.length : Int) (0 : Int) = _ := e
  rw [e, List.drop_zero]
  cases xs.any (fun z => decide (cmpS s z = 0))
  · rfl
  · simp only [if_true, Option.bind_some]
    rw [decide_eq_true (show r ≥ 0 from h0)]
theorem cmp_flip (xs : List Sn) (s : Sn) : xs.any (fun z => decide (cmpS s z = 0)) = xs.any (fun z => decide (cmpS z s = 0)) := by
  congr 1
  funext z
  have := cmpS_swap z s
  by_cases h : cmpS z s = 0
  · rw [decide_eq_true h, decide_eq_true (by omega)]
  · rw [decide_eq_false h, decide_eq_false (by omega)]
theorem L33_self (n : Nat) (hn : 1048576 < n) (xs : List Sn) (hx : SmallL xs) : ∀ (k m i : Nat), i + k = xs.length → k < m → L33_0 n m xs xs (i : Int) = some (.inr (.inl ()))
  | 0, m + 1, i, hi, hm => by
    have : i = xs.length := by omega
    subst this
    unfold L33_0
    simp
  | k + 1, m + 1, i, hi, hm => by
    have hlt : i < xs.length := by omega
    have h1 := hx.1
    have e := F28_eq n (xs.getD i ([], [])) (xs.getD i ([], [])) (hx.2 _ (getD_mem xs i ([], []) hlt)) hn
    have e : F28 n ((xs.getD i ([], [])).1, (xs.getD i ([], [])).2) ((xs.getD i ([], [])).1, (xs.getD i ([], [])).2) = _ := e
    unfold L33_0
    simp only [lt_ii, le_0i, hlt, Int.toNat_natCast, if_true, decide_true, cond_true, e, Option.bind_some, Bool.not_true, cond_false]
    rw [w64s (k := k) (by omega)]
    exact L33_self n hn xs hx k m (i + 1) (by omega) (by omega)
theorem F33_self (n : Nat) (hn : 1048576 < n) (xs : List Sn) (hx : SmallL xs) : F33 n xs xs = some (true, ()) := by
  have e := L33_self n hn xs hx xs.length n 0 (by omega) (by have := hx.1; omega)
  have e : L33_0 n n xs xs (0 : Int) = _ := e
  unfold F33
  simp only [bne_self_eq_false, cond_false, e]
theorem pure_FnExactSeenIn (xs : pdens [.c false (.v true (.rs 24 (.pair (.rs 3 (.int .i64)) (.rs 3 (.int .i64))))), .c true (.v true (.pair (.rs 3 (.int .i64)) (.rs 3 (.int .i64))))]) (hg : GoodP 0 [.c false (.v true (.rs 24 (.pair (.rs 3 (.int .i64)) (.rs 3 (.int .i64))))), .c true (.v true (.pair (.rs 3 (.int .i64)) (.rs 3 (.int .i64))))] xs) :
    ∃ n, F4 n xs.1 xs.2.1 = some (true, ()) := by
  obtain ⟨l, s, _⟩ := xs
  obtain ⟨⟨h1, h2⟩, ⟨h3, h4⟩, _⟩ := hg
  refine ⟨1048577, ?_⟩
  have hn : 1048576 < 1048577 := by omega
  generalize 1048577 = n at *
  obtain ⟨r, e1, k1⟩ := F29_eq n hn l h1 (fun t ht => ⟨(h2 t ht).1.1, (h2 t ht).2.1⟩)
  unfold F4
  rw [e1, Option.bind_some]
  rcases k1 with k1 | ⟨k1, k2, k3⟩
  · rw [decide_eq_true k1]; rfl
  rw [decide_eq_false (show ¬ r < 0 by omega), cond_false]
  obtain ⟨q, e2, m1⟩ := F24_eq n s r k1 k2 h3.1 h4.1
  have e2 : F24 n (s.1, s.2) r = _ := e2
  simp only [e2, Option.bind_some]
  rcases m1 with m1 | ⟨m1, _, m2⟩
  · rw [decide_eq_true m1]; rfl
  rw [decide_eq_false (show ¬ q < 0 by omega), cond_false]
  have a1 := F31_eq n hn l k3
  have a2 : F26 n (s.1, s.2) = some (s, ()) := F26_eq n s m2 hn
  have a3 : F30 n l (s.1, s.2) = _ := F30_eq n hn l k3 s
  have a4 : F32 n l (s.1, s.2) = _ := F32_eq n hn l k3 s m2
  have a5 := F33_self n hn l k3
  have a6 : F28 n (s.1, s.2) (s.1, s.2) = _ := F28_eq n s s m2 hn
  simp only [a1, a2, a3, a4, a5, a6, cmp_flip, Option.bind_some, decide_true, Bool.not_true, cond_false]
  cases l.any (fun z => decide (cmpS z s = 0)) <;> rfl
end Go.Proofs.Ytaehbfaldofmbaa.Ev
