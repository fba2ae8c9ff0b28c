/- The law FnExactOrderHas's function answers true. Conditions: none. -/
import Derived.Test.YtdacfaincamliaaGreatG3
import Derived.Test.YtdacfaincamliaaGreatQR
import Derived.Test.YtdacfaincamliaaGreatEvRow
namespace Go.Proofs.YtdacfaincamliaaGreat.Ev
open Go
theorem L12_le (n : Nat) (xs : List (List D3)) (hg : ∀ t ∈ xs, t.length ≤ 9223372036854775807) (hx : xs.length ≤ 1048576) : ∀ (k m i : Nat) (l : Int), i + k = xs.length → k < m → 0 ≤ l → l ≤ 1048576 →
    ∀ r : Int, L12_0 n m xs l (i : Int) = some (.inr (.inl (r, ()))) → r ≤ l
  | 0, m + 1, i, l, hi, hm, h0, h1, r, h => by
    have : i = xs.length := by omega
    subst this
    unfold L12_0 at h
    rw [show decide ((xs.length : Int) < (xs.length : Int)) = false from decide_eq_false (by omega), cond_false] at h
    injection h with h
    injection h with h
    injection h with h
    injection h with h _
    omega
  | k + 1, m + 1, i, l, hi, hm, h0, h1, r, h => by
    have hlt : i < xs.length := by omega
    unfold L12_0 at h
    simp only [lt_ii, le_0i, hlt, Int.toNat_natCast, if_true, decide_true, cond_true] at h
    rw [F32_eq n _ l h0 h1 (hg _ (getD_mem xs i _ hlt)), Option.bind_some, w64s (k := k) (by omega)] at h
    by_cases hneg : l - ((xs.getD i []).length : Int) < 0
    · simp only [show (Ty.rs (89 : Go.TypeId) ((Ty.int Go.IntKind.i64).pair ((Ty.int Go.IntKind.i64).pair (Ty.int Go.IntKind.i64)))).dflt = ([] : List D3) from rfl, if_pos hneg] at h
      cases h
    · simp only [show (Ty.rs (89 : Go.TypeId) ((Ty.int Go.IntKind.i64).pair ((Ty.int Go.IntKind.i64).pair (Ty.int Go.IntKind.i64)))).dflt = ([] : List D3) from rfl, if_neg hneg] at h
      rw [show decide (l - ((xs.getD i []).length : Int) < 0) = false by simpa using hneg, cond_false] at h
      have := L12_le n xs hg hx k m (i + 1) (l - (xs.getD i []).length) (by omega) (by omega) (by omega) (by omega) r h
      omega
theorem F4_le (n : Nat) (hn : 1048576 < n) (xs : List (List D3)) (hx : xs.length ≤ 9223372036854775807) (hg : ∀ t ∈ xs, t.length ≤ 9223372036854775807) (r : Int) (h0 : F4 n xs 1048576 = some (r, ())) : r ≤ 1048576 := by
  unfold F4 F12 at h0
  rw [w64 (by omega) (by omega)] at h0
  by_cases h : (1048576 : Int) - xs.length < 0
  · simp only [h, decide_true, cond_true, Option.bind_some] at h0
    injection h0 with h0
    injection h0 with h0 _
    omega
  · simp only [h, decide_false, cond_false] at h0
    rcases L12_eq n xs hg (by omega) xs.length n 0 (1048576 - xs.length) (by omega) (by omega) (by omega) (by omega) with ⟨q, h2, h3⟩ | ⟨q, h2, h3, h4⟩
    · rw [show ((0 : Int)) = ((0 : Nat) : Int) from rfl, h2] at h0
      simp only [Option.bind_some] at h0
      rw [show decide (q < ((0 : Nat) : Int)) = true by simpa using h3, cond_true] at h0
      injection h0 with h0
      injection h0 with h0 _
      omega
    · have h5 := L12_le n xs hg (by omega) xs.length n 0 (1048576 - xs.length) (by omega) (by omega) (by omega) (by omega) q h2
      rw [show ((0 : Int)) = ((0 : Nat) : Int) from rfl, h2] at h0
      simp only [Option.bind_some] at h0
      rw [show decide (q < ((0 : Nat) : Int)) = false by simpa using h3, cond_false] at h0
      injection h0 with h0
      injection h0 with h0 _
      have h0 : @Eq Int q r := h0
      omega
theorem pure_FnExactOrderHas (xs : pdens [.c true (.v true (.rs 66 (.rs 89 (.pair (.int .i64) (.pair (.int .i64) (.int .i64)))))), .c true (.v true (.pair (.rs 3 (.int .i64)) (.rs 25 (.rs 3 (.int .i64))))), .c false (.v true (.int .i64)), .c false (.v true (.int .i64)), .c false (.v true (.int .i64))]) (hg : GoodP 0 [.c true (.v true (.rs 66 (.rs 89 (.pair (.int .i64) (.pair (.int .i64) (.int .i64)))))), .c true (.v true (.pair (.rs 3 (.int .i64)) (.rs 25 (.rs 3 (.int .i64))))), .c false (.v true (.int .i64)), .c false (.v true (.int .i64)), .c false (.v true (.int .i64))] xs) :
    ∃ n, F3 n xs.1 xs.2.1 xs.2.2.1 xs.2.2.2.1 xs.2.2.2.2.1 = some (true, ()) := by
  obtain ⟨p, s, kd, a, b, _⟩ := xs
  obtain ⟨⟨h1, h2⟩, ⟨h3, h4⟩, _⟩ := hg
  refine ⟨1048577, ?_⟩
  have hn : 1048576 < 1048577 := by omega
  generalize 1048577 = n at *
  have h2' : ∀ t ∈ p, t.length ≤ 9223372036854775807 := fun t ht => (h2 t ht).1
  obtain ⟨r, e1, k1⟩ := F4_eq n hn p h1 h2'
  have hr := F4_le n hn p h1 h2' r e1
  unfold F3
  rw [e1, Option.bind_some]
  rcases k1 with k1 | k1
  · rw [decide_eq_true k1]; rfl
  by_cases hr0 : r < 0
  · rw [decide_eq_true hr0]; rfl
  rw [decide_eq_false hr0, cond_false]
  obtain ⟨q, e2, m1⟩ := F5_eq n hn s r (by omega) hr h3.1 h4.1 (fun t ht => (h4.2 t ht).1)
  have e2 : F5 n (s.1, s.2) r = _ := e2
  simp only [e2, Option.bind_some]
  rcases m1 with m1 | ⟨m1, m2⟩
  · rw [decide_eq_true m1]; rfl
  by_cases hq0 : q < 0
  · rw [decide_eq_true hq0]; rfl
  rw [decide_eq_false hq0, cond_false]
  have a1 := F7_eq n hn p k1
  have a2 : F8 n (s.1, s.2) = some (s, ()) := F8_eq n hn s m1 m2
  have a3 : F6 n p (s.1, s.2) kd a b = _ := F6_eq n hn p s m2 kd a b
  have a4 : F9 n p (s.1, s.2) kd a b = _ := F9_eq n hn p k1.2 s m2 kd a b
  have a5 := F10_eq n hn p p k1
  have a6 : F11 n (s.1, s.2) (s.1, s.2) = _ := F11_eq n hn s m1 m2
  simp only [a1, a2, a3, a4, a5, a6, Option.bind_some, decide_true, Bool.not_true, cond_false]
  cases orderHas p s kd a b <;> rfl
end Go.Proofs.YtdacfaincamliaaGreat.Ev
