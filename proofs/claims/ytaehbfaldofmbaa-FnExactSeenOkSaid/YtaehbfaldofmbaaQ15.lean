/- The law of SeenOk over its plain functions. Conditions: none. -/
import Derived.Test.YtaehbfaldofmbaaG15
import Derived.Test.YtaehbfaldofmbaaQM
import Derived.Test.YtaehbfaldofmbaaQC
namespace Go.Proofs.Ytaehbfaldofmbaa.Ev
open Go
def okV (x : Int) : Bool := decide (x ≥ 0) && decide (x ≤ 3)
theorem L98_eq (n : Nat) (xs : List Int) (hx : xs.length ≤ 1048576) : ∀ (k m i : Nat), i + k = xs.length → k < m →
    L98_0 n m xs (i : Int) = some (if (xs.drop i).all okV then .inr (.inl ()) else .inl (false, ()))
  | 0, m + 1, i, hi, hm => by
    have : i = xs.length := by omega
    subst this
    unfold L98_0
    simp
  | k + 1, m + 1, i, hi, hm => by
    have hlt : i < xs.length := by omega
    unfold L98_0
    simp only [lt_ii, le_0i, hlt, Int.toNat_natCast, if_true, decide_true, cond_true, F129_eq, Option.bind_some]
    rw [getD_drop xs i (0 : Int) hlt, List.all_cons, show (decide (xs.getD i (0 : Int) ≥ 0) && decide (xs.getD i (0 : Int) ≤ 3)) = okV (xs.getD i (0 : Int)) from rfl]
    cases okV (xs.getD i (0 : Int))
    · rfl
    · simp only [Bool.not_true, cond_false, Bool.true_and]
      rw [w64s (k := k) (by omega)]
      exact L98_eq n xs hx k m (i + 1) (by omega) (by omega)
theorem F98_eq (n : Nat) (hn : 1048576 < n) (xs : List Int) (hx : xs.length ≤ 1048576) : F98 n xs = some (xs.all okV, ()) := by
  have e := L98_eq n xs hx xs.length n 0 (by omega) (by omega)
  have e : L98_0 n n xs (0 : Int) = _ := e
  unfold F98
  rw [e, List.drop_zero]
  cases xs.all okV <;> rfl
theorem L141_eq (n : Nat) (xs : List Int) (hx : xs.length ≤ 1048576) : ∀ (k m i : Nat), i + k = xs.length → k < m →
    ∃ r : Int, L141_0 n m xs () (xs.length : Int) (i : Int) = some (if (xs.drop i).all okV then .inr (.inl ()) else .inl (r, ())) ∧ 0 ≤ r
  | 0, m + 1, i, hi, hm => by
    have : i = xs.length := by omega
    subst this
    refine ⟨0, ?_, Int.le_refl _⟩
    unfold L141_0
    simp
  | k + 1, m + 1, i, hi, hm => by
    have hlt : i < xs.length := by omega
    unfold L141_0 F131
    simp only [lt_ii, le_0i, hlt, Int.toNat_natCast, if_true, decide_true, cond_true, F102_eq, Option.bind_some]
    rw [getD_drop xs i (0 : Int) hlt, List.all_cons, show (decide (xs.getD i (0 : Int) ≥ 0) && decide (xs.getD i (0 : Int) ≤ 3)) = okV (xs.getD i (0 : Int)) from rfl]
    cases okV (xs.getD i (0 : Int))
    · exact ⟨(i : Int), rfl, by omega⟩
    · simp only [Bool.not_true, cond_false, Bool.true_and]
      rw [w64s (k := k) (by omega)]
      exact L141_eq n xs hx k m (i + 1) (by omega) (by omega)
theorem F99_eq (n : Nat) (hn : 1048576 < n) (xs : List Int) (hx : xs.length ≤ 1048576) : F99 n xs = some (xs.all okV, ()) := by
  obtain ⟨r, e, h0⟩ := L141_eq n xs hx xs.length n 0 (by omega) (by omega)
  have e : L141_0 n n xs () (xs.length : Int) (0 : Int) = _ := e
  unfold F99 F130 F141
  rw [e, List.drop_zero]
  cases xs.all okV
  · simp only [Bool.false_eq_true, if_false, Option.bind_some]
    rw [decide_eq_true (show r ≥ 0 from h0)]
    rfl
  · rfl
theorem L80_le (n : Nat) (xs : List (List D3)) (hg : ∀ t ∈ xs, t.length ≤ 9223372036854775807) (hx : xs.length ≤ 1048576) : ∀ (k m i : Nat) (l : Int), i + k = xs.length → k < m → 0 ≤ l → l ≤ 1048576 →
    ∀ r : Int, L80_0 n m xs l (i : Int) = some (.inr (.inl (r, ()))) → r ≤ l
  | 0, m + 1, i, l, hi, hm, h0, h1, r, h => by
    have : i = xs.length := by omega
    subst this
    unfold L80_0 at h
    rw [show decide ((xs.length : Int) < (xs.length : Int)) = false from decide_eq_false (by omega), cond_false] at h
    injection h with h
    injection h with h
    injection h with h
    injection h with h _
    omega
  | k + 1, m + 1, i, l, hi, hm, h0, h1, r, h => by
    have hlt : i < xs.length := by omega
    unfold L80_0 at h
    simp only [lt_ii, le_0i, hlt, Int.toNat_natCast, if_true, decide_true, cond_true] at h
    rw [F116_eq n _ l h0 h1 (hg _ (getD_mem xs i _ hlt)), Option.bind_some, w64s (k := k) (by omega)] at h
    by_cases hneg : l - ((xs.getD i []).length : Int) < 0
    · simp only [show (Ty.rs (130 : Go.TypeId) ((Ty.int Go.IntKind.i64).pair ((Ty.int Go.IntKind.i64).pair (Ty.int Go.IntKind.i64)))).dflt = ([] : List D3) from rfl, if_pos hneg] at h
      cases h
    · simp only [show (Ty.rs (130 : Go.TypeId) ((Ty.int Go.IntKind.i64).pair ((Ty.int Go.IntKind.i64).pair (Ty.int Go.IntKind.i64)))).dflt = ([] : List D3) from rfl, if_neg hneg] at h
      rw [show decide (l - ((xs.getD i []).length : Int) < 0) = false by simpa using hneg, cond_false] at h
      have := L80_le n xs hg hx k m (i + 1) (l - (xs.getD i []).length) (by omega) (by omega) (by omega) (by omega) r h
      omega
theorem F34_le (n : Nat) (hn : 1048576 < n) (xs : List (List D3)) (hx : xs.length ≤ 9223372036854775807) (hg : ∀ t ∈ xs, t.length ≤ 9223372036854775807) (r : Int) (h0 : F34 n xs 1048576 = some (r, ())) : r ≤ 1048576 := by
  unfold F34 F80 at h0
  rw [w64 (by omega) (by omega)] at h0
  by_cases h : (1048576 : Int) - xs.length < 0
  · simp only [h, decide_true, cond_true, Option.bind_some] at h0
    injection h0 with h0
    injection h0 with h0 _
    omega
  · simp only [h, decide_false, cond_false] at h0
    rcases L80_eq n xs hg (by omega) xs.length n 0 (1048576 - xs.length) (by omega) (by omega) (by omega) (by omega) with ⟨q, h2, h3⟩ | ⟨q, h2, h3, h4⟩
    · rw [show ((0 : Int)) = ((0 : Nat) : Int) from rfl, h2] at h0
      simp only [Option.bind_some] at h0
      rw [show decide (q < ((0 : Nat) : Int)) = true by simpa using h3, cond_true] at h0
      injection h0 with h0
      injection h0 with h0 _
      omega
    · have h5 := L80_le n xs hg (by omega) xs.length n 0 (1048576 - xs.length) (by omega) (by omega) (by omega) (by omega) q h2
      rw [show ((0 : Int)) = ((0 : Nat) : Int) from rfl, h2] at h0
      simp only [Option.bind_some] at h0
      rw [show decide (q < ((0 : Nat) : Int)) = false by simpa using h3, cond_false] at h0
      injection h0 with h0
      injection h0 with h0 _
      have h0 : @Eq Int q r := h0
      omega
def seenOk (p : List (List D3)) (s : Sn) : Bool := progOk p && (decide ((s.1.length : Int) = (readsAll p : Int)) && (decide (s.2.length = 3) && (s.1.all okV && s.2.all okV)))
theorem F56_eq (n : Nat) (hn : 1048576 < n) (p : List (List D3)) (s : Sn) (h1 : s.1.length ≤ 1048576) (h2 : s.2.length ≤ 1048576) : F56 n p s = some (seenOk p s, ()) := by
  unfold F56 seenOk
  simp only [F35_eq n hn, Option.bind_some, F42_eq n hn, F98_eq n hn _ h1, F98_eq n hn _ h2]
  cases progOk p
  · rfl
  · simp only [cond_true, if_true, Bool.true_and]
    rw [beq_int, show ((s.2.length : Int) == 3) = decide (s.2.length = 3) by rw [beq_int]; congr 1; exact propext ⟨fun h => by omega, fun h => by omega⟩]
    cases decide ((s.1.length : Int) = (readsAll p : Int)) <;> cases decide (s.2.length = 3) <;> cases s.1.all okV <;> rfl
theorem F57_eq (n : Nat) (hn : 1048576 < n) (p : List (List D3)) (hp : ∀ t ∈ p, t.length ≤ 1048576) (s : Sn) (h1 : s.1.length ≤ 1048576) (h2 : s.2.length ≤ 1048576) : F57 n p s = some (seenOk p s, ()) := by
  unfold F57 seenOk
  simp only [F37_eq n hn p hp, Option.bind_some, F43_eq n hn p hp, F99_eq n hn _ h1, F99_eq n hn _ h2]
  cases progOk p
  · rfl
  · simp only [cond_true, if_true, Bool.true_and]
    rw [beq_int, show ((s.2.length : Int) == 3) = decide (s.2.length = 3) by rw [beq_int]; congr 1; exact propext ⟨fun h => by omega, fun h => by omega⟩]
    cases decide ((s.1.length : Int) = (readsAll p : Int)) <;> cases decide (s.2.length = 3) <;> cases s.1.all okV <;> rfl
theorem pure_FnExactSeenOk (xs : pdens [.c true (.v true (.rs 115 (.rs 130 (.pair (.int .i64) (.pair (.int .i64) (.int .i64)))))), .c true (.v true (.pair (.rs 3 (.int .i64)) (.rs 3 (.int .i64))))]) (hg : GoodP 0 [.c true (.v true (.rs 115 (.rs 130 (.pair (.int .i64) (.pair (.int .i64) (.int .i64)))))), .c true (.v true (.pair (.rs 3 (.int .i64)) (.rs 3 (.int .i64))))] xs) :
    ∃ n, F15 n xs.1 xs.2.1 = some (true, ()) := by
  obtain ⟨p, s, _⟩ := xs
  obtain ⟨⟨h1, h2⟩, ⟨h3, h4⟩, _⟩ := hg
  refine ⟨1048577, ?_⟩
  have hn : 1048576 < 1048577 := by omega
  generalize 1048577 = n at *
  have h2' : ∀ t ∈ p, t.length ≤ 9223372036854775807 := fun t ht => (h2 t ht).1
  obtain ⟨r, e1, k1⟩ := F34_eq n hn p h1 h2'
  have hr := F34_le n hn p h1 h2' r e1
  unfold F15
  rw [e1, Option.bind_some]
  rcases k1 with k1 | k1
  · rw [decide_eq_true k1]; rfl
  by_cases hr0 : r < 0
  · rw [decide_eq_true hr0]; rfl
  rw [decide_eq_false hr0, cond_false]
  obtain ⟨q, e2, m1⟩ := F24_eq n s r (by omega) hr h3.1 h4.1
  have e2 : F24 n (s.1, s.2) r = _ := e2
  simp only [e2, Option.bind_some]
  rcases m1 with m1 | ⟨m1, _, m2⟩
  · rw [decide_eq_true m1]; rfl
  rw [decide_eq_false (show ¬ q < 0 by omega), cond_false]
  have a1 := F36_eq n hn p k1
  have a2 : F26 n (s.1, s.2) = some (s, ()) := F26_eq n s m2 hn
  have a3 : F56 n p (s.1, s.2) = _ := F56_eq n hn p s m2.1 m2.2
  have a4 : F57 n p (s.1, s.2) = _ := F57_eq n hn p k1.2 s m2.1 m2.2
  have a5 := F38_eq n hn p p k1
  have a6 : F28 n (s.1, s.2) (s.1, s.2) = _ := F28_eq n s s m2 hn
  simp only [a1, a2, a3, a4, a5, a6, Option.bind_some, decide_true, Bool.not_true, cond_false]
  cases seenOk p s <;> rfl
end Go.Proofs.Ytaehbfaldofmbaa.Ev
