/- The law of WallAll over its plain functions. Conditions: none. -/
import Derived.Test.YtaehbfaldofmbaaG17
import Derived.Test.YtaehbfaldofmbaaQX
namespace Go.Proofs.Ytaehbfaldofmbaa.Ev
open Go
def rng : Nat → List Int
  | 0 => []
  | k + 1 => rng k ++ [(k : Int)]
theorem rng_len : ∀ k, (rng k).length = k
  | 0 => rfl
  | k + 1 => by simp [rng, rng_len k]
theorem L62_eq (n : Nat) (hn : 1048576 < n) (p : List (List D3)) (o : List (List D3)) (K : Nat) (hK : K ≤ 1000000) (hp : F40 n p = some ((K : Int), ())) : ∀ (k m i : Nat), i + k = K → k < m →
    L62_0 n m (p, ()) (o, ()) (rng i) (i : Int) = some (.inl ((p, ()), (o, ()), rng K, ()))
  | 0, m + 1, i, hi, hm => by
    have : i = K := by omega
    subst this
    unfold L62_0
    simp only [hp, Option.bind_some]
    rw [decide_eq_false (by omega), cond_false]
  | k + 1, m + 1, i, hi, hm => by
    unfold L62_0
    simp only [hp, Option.bind_some]
    rw [decide_eq_true (show (i : Int) < (K : Int) by omega), cond_true, if_pos (by simp [rng_len]; omega), w64s (i := i) (k := k) (by omega)]
    exact L62_eq n hn p o K hK hp k m (i + 1) (by omega) (by omega)
theorem L63_eq (n : Nat) (p : List (List D3)) (o : List (List D3)) (K : Nat) (hK : K ≤ 1000000) : ∀ (k m i : Nat), i + k = K → k < m →
    L63_0 n m (p, ()) (o, ()) (rng i) (K : Int) (i : Int) = some (.inl ((p, ()), (o, ()), rng K, ()))
  | 0, m + 1, i, hi, hm => by
    have : i = K := by omega
    subst this
    unfold L63_0
    rw [decide_eq_false (by omega), cond_false]
  | k + 1, m + 1, i, hi, hm => by
    unfold L63_0
    rw [decide_eq_true (show (i : Int) < (K : Int) by omega), cond_true, if_pos (by simp [rng_len]; omega), w64s (i := i) (k := k) (by omega)]
    exact L63_eq n p o K hK k m (i + 1) (by omega) (by omega)
/-- How many rooms there are, none told as such. -/
def rooms (p : List (List D3)) : Nat := if progOk p then gapsAll p else 0
theorem rooms_le (p : List (List D3)) : rooms p ≤ 1000000 := by
  unfold rooms
  split
  · rename_i h
    have := gapsLe h
    omega
  · omega
theorem F62_eq (n : Nat) (hn : 1048576 < n) (p : List (List D3)) : F62 n p = some ((wallPut p (rng (rooms p))).1, (wallPut p (rng (rooms p))).2, ()) := by
  have hr := rooms_le p
  unfold F62
  have key : L62_0 n n (p, ()) (([] : List (List D3)), ()) [] (0 : Int) = some (.inl ((p, ()), (([] : List (List D3)), ()), rng (rooms p), ())) := by
    have e := F40_eq n hn p
    unfold rooms at hr ⊢
    by_cases h : progOk p = true
    · simp only [h, if_true] at e hr ⊢
      exact L62_eq n hn p [] _ hr e (gapsAll p) n 0 (by omega) (by omega)
    · simp only [h, if_false, Bool.false_eq_true] at e hr ⊢
      obtain ⟨m, rfl⟩ : ∃ m, n = m + 1 := ⟨n - 1, by omega⟩
      unfold L62_0
      simp only [e, Option.bind_some]
      rfl
  rw [key]
  simp only
  rw [F59_eq n hn p _ (by rw [rng_len]; omega), Option.bind_some]
theorem F63_eq (n : Nat) (hn : 1048576 < n) (p : List (List D3)) (hs : ∀ t ∈ p, t.length ≤ 1048576) : F63 n p = some ((wallPut p (rng (rooms p))).1, (wallPut p (rng (rooms p))).2, ()) := by
  have hr := rooms_le p
  unfold F63
  rw [F41_eq n hn p hs, Option.bind_some]
  have hK : (if (0 : Int) > (if progOk p = true then (gapsAll p : Int) else -1) then (0 : Int) else (if progOk p = true then (gapsAll p : Int) else -1)) = ((rooms p : Nat) : Int) := by
    unfold rooms
    by_cases h : progOk p = true
    · simp only [h, if_true]
      rw [if_neg (by omega)]
    · simp only [h, if_false, Bool.false_eq_true]
      rfl
  simp only [hK]
  have e := L63_eq n p [] (rooms p) hr (rooms p) n 0 (by omega) (by omega)
  have e : L63_0 n n (p, ()) (([] : List (List D3)), ()) [] (rooms p : Int) (0 : Int) = _ := e
  rw [e]
  simp only
  rw [F60_eq n hn p hs _ (by rw [rng_len]; omega), Option.bind_some]
theorem pure_FnExactWallAll (xs : pdens [.c true (.v true (.rs 115 (.rs 130 (.pair (.int .i64) (.pair (.int .i64) (.int .i64))))))]) (hg : GoodP 0 [.c true (.v true (.rs 115 (.rs 130 (.pair (.int .i64) (.pair (.int .i64) (.int .i64))))))] xs) :
    ∃ n, F17 n xs.1 = some (true, ()) := by
  obtain ⟨p, _⟩ := xs
  obtain ⟨⟨h1, h2⟩, _⟩ := hg
  refine ⟨1048577, ?_⟩
  have hn : 1048576 < 1048577 := by omega
  generalize 1048577 = n at *
  obtain ⟨r, h3, h4⟩ := F34_eq n hn p h1 (fun t ht => (h2 t ht).1)
  unfold F17
  rw [h3, Option.bind_some]
  rcases h4 with h4 | h4
  · rw [decide_eq_true h4]; rfl
  · have e := F36_eq n hn p h4
    by_cases hr : r < 0
    · rw [decide_eq_true hr]; rfl
    rw [decide_eq_false hr, cond_false]
    have hw := wallPut_sm p (rng (rooms p))
    have e1 := F62_eq n hn p
    have e2 := F63_eq n hn p h4.2
    have e5 := F53_eq n hn p h4 1 (by omega) (by omega)
    have hkp := mkK_ge p 1
    generalize (wallPut p (rng (rooms p))).1 = w at *
    generalize (wallPut p (rng (rooms p))).2 = b at *
    have e7 := F53_eq n hn w hw 1 (by omega) (by omega)
    have e8 := F64_eq n hn w hw 1 (by omega) (by omega)
    have hkw := mkK_ge w 1
    have d1 : decide (mkK p 1 < 0) = false := decide_eq_false (by omega)
    have d2 : decide (mkK w 1 < 0) = false := decide_eq_false (by omega)
    unfold J17_10 J17_16 J17_27
    cases b <;> simp only [e, e1, e2, e5, e7, e8, F38_eq n hn p p h4, F38_eq n hn w w hw, Option.bind_some, decide_true, Bool.not_true, Bool.not_false, cond_false, bne_self_eq_false, d1, d2] <;> rfl
end Go.Proofs.Ytaehbfaldofmbaa.Ev
