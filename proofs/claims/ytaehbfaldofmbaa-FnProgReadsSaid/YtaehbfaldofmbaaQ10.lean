/- The law of programs' reads, over its plain functions. Conditions: none. -/
import Derived.Test.YtaehbfaldofmbaaG10
import Derived.Test.YtaehbfaldofmbaaQP
import Derived.Test.YtaehbfaldofmbaaQC
namespace Go.Proofs.Ytaehbfaldofmbaa.Ev
open Go

theorem readsN_uses : ∀ l : List D3, readsN l ≤ usesN l
  | [] => Nat.le_refl _
  | d :: l => by
    have := readsN_uses l
    simp only [readsN, usesN, us]
    by_cases h1 : rd d = true <;> by_cases h2 : wr d = true <;> simp [h1, h2] <;> omega
theorem readsAll_uses : ∀ p : List (List D3), readsAll p ≤ usesAll p
  | [] => Nat.le_refl _
  | t :: p => by
    have := readsAll_uses p
    have := readsN_uses t
    simp only [readsAll, usesAll]
    omega
theorem lens_mem : ∀ {p : List (List D3)} {t : List D3}, t ∈ p → t.length ≤ lens p ∧ usesN t ≤ usesAll p
  | s :: p, t, h => by
    simp only [lens, usesAll]
    rcases List.mem_cons.mp h with rfl | h
    · omega
    · have := lens_mem h; omega
theorem progOk_one {p : List (List D3)} (h : progOk p = true) {t : List D3} (ht : t ∈ p) : progOk [t] = true := by
  rw [progOkIff] at h ⊢
  have := lens_mem ht
  refine ⟨by simp, fun s hs => ?_, by simp only [lens]; omega, by simp only [usesAll]; omega⟩
  have : s = t := by simpa using hs
  subst this
  exact h.2.1 s ht

theorem L10_eq (n : Nat) (hn : 1048576 < n) (p : List (List D3)) (hok : progOk p = true) (hp : p.length ≤ 3) (hs : ∀ t ∈ p, t.length ≤ 1000) (g : Int) : ∀ (k m i : Nat) (u : Int), i + k = p.length → k < m → 0 ≤ u → u ≤ 6 * i →
    L10_0 n m (p, ()) g u (i : Int) = some (.inl (g, u + readsAll (p.drop i), ()))
  | 0, m + 1, i, u, hi, hm, _, _ => by
    have : i = p.length := by omega
    subst this
    unfold L10_0
    simp [readsAll]
  | k + 1, m + 1, i, u, hi, hm, h0, h1 => by
    have hlt : i < p.length := by omega
    have hm1 := getD_mem p i [] hlt
    have hsz := hs _ hm1
    have ho := progOk_one hok hm1
    have e : List.drop i (List.take (i + 1) p) = [p.getD i []] := by
      rw [List.drop_take, getD_drop p i [] hlt]
      simp
    have hr : readsAll [p.getD i []] = readsN (p.getD i []) := by simp [readsAll]
    have hu : readsN (p.getD i []) ≤ 6 := by
      have := (progOkIff.mp hok).2.2.2
      have := (lens_mem hm1).2
      have := readsN_uses (p.getD i [])
      omega
    unfold L10_0
    rw [w64s (show i + k ≤ 9223372036854775806 by omega)]
    simp only [lt_ii, le_0i, hlt, Int.toNat_natCast, if_true, decide_true, cond_true, e]
    rw [if_pos (by omega), if_pos (by omega), F43_eq n hn [p.getD i []] (fun t ht => by have : t = p.getD i [] := by simpa using ht
                                                                                        subst this; omega), ho]
    simp only [Option.bind_some, if_true, hr]
    rw [w64 (by omega) (by omega), L10_eq n hn p hok hp hs g k m (i + 1) _ (by omega) (by omega) (by omega) (by omega), getD_drop p i [] hlt]
    simp [readsAll, Int.add_assoc]

theorem pure_FnProgReads (xs : pdens [.c false (.v true (.rs 5 (.int .u8)))]) (hg : GoodP 0 [.c false (.v true (.rs 5 (.int .u8)))] xs) :
    ∃ n, F10 n xs.1 = some (true, ()) := by
  obtain ⟨c, _⟩ := xs
  obtain ⟨⟨h1, h2⟩, _⟩ := hg
  refine ⟨1048577, ?_⟩
  have hn : 1048576 < 1048577 := by omega
  generalize 1048577 = n at *
  unfold F10
  by_cases hc : (c.length : Int) > 1048576
  · simp only [hc, decide_true, cond_true]
  · simp only [hc, decide_false, cond_false]
    obtain ⟨b, q, p', k1, k2, _, _, l1, l2, l3⟩ := any_ok n hn c (goodBytes (by omega) h2) (fun _ => some ())
    unfold F45
    simp only [k1, k2, F43_eq n hn q (fun t ht => by have := l3 t ht; omega), F42_eq n hn, Option.bind_some, bne_self_eq_false, cond_false]
    cases hok : progOk q
    · simp
    · simp only [if_true]
      rw [decide_eq_false (show ¬ ((readsAll q : Int) < 0) by omega)]
      simp only [cond_false]
      unfold J10_7
      have e := L10_eq n hn q hok (by omega) (fun t ht => by have := l3 t ht; omega) (readsAll q : Int) q.length n 0 0 (by omega) (by omega) (by omega) (by omega)
      rw [List.drop_zero] at e
      have e : L10_0 n n (q, ()) (readsAll q : Int) (0 : Int) (0 : Int) = _ := e
      have hu : readsAll q ≤ 6 := by
        have := (progOkIff.mp hok).2.2.2
        have := readsAll_uses q
        omega
      simp only [e, Int.zero_add, beq_self_eq_true, cond_true]
      rw [decide_eq_true (p := (readsAll q : Int) ≤ 6) (by omega)]
end Go.Proofs.Ytaehbfaldofmbaa.Ev
