/- The law FnExecOk's function answers true. Conditions: none. -/
import Derived.Test.YtdacfaincamliaaG7
import Derived.Test.YtdacfaincamliaaQZ
import Derived.Test.YtdacfaincamliaaEvRow
namespace Go.Proofs.Ytdacfaincamliaa.Ev
open Go

theorem L7_eq (n : Nat) (hn : 1048576 < n) {p : List (List D3)} (hp : progOk p = true) (hs : ∀ t ∈ p, t.length ≤ 1048576) (al : List Xn) (hal : al = execs p) : ∀ (k m i : Nat), i + k = al.length → k < m → i + k ≤ 9000000000000000000 →
    L7_0 n m (p, ()) al al (i : Int) = some (.inr (.inl ((p, ()), al, ())))
  | 0, m + 1, i, hi, hm, hB => by
    have : i = al.length := by omega
    subst this
    unfold L7_0
    simp
  | k + 1, m + 1, i, hi, hm, hB => by
    have hlt : i < al.length := by omega
    have hmem : al.getD i ([], []) ∈ execs p := by rw [← hal]; exact getD_mem al i ([], []) hlt
    obtain ⟨z1, z2, z3⟩ := (execs_small hp).2 _ hmem
    have hok := execs_ok hp hmem
    have h3 := F37_eq n hn (al.getD i ([], [])) (al.getD i ([], [])) z1 (by omega) z3
    rw [decide_eq_true rfl] at h3
    have h4 : F31 n p ((al.getD i ([], [])).1, (al.getD i ([], [])).2) = _ := F31_eq n hn p hs (al.getD i ([], [])) ⟨by omega, fun t ht => by have := z3 t ht; omega⟩
    rw [hok] at h4
    have ih := L7_eq n hn hp hs al hal k m (i + 1) (by omega) (by omega) (by omega)
    have hw9 : IntKind.i64.wrap ((i : Int) + 1) = ((i + 1 : Nat) : Int) := w64s (k := k) (by omega)
    unfold L7_0
    simp only [lt_ii, le_0i, hlt, Int.toNat_natCast, if_true, decide_true, cond_true]
    simp only [h3, Option.bind_some, Bool.not_true, cond_false, h4, J7_10, hw9, ih]
    by_cases h0 : i = 0
    · subst h0
      rfl
    · obtain ⟨j, rfl⟩ : ∃ j, i = j + 1 := ⟨i - 1, by omega⟩
      have e1 : IntKind.i64.wrap (((j + 1 : Nat) : Int) - 1) = (j : Int) := by rw [w64 (by omega) (by omega)]; omega
      have hj : j < al.length := by omega
      have hmj : al.getD j ([], []) ∈ execs p := by rw [← hal]; exact getD_mem al j ([], []) hj
      obtain ⟨y1, y2, y3⟩ := (execs_small hp).2 _ hmj
      have h5 := F37_eq n hn (al.getD j ([], [])) (al.getD (j + 1) ([], [])) y1 (by omega) y3
      have hne : al.getD j ([], []) ≠ al.getD (j + 1) ([], []) := fun e => by
        have hnd := execs_nodup p
        rw [← hal] at hnd
        rw [List.getD_eq_getElem?_getD, List.getD_eq_getElem?_getD, List.getElem?_eq_getElem hj, List.getElem?_eq_getElem hlt] at e
        exact List.pairwise_iff_getElem.mp hnd j (j + 1) hj hlt (by omega) e
      rw [decide_eq_false hne] at h5
      rw [decide_eq_true (show ((j + 1 : Nat) : Int) > 0 by omega), cond_true]
      simp only [e1, le_0i, lt_ii, hj, if_true, Int.toNat_natCast, h5, Option.bind_some, cond_false]
theorem pure_FnExecOk (xs : pdens [.c false (.v true (.rs 5 (.int .u8)))]) (hg : GoodP 0 [.c false (.v true (.rs 5 (.int .u8)))] xs) : ∃ n, F7 n xs.1 = some (true, ()) := by
  obtain ⟨c, _⟩ := xs
  obtain ⟨⟨h1, h2⟩, _⟩ := hg
  refine ⟨10000000000, ?_⟩
  have hn : 1048576 + 2000 + 6488831744 < 10000000000 := by omega
  generalize 10000000000 = n at *
  unfold F7
  by_cases hc : (c.length : Int) > 1048576
  · simp only [hc, decide_true, cond_true]
  · simp only [hc, decide_false, cond_false]
    obtain ⟨q, k1, hq⟩ := F33_ok n (by omega) c (goodB (by omega) h2)
    obtain ⟨k2, k3⟩ := all_two n (by omega) hq
    have hql : ∀ t ∈ q, t.length ≤ 1048576 := fun t ht => by have := hq.2.2 t ht; omega
    simp only [k1, k2, k3, Option.bind_some, bne_self_eq_false, cond_false]
    cases hp : progOk q
    · simp only [Bool.false_eq_true, if_false]
      have e : L7_0 n n (q, ()) [] [] (0 : Int) = some (.inr (.inl ((q, ()), [], ()))) := by
        obtain ⟨m, rfl⟩ : ∃ m, n = m + 1 := ⟨n - 1, by omega⟩
        rw [L7_0]
        rfl
      simp only [e]
      rw [F36_eq n (by omega) q, hp]
      rfl
    · have hsm := (execs_small hp).1
      have h := L7_eq n (by omega) hp hql (execs q) rfl (execs q).length n 0 (by omega) (by omega) (by omega)
      rw [show ((0 : Nat) : Int) = 0 from rfl] at h
      have hpos := execs_some hp
      simp only [if_true, h]
      rw [F36_eq n (by omega) q, hp, Option.bind_some, decide_eq_true (show ((execs q).length : Int) > 0 by omega)]
      rfl
end Go.Proofs.Ytdacfaincamliaa.Ev
