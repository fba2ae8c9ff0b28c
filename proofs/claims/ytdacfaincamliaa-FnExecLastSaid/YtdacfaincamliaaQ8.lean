/- The law FnExecLast's function answers true. Conditions: none. -/
import Derived.Test.YtdacfaincamliaaG8
import Derived.Test.YtdacfaincamliaaQY
import Derived.Test.YtdacfaincamliaaEvRow
namespace Go.Proofs.Ytdacfaincamliaa.Ev
open Go

section
variable {p : List (List D3)} (hp : progOk p = true) {x : Xn} (hb : formB (dsP p) x = true)
include hp hb
theorem L8_eq (n : Nat) (hs : SmallX x) (h3 : x.2.length = 3) (r : List Int) : ∀ (k m c : Nat), c + k = 3 → k < m →
    L8_0 n m (p, ()) ((x.1, x.2), ()) (r, lastsF (dsP p) x.1 x.2 3 0, ()) (evP 0 p) (c : Int) = some (.inr (.inl ()))
  | 0, m + 1, c, hc, hm => by
    have : c = 3 := by omega
    subst this
    unfold L8_0
    rfl
  | k + 1, m + 1, c, hc, hm => by
    have hlt : c < x.2.length := by omega
    have hc3 : c < 3 := by omega
    have hll : (lastsF (dsP p) x.1 x.2 3 0).length = 3 := lastsF_len _ _ _ 3 0
    have hlc : c < (lastsF (dsP p) x.1 x.2 3 0).length := by omega
    have hg := lastsF_get (dsP p) x.1 x.2 3 0 c hc3
    rw [Nat.zero_add] at hg
    have hrl := hs.2.2 _ (getD_mem x.2 c [] hlt)
    have hW := (evs_ok hp).len
    have hsm := (evs_ok hp).small
    have ih := L8_eq n hs h3 r k m (c + 1) (by omega) (by omega)
    have hd3 : decide ((c : Int) < 3) = true := decide_eq_true (by omega)
    unfold L8_0
    simp only [hd3, lt_ii, le_0i, hlt, hlc, Int.toNat_natCast, if_true, cond_true, hg]
    rw [beq_int]
    by_cases h0 : (x.2.getD c []).length = 0
    · rw [decide_eq_true (by omega), cond_true]
      have e0 : lastV (dsP p) x.1 (x.2.getD c []) = 0 := by
        unfold lastV; rw [if_neg (by omega)]
      rw [e0]
      simp only [bne_self_eq_false, cond_false]
      unfold J8_11
      simp only
      rw [w64s (k := k) (by omega)]
      exact ih
    · rw [decide_eq_false (by omega), cond_false]
      have e1 : IntKind.i64.wrap (((x.2.getD c []).length : Int) - 1) = (((x.2.getD c []).length - 1 : Nat) : Int) := by
        rw [w64 (by omega) (by omega)]; omega
      have hl1 : (x.2.getD c []).length - 1 < (x.2.getD c []).length := by omega
      obtain ⟨b, hv, hbl, hw⟩ := row_wr hp hb c hc3 _ (getD_mem (x.2.getD c []) ((x.2.getD c []).length - 1) 0 hl1)
      obtain ⟨t, i, q1, q2, q3, q4, q5⟩ := (evs_ok hp).isv b (by omega)
      have hbe : b < (evP 0 p).length := by omega
      have eL : lastV (dsP p) x.1 (x.2.getD c []) = valA (dsP p) x.1 b := by
        unfold lastV; rw [if_pos (by omega), hv]; rfl
      simp only [e1, lt_ii, le_0i, hl1, Int.toNat_natCast, if_true, hv, hbe, q1, q2, q3, q4]
      rw [bne_int, show ((p.getD t []).getD i ((0 : Int), (0 : Int), (0 : Int))) = (dsP p).getD b D0 from q5.symm]
      by_cases hk : ((dsP p).getD b D0).1 = 3
      · rw [decide_eq_true hk, Bool.not_true, cond_false]
        unfold J8_11
        simp only
        rw [w64s (k := k) (by omega)]
        exact ih
      · rw [decide_eq_false hk, Bool.not_false, cond_true, eL, valA_set hbl hw hk]
        simp only [bne_self_eq_false, cond_false]
        unfold J8_11
        simp only
        rw [w64s (k := k) (by omega)]
        exact ih
end
theorem pure_FnExecLast (xs : pdens [.c false (.v true (.rs 5 (.int .u8)))]) (hg : GoodP 0 [.c false (.v true (.rs 5 (.int .u8)))] xs) : ∃ n, F8 n xs.1 = some (true, ()) := by
  obtain ⟨c, _⟩ := xs
  obtain ⟨⟨h1, h2⟩, _⟩ := hg
  refine ⟨2000000, ?_⟩
  have hn : 1048576 + 2000 < 2000000 := by omega
  generalize 2000000 = n at *
  unfold F8
  by_cases hc : (c.length : Int) > 1048576
  · simp only [hc, decide_true, cond_true]
  · simp only [hc, decide_false, cond_false]
    obtain ⟨q, e, ⟨z, k1⟩, hq, hs⟩ := F38_ok n hn c (goodBytes (by omega) h2)
    obtain ⟨k2, k3⟩ := seen_two n hn hq hs
    obtain ⟨l1, l2⟩ := seenA_len q e
    have k4 : F41 n ((seenA q e).1, (seenA q e).2) ((seenA q e).1, (seenA q e).2) = some (true, ()) := F41_eq n (by omega) (seenA q e) (by omega) (by omega)
    simp only [k1, k2, k3, k4, Option.bind_some, beq_self_eq_true, Bool.not_true, cond_false, cond_true]
    cases hok : execOk q e
    · rfl
    · obtain ⟨g1, g2, g3⟩ := execOk_parts hok
      simp only [Bool.not_true, cond_false]
      unfold J8_8
      have h3 : e.2.length = 3 := by
        unfold formB at g2
        simp only [Bool.and_eq_true, decide_eq_true_eq] at g2
        exact g2.2.1
      have e2 : (seenA q e) = (rdsF (dsP q) e.1 (dsP q).length 0, lastsF (dsP q) e.1 e.2 3 0) := by
        unfold seenA; rw [if_pos hok]
      have L := L8_eq g1 g2 n hs h3 (rdsF (dsP q) e.1 (dsP q).length 0) 3 n 0 (by omega) (by omega)
      rw [show ((0 : Nat) : Int) = 0 from rfl] at L
      rw [F42_eq n (by omega) q (fun t ht => by have := hq.2.2 t ht; omega), g1, if_pos rfl, Option.bind_some]
      simp only [e2]
      rw [L]
end Go.Proofs.Ytdacfaincamliaa.Ev
