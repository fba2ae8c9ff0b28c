/- The law FnExecFrom's function answers true. Conditions: none. -/
import Derived.Test.YtdacfaincamliaaG9
import Derived.Test.YtdacfaincamliaaQY
import Derived.Test.YtdacfaincamliaaEvRow
namespace Go.Proofs.Ytdacfaincamliaa.Ev
open Go

/-- How many reads there are from one on, so many. -/
def rdC (ds : List D3) : Nat → Nat → Nat
  | 0, _ => 0
  | j + 1, a => (if rd (ds.getD a D0) = true then 1 else 0) + rdC ds j (a + 1)
theorem rdC_le (ds : List D3) : ∀ k a : Nat, rdC ds k a ≤ k
  | 0, _ => Nat.le_refl _
  | k + 1, a => by
    have := rdC_le ds k (a + 1)
    rw [rdC]
    split <;> omega
theorem rdsF_get (ds : List D3) (fr : List Int) : ∀ (k a j : Nat), j < k → rd (ds.getD (a + j) D0) = true →
    rdC ds j a < (rdsF ds fr k a).length ∧ (rdsF ds fr k a).getD (rdC ds j a) 0 = valA ds fr (a + j)
  | k + 1, a, 0, _, hr => by
    rw [Nat.add_zero] at hr ⊢
    rw [rdsF, rdC, if_pos hr]
    exact ⟨by simp, rfl⟩
  | k + 1, a, j + 1, h, hr => by
    have ih := rdsF_get ds fr k (a + 1) j (by omega) (by rw [show a + 1 + j = a + (j + 1) by omega]; exact hr)
    rw [show a + 1 + j = a + (j + 1) by omega] at ih
    rw [rdsF, rdC]
    by_cases h1 : rd (ds.getD a D0) = true
    · rw [if_pos h1, if_pos h1, Nat.add_comm]
      exact ⟨by simp only [List.length_append, List.length_singleton]; omega, ih.2⟩
    · rw [if_neg h1, if_neg h1, Nat.zero_add, List.nil_append]
      exact ih

section
variable {p : List (List D3)} (hp : progOk p = true)
include hp
theorem L43_eq (n : Nat) (i : Nat) (hi : i ≤ (evP 0 p).length) : ∀ (k m a acc : Nat), a + k = i → k < m → acc ≤ a →
    L43_0 n m (evP 0 p) (i : Int) (p, ()) (acc : Int) (a : Int) = some (.inl (((acc + rdC (dsP p) k a : Nat) : Int), ()))
  | 0, m + 1, a, acc, ha, hm, hc => by
    have : a = i := by omega
    subst this
    unfold L43_0
    simp [rdC]
  | k + 1, m + 1, a, acc, ha, hm, hc => by
    have hs := (evs_ok hp).small
    have hlt : a < (evP 0 p).length := by omega
    have hai : a < i := by omega
    obtain ⟨t, s, q1, q2, q3, q4, q5⟩ := (evs_ok hp).isv a hlt
    have ih := fun acc => L43_eq n i hi k m (a + 1) acc (by omega) (by omega)
    unfold L43_0
    simp only [lt_ii, le_0i, hlt, hai, decide_true, cond_true, Int.toNat_natCast, if_true, q1, q2, q3, q4, J43_4]
    rw [show ((p.getD t []).getD s ((0 : Int), (0 : Int), (0 : Int))) = (dsP p).getD a D0 from q5.symm, rdC]
    rw [w64s (k := k) (by omega), w64s (k := k) (by omega), beq_int, beq_int]
    unfold rd
    cases decide (((dsP p).getD a D0).1 = 2)
    · cases decide (((dsP p).getD a D0).1 = 5)
      · simp only [cond_false, Bool.or_self, Bool.false_eq_true, if_false, Nat.zero_add]
        exact ih acc (by omega)
      · simp only [cond_false, cond_true, Bool.false_or, if_true]
        rw [ih (acc + 1) (by omega), Nat.add_assoc]
    · simp only [cond_true, Bool.true_or, if_true]
      rw [ih (acc + 1) (by omega), Nat.add_assoc]
theorem F43_eq (n : Nat) (hn : 1048576 < n) (i : Nat) (hi : i ≤ (evP 0 p).length) : F43 n p (evP 0 p) (i : Int) = some (((rdC (dsP p) i 0 : Nat) : Int), ()) := by
  have hs := (evs_ok hp).small
  have h := L43_eq hp n i hi i n 0 0 (by omega) (by omega) (by omega)
  rw [show ((0 : Nat) : Int) = 0 from rfl, Nat.zero_add] at h
  unfold F43
  rw [h]
omit hp in
theorem valA_from {x : Xn} (hf : Fit (dsP p) x.1) (ho : allOk (dsP p) x.1 (dsP p).length 0 = true) {a b : Nat} (ha : a < (dsP p).length) (hb : gS (dsP p) x.1 a = .inr b) : valA (dsP p) x.1 a = valA (dsP p) x.1 b := by
  have hk := allOk_at _ _ ho a (by omega) (by omega)
  unfold okA at hk
  unfold valA
  obtain ⟨m, hm⟩ : ∃ m, (dsP p).length = m + 1 := ⟨(dsP p).length - 1, by omega⟩
  cases h : chn (gS (dsP p) x.1) (dsP p).length a with
  | none => rw [h] at hk; cases hk
  | some v =>
    rw [hm] at h ⊢
    rw [chn, hb] at h
    rw [chn_mono _ h 1]
omit hp in
theorem valA_none {ds : List D3} {fr : List Int} {a : Nat} (ha : a < ds.length) (hr : rd (ds.getD a D0) = true) (h1 : fr.getD a 0 = -1) : valA ds fr a = 0 := by
  have e : gS ds fr a = .inl 0 := by unfold gS; rw [if_pos hr, if_pos h1]
  obtain ⟨m, hm⟩ : ∃ m, ds.length = m + 1 := ⟨ds.length - 1, by omega⟩
  unfold valA
  rw [hm, chn, e]
  rfl
omit hp in
theorem frB_not {f : Int → Int → Bool} : ∀ (l : List D3) (r : List Int), r.length = l.length → frB f l r = true → ∀ a, a < l.length → rd (l.getD a D0) = false → r.getD a 0 = -2
  | [], _, _, _, a, ha, _ => by simp at ha
  | d :: l, [], h, _, _, _, _ => by simp at h
  | d :: l, x :: r, hl, h, a, ha, hr => by
    simp only [frB, Bool.and_eq_true] at h
    cases a with
    | zero =>
      have hr : rd d = false := hr
      have h1 := h.1
      rw [hr, if_neg (by decide), decide_eq_true_eq] at h1
      exact h1
    | succ a => exact frB_not l r (by simpa using hl) h.2 a (by simpa using ha) hr
theorem L9_eq {x : Xn} (hb : formB (dsP p) x = true) (ho : allOk (dsP p) x.1 (dsP p).length 0 = true) (n : Nat) (hn : 1048576 < n) (la : List Int) : ∀ (k m i : Nat), i + k = (dsP p).length → k < m →
    L9_0 n m (p, ()) ((x.1, x.2), ()) (rdsF (dsP p) x.1 (dsP p).length 0, la, ()) (evP 0 p) (i : Int) = some (.inr (.inl ()))
  | 0, m + 1, i, hi, hm => by
    have hl := (evs_ok hp).len
    have : i = (evP 0 p).length := by omega
    subst this
    unfold L9_0
    simp
  | k + 1, m + 1, i, hi, hm => by
    have W := evs_ok hp
    have hl := W.len
    have hs := W.small
    have hb2 := hb
    rw [formB_eq W.frm] at hb2
    simp only [Bool.and_eq_true, decide_eq_true_eq] at hb2
    have hfl := hb2.1
    have hfit := formB_fit W.frm hb
    have hlt : i < (evP 0 p).length := by omega
    have hld : i < (dsP p).length := by omega
    have hlf : i < x.1.length := by omega
    have ih := L9_eq hb ho n hn la k m (i + 1) (by omega) (by omega)
    have hw : IntKind.i64.wrap ((i : Int) + 1) = ((i + 1 : Nat) : Int) := w64s (k := k) (by omega)
    unfold L9_0
    simp only [lt_ii, le_0i, hlt, hlf, decide_true, cond_true, Int.toNat_natCast, if_true, J9_11, hw]
    rw [F43_eq hp n hn i (by omega), Option.bind_some]
    cases hr : rd ((dsP p).getD i D0) with
    | false =>
      rw [frB_not _ _ hfl hb2.2.2.1 i hld hr]
      exact ih
    | true =>
      obtain ⟨g1, g2⟩ := rdsF_get (dsP p) x.1 (dsP p).length 0 i hld (by rw [Nat.zero_add]; exact hr)
      rw [Nat.zero_add] at g2
      have h0 := frB_at _ _ hfl hb2.2.2.1 i hld hr
      simp only [lt_ii, le_0i, g1, Int.toNat_natCast, if_true, g2]
      rcases h0 with h0 | h0
      · rw [h0, valA_none hld hr h0]
        unfold J9_16
        simp only [lt_ii, le_0i, hlf, Int.toNat_natCast, if_true, h0]
        rw [show ((-1 : Int) == -2) = false from rfl, show ((-1 : Int) == -1) = true from rfl, cond_false, cond_true, bne_self_eq_false, cond_false, show decide ((-1 : Int) < 0) = true from rfl, cond_true]
        simp only [hw]
        exact ih
      · unfold memW at h0
        obtain ⟨b, e, hbl, hwb, hpl⟩ := wsF_ge _ _ _ _ (of_decide_eq_true h0)
        rw [Nat.zero_add] at e
        have eV := valA_from hfit ho hld (b := b) (by unfold gS; rw [if_pos hr, e, if_neg (by omega)]; simp)
        obtain ⟨t, s, q1, q2, q3, q4, q5⟩ := W.isv i hlt
        have hbe : b < (evP 0 p).length := by omega
        obtain ⟨t', s', r1, r2, r3, r4, r5⟩ := W.isv b hbe
        rw [e, beq_int, beq_int, decide_eq_false (by omega), decide_eq_false (by omega), cond_false, cond_false]
        unfold J9_16
        simp only [lt_ii, le_0i, hlf, hlt, hbe, Int.toNat_natCast, if_true, e, q1, q2, q3, q4, r1, r2, r3, r4]
        rw [decide_eq_false (show ¬ ((b : Int) < 0) by omega), cond_false]
        rw [show ((p.getD t []).getD s ((0 : Int), (0 : Int), (0 : Int))) = (dsP p).getD i D0 from q5.symm, show ((p.getD t' []).getD s' ((0 : Int), (0 : Int), (0 : Int))) = (dsP p).getD b D0 from r5.symm]
        rw [hpl, bne_self_eq_false, cond_false, bne_int]
        by_cases h3 : ((dsP p).getD b D0).1 = 3
        · rw [decide_eq_true h3, Bool.not_true, cond_false]
          simp only [hw]
          exact ih
        · rw [decide_eq_false h3, Bool.not_false, cond_true, eV, valA_set hbl hwb h3, bne_self_eq_false, cond_false]
          simp only [hw]
          exact ih
end
theorem pure_FnExecFrom (xs : pdens [.c false (.v true (.rs 5 (.int .u8)))]) (hg : GoodP 0 [.c false (.v true (.rs 5 (.int .u8)))] xs) : ∃ n, F9 n xs.1 = some (true, ()) := by
  obtain ⟨c, _⟩ := xs
  obtain ⟨⟨h1, h2⟩, _⟩ := hg
  refine ⟨2000000, ?_⟩
  have hn : 1048576 + 2000 < 2000000 := by omega
  generalize 2000000 = n at *
  unfold F9
  by_cases hc : (c.length : Int) > 1048576
  · simp only [hc, decide_true, cond_true]
  · simp only [hc, decide_false, cond_false]
    obtain ⟨q, e, ⟨z, k1⟩, hq, hs⟩ := F38_ok n hn c (goodBytes (by omega) h2)
    obtain ⟨k2, k3⟩ := seen_two n hn hq hs
    obtain ⟨l1, l2⟩ := seenA_len q e
    have k4 : F41 n ((seenA q e).1, (seenA q e).2) ((seenA q e).1, (seenA q e).2) = some (true, ()) := F41_eq n (by omega) (seenA q e) (by omega) (by omega)
    simp only [k1, k2, k3, k4, Option.bind_some, beq_self_eq_true, Bool.not_true, cond_false, cond_true]
    cases hok : execOk q e
    · rfl
    · obtain ⟨g1, g2, g3⟩ := execOk_parts hok
      simp only [Bool.not_true, cond_false]
      unfold J9_8
      have e2 : (seenA q e) = (rdsF (dsP q) e.1 (dsP q).length 0, lastsF (dsP q) e.1 e.2 3 0) := by
        unfold seenA; rw [if_pos hok]
      have hl := (evs_ok g1).len
      have hsm := (evs_ok g1).small
      have L := L9_eq g1 g2 g3 n (by omega) (lastsF (dsP q) e.1 e.2 3 0) (dsP q).length n 0 (by omega) (by omega)
      rw [show ((0 : Nat) : Int) = 0 from rfl] at L
      rw [F42_eq n (by omega) q (fun t ht => by have := hq.2.2 t ht; omega), g1, if_pos rfl, Option.bind_some]
      simp only [e2]
      rw [L]
end Go.Proofs.Ytdacfaincamliaa.Ev
