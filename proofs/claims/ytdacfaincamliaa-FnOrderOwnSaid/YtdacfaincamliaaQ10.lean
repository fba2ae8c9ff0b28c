/- The law FnOrderOwn's function answers true. Conditions: none. -/
import Derived.Test.YtdacfaincamliaaG10
import Derived.Test.YtdacfaincamliaaQR
import Derived.Test.YtdacfaincamliaaQV
import Derived.Test.YtdacfaincamliaaEvRow
namespace Go.Proofs.Ytdacfaincamliaa.Ev
open Go
theorem goodO {c : List Int} (h1 : c.length ≤ 1048576) (h : ∀ x ∈ c, Good (.int .u8) x) : Bytes c := by
  refine ⟨h1, fun x hx => ?_⟩
  have := h x hx
  simp only [Good, Lit.wf, Bool.and_eq_true, decide_eq_true_eq] at this
  have e1 : IntKind.u8.min = 0 := by decide
  have e2 : IntKind.u8.max = 255 := by decide
  rw [e1, e2] at this
  exact this
theorem F44_ok (n : Nat) (hn : 1048576 + 2000 < n) (c : List Int) (hc : Bytes c) : ∃ (q : List (List D3)) (e : Xn), F44 n c = some (q, e, ()) ∧ Pl 12 q ∧ SmallX e := by
  obtain ⟨b, h1, h2, h3⟩ := F74_ok n c hc
  obtain ⟨q, e, p', g1, g2, g3⟩ := F82_ok n hn b 0 0 h2 (by omega) h3
  refine ⟨q, e, ?_, g2, g3⟩
  unfold F44
  simp only [h1, Option.bind_some]
  rw [g1]
  rfl
section
variable {p : List (List D3)} (hp : progOk p = true) {x : Xn} (hok : execOk p x = true)
include hp
theorem F45_at (n a : Nat) (ha : a < (evP 0 p).length) : F45 n p ((evP 0 p).getD a E0) = some (((dsP p).getD a D0).1, ()) := by
  obtain ⟨t, i, h1, h2, h3, h4, h5⟩ := (evs_ok hp).isv a ha
  unfold F45
  rw [h1, h2]
  simp only [le_0i, lt_ii, Int.toNat_natCast, if_true, h3, h4]
  rw [h5]
include hok
omit hp in
theorem own_strict {a b : Nat} (hab : a < b) (hb : b < (dsP p).length) (ht : ((evP 0 p).getD a E0).1 = ((evP 0 p).getD b E0).1) : orderHas p x 1 (a : Int) (b : Int) = true := by
  unfold orderHas inB hasS ownB
  rw [hok, Int.toNat_natCast, Int.toNat_natCast, decide_eq_true hab, decide_eq_true ht, if_pos rfl]
  simp only [Bool.true_and, Bool.true_or, Bool.and_eq_true, decide_eq_true_eq, Bool.and_true]
  omega
omit hp in
theorem own_late {a b : Nat} (hab : a < b) (hb : b < (dsP p).length) (ht : ((evP 0 p).getD a E0).1 = ((evP 0 p).getD b E0).1) (h : (wr ((dsP p).getD a D0) && rd ((dsP p).getD b D0)) = false) : orderHas p x 2 (a : Int) (b : Int) = true := by
  unfold orderHas inB hasS ownB
  rw [hok, Int.toNat_natCast, Int.toNat_natCast, decide_eq_true hab, decide_eq_true ht, if_neg (by decide), if_pos rfl, h]
  simp only [Bool.true_and, Bool.true_or, Bool.not_false, Bool.and_eq_true, decide_eq_true_eq, Bool.and_true]
  omega
omit hp in
theorem J10_18_eq (n : Nat) (hn : 1048576 < n) (hs : ∀ t ∈ p, t.length ≤ 1048576) (hx : SmallI x.2) {a b : Nat} (hab : a < b) (hb : b < (dsP p).length) (ht : ((evP 0 p).getD a E0).1 = ((evP 0 p).getD b E0).1) (w r : Bool) (hw : w = wr ((dsP p).getD a D0)) (hr : r = rd ((dsP p).getD b D0)) (ev : List E3) :
    J10_18 n (p, ()) (x, ()) ev (a : Int) (b : Int) w r = some (.inr (.inl ((p, ()), (x, ()), ev, (a : Int), (b : Int), ()))) := by
  have k1 : F46 n p (x.1, x.2) 1 (a : Int) (b : Int) = _ := F46_eq n hn p hs x hx 1 (a : Int) (b : Int)
  have k2 : F46 n p (x.1, x.2) 2 (a : Int) (b : Int) = _ := F46_eq n hn p hs x hx 2 (a : Int) (b : Int)
  rw [own_strict hok hab hb ht] at k1
  unfold J10_18
  simp only [k1, k2, Option.bind_some, Bool.not_true, cond_false]
  cases w
  · rw [own_late hok hab hb ht (by rw [← hw]; rfl)]
    rfl
  · cases r
    · rw [own_late hok hab hb ht (by rw [← hr, Bool.and_false])]
      rfl
    · rfl
omit hp in
theorem J10_17_eq (n : Nat) (hn : 1048576 < n) (hs : ∀ t ∈ p, t.length ≤ 1048576) (hx : SmallI x.2) {a b : Nat} (hab : a < b) (hb : b < (dsP p).length) (ht : ((evP 0 p).getD a E0).1 = ((evP 0 p).getD b E0).1) (w : Bool) (hw : w = wr ((dsP p).getD a D0)) (ev : List E3) :
    J10_17 n (p, ()) (x, ()) ev (a : Int) (b : Int) ((dsP p).getD b D0).1 w = some (.inr (.inl ((p, ()), (x, ()), ev, (a : Int), (b : Int), ()))) := by
  unfold J10_17
  simp only [beq_int]
  by_cases h2 : ((dsP p).getD b D0).1 = 2
  · have e : J10_18 n (p, ()) ((x.1, x.2), ()) ev (a : Int) (b : Int) w true = _ := J10_18_eq hok n hn hs hx hab hb ht w true hw (by unfold rd; rw [decide_eq_true h2]; rfl) ev
    rw [decide_eq_true h2, cond_true]
    simp only [e]
  · have e : J10_18 n (p, ()) ((x.1, x.2), ()) ev (a : Int) (b : Int) w (decide (((dsP p).getD b D0).1 = 5)) = _ := J10_18_eq hok n hn hs hx hab hb ht w _ hw (by unfold rd; rw [decide_eq_false h2, Bool.false_or]) ev
    rw [decide_eq_false h2, cond_false]
    simp only [e]
theorem L10_2_eq (n : Nat) (hn : 1048576 < n) (hs : ∀ t ∈ p, t.length ≤ 1048576) (hx : SmallI x.2) (a : Nat) : ∀ (k m b : Nat), b + k = (evP 0 p).length → k < m → a < b →
    L10_2 n m (p, ()) (x, ()) (evP 0 p) (a : Int) (b : Int) = some (.inr (.inl ((p, ()), (x, ()), evP 0 p, (a : Int), ())))
  | 0, m + 1, b, hb, hm, hab => by
    have : b = (evP 0 p).length := by omega
    subst this
    unfold L10_2
    simp
  | k + 1, m + 1, b, hb, hm, hab => by
    have hl := (evs_ok hp).len
    have hsm := (evs_ok hp).small
    have hlt : b < (evP 0 p).length := by omega
    have hla : a < (evP 0 p).length := by omega
    have ih : L10_2 n m (p, ()) ((x.1, x.2), ()) (evP 0 p) (a : Int) ((b + 1 : Nat) : Int) = _ := L10_2_eq n hn hs hx a k m (b + 1) (by omega) (by omega) (by omega)
    have hw9 : IntKind.i64.wrap ((b : Int) + 1) = ((b + 1 : Nat) : Int) := w64s (k := k) (by omega)
    unfold L10_2
    simp only [lt_ii, le_0i, hlt, hla, Int.toNat_natCast, if_true, decide_true, cond_true, J10_12, hw9]
    have fa : F45 n p (((evP 0 p).getD a ((0 : Int), (0 : Int), false)).fst, ((evP 0 p).getD a ((0 : Int), (0 : Int), false)).snd.fst, ((evP 0 p).getD a ((0 : Int), (0 : Int), false)).snd.snd) = _ := F45_at hp n a hla
    have fb : F45 n p (((evP 0 p).getD b ((0 : Int), (0 : Int), false)).fst, ((evP 0 p).getD b ((0 : Int), (0 : Int), false)).snd.fst, ((evP 0 p).getD b ((0 : Int), (0 : Int), false)).snd.snd) = _ := F45_at hp n b hlt
    simp only [fa, fb, Option.bind_some, beq_int, bne_int]
    by_cases ht : ((evP 0 p).getD a E0).1 = ((evP 0 p).getD b E0).1
    · have e17 : ∀ w : Bool, w = wr ((dsP p).getD a D0) → J10_17 n (p, ()) ((x.1, x.2), ()) (evP 0 p) (a : Int) (b : Int) ((dsP p).getD b D0).1 w = some (.inr (.inl ((p, ()), (x, ()), evP 0 p, (a : Int), (b : Int), ()))) := fun w hw => J10_17_eq hok n hn hs hx hab (by omega) ht w hw (evP 0 p)
      rw [show decide (((evP 0 p).getD a ((0 : Int), (0 : Int), false)).1 = ((evP 0 p).getD b ((0 : Int), (0 : Int), false)).1) = true from decide_eq_true ht, Bool.not_true, cond_false]
      by_cases h1 : ((dsP p).getD a D0).1 = 1
      · rw [decide_eq_true h1, cond_true, e17 true (by unfold wr; rw [decide_eq_true h1]; rfl)]
        simp only [hw9]
        exact ih
      · rw [decide_eq_false h1, cond_false]
        by_cases h3 : ((dsP p).getD a D0).1 = 3
        · rw [decide_eq_true h3, cond_true, e17 true (by unfold wr; rw [decide_eq_true h3]; simp)]
          simp only [hw9]
          exact ih
        · rw [decide_eq_false h3, cond_false, e17 _ (by unfold wr; rw [decide_eq_false h1, decide_eq_false h3]; simp)]
          simp only [hw9]
          exact ih
    · rw [show decide (((evP 0 p).getD a ((0 : Int), (0 : Int), false)).1 = ((evP 0 p).getD b ((0 : Int), (0 : Int), false)).1) = false from decide_eq_false ht, Bool.not_false, cond_true]
      exact ih
theorem L10_0_eq (n : Nat) (hn : 1048576 < n) (hs : ∀ t ∈ p, t.length ≤ 1048576) (hx : SmallI x.2) : ∀ (k m a : Nat), a + k = (evP 0 p).length → k < m →
    L10_0 n m (p, ()) (x, ()) (evP 0 p) (a : Int) = some (.inr (.inl ()))
  | 0, m + 1, a, ha, hm => by
    have : a = (evP 0 p).length := by omega
    subst this
    unfold L10_0
    simp
  | k + 1, m + 1, a, ha, hm => by
    have hsm := (evs_ok hp).small
    have hlt : a < (evP 0 p).length := by omega
    have hw9 : IntKind.i64.wrap ((a : Int) + 1) = ((a + 1 : Nat) : Int) := w64s (k := k) (by omega)
    have e2 : L10_2 n n (p, ()) ((x.1, x.2), ()) (evP 0 p) (a : Int) ((a + 1 : Nat) : Int) = _ := L10_2_eq hp hok n hn hs hx a k n (a + 1) (by omega) (by omega) (by omega)
    have ih : L10_0 n m (p, ()) ((x.1, x.2), ()) (evP 0 p) ((a + 1 : Nat) : Int) = _ := L10_0_eq n hn hs hx k m (a + 1) (by omega) (by omega)
    unfold L10_0
    simp only [lt_ii, hlt, decide_true, cond_true, hw9, e2]
    exact ih
end
theorem pure_FnOrderOwn (xs : pdens [.c false (.v true (.rs 5 (.int .u8)))]) (hg : GoodP 0 [.c false (.v true (.rs 5 (.int .u8)))] xs) : ∃ n, F10 n xs.1 = some (true, ()) := by
  obtain ⟨c, _⟩ := xs
  obtain ⟨⟨h1, h2⟩, _⟩ := hg
  refine ⟨2000000, ?_⟩
  have hn : 1048576 + 2000 < 2000000 := by omega
  generalize 2000000 = n at *
  unfold F10
  by_cases hc : (c.length : Int) > 1048576
  · simp only [hc, decide_true, cond_true]
  · simp only [hc, decide_false, cond_false]
    obtain ⟨q, e, k1, hq, hs⟩ := F44_ok n hn c (goodO (by omega) h2)
    have hql : ∀ t ∈ q, t.length ≤ 1048576 := fun t ht => by have := hq.2.2 t ht; omega
    have k2 : F31 n q (e.1, e.2) = _ := F31_eq n (by omega) q hql e hs.toI
    have k3 : F29 n q (e.1, e.2) = _ := F29_eq n (by omega) q e hs.toI
    simp only [k1, Option.bind_some, k2, k3, beq_self_eq_true, Bool.not_true, cond_false]
    cases hok : execOk q e
    · rfl
    · obtain ⟨g1, _⟩ := execOk_two hok
      have L := L10_0_eq g1 hok n (by omega) hql hs.toI (evP 0 q).length n 0 (by omega) (by have := (evs_ok g1).small; omega)
      have L : L10_0 n n (q, ()) ((e.1, e.2), ()) (evP 0 q) (0 : Int) = _ := L
      simp only [Bool.not_true, cond_false]
      unfold J10_6
      rw [F42_eq n (by omega) q hql, g1, if_pos rfl, Option.bind_some]
      simp only [L]
end Go.Proofs.Ytdacfaincamliaa.Ev
