/- The law FnExecSeen's function answers true. Conditions: none. -/
import Derived.Test.YtdacfaincamliaaG11
import Derived.Test.YtdacfaincamliaaQY
import Derived.Test.YtdacfaincamliaaEvRow
namespace Go.Proofs.Ytdacfaincamliaa.Ev
open Go

def okV (x : Int) : Bool := decide (x ≥ 0) && decide (x ≤ 3)
theorem L151_eq (n : Nat) (xs : List Int) (hx : xs.length ≤ 1048576) : ∀ (k m i : Nat), i + k = xs.length → k < m →
    ∃ r : Int, L151_0 n m xs () (xs.length : Int) (i : Int) = some (if (xs.drop i).all okV then .inr (.inl ()) else .inl (r, ())) ∧ 0 ≤ r
  | 0, m + 1, i, hi, hm => by
    have : i = xs.length := by omega
    subst this
    refine ⟨0, ?_, Int.le_refl _⟩
    unfold L151_0
    simp
  | k + 1, m + 1, i, hi, hm => by
    have hlt : i < xs.length := by omega
    unfold L151_0 F128
    simp only [lt_ii, le_0i, hlt, Int.toNat_natCast, if_true, decide_true, cond_true, F86_eq, Option.bind_some]
    rw [getD_drop xs i (0 : Int) hlt, List.all_cons, show (decide (xs.getD i (0 : Int) ≥ 0) && decide (xs.getD i (0 : Int) ≤ 3)) = okV (xs.getD i (0 : Int)) from rfl]
    cases okV (xs.getD i (0 : Int))
    · exact ⟨(i : Int), rfl, by omega⟩
    · simp only [Bool.not_true, cond_false, Bool.true_and]
      rw [w64s (k := k) (by omega)]
      exact L151_eq n xs hx k m (i + 1) (by omega) (by omega)
theorem F89_eq (n : Nat) (hn : 1048576 < n) (xs : List Int) (hx : xs.length ≤ 1048576) : F89 n xs = some (xs.all okV, ()) := by
  obtain ⟨r, e, h0⟩ := L151_eq n xs hx xs.length n 0 (by omega) (by omega)
  have e : L151_0 n n xs () (xs.length : Int) (0 : Int) = _ := e
  unfold F89 F127 F151
  rw [e, List.drop_zero]
  cases xs.all okV
  · simp only [Bool.false_eq_true, if_false, Option.bind_some]
    rw [decide_eq_true (show r ≥ 0 from h0)]
    rfl
  · rfl
/-! ### How many reads -/
def rdAll : List (List D3) → Nat
  | [] => 0
  | t :: p => rdN t + rdAll p
theorem rdN_le : ∀ l : List D3, rdN l ≤ l.length
  | [] => Nat.le_refl _
  | d :: l => by have := rdN_le l; unfold rdN; simp only [List.length_cons]; split <;> omega
theorem rdN_app : ∀ a b : List D3, rdN (a ++ b) = rdN a + rdN b
  | [], b => by simp [rdN]
  | d :: a, b => by
    have := rdN_app a b
    simp only [List.cons_append, rdN, this]
    omega
theorem rd9 {d : D3} (h : d.1 = 9) : rd d = false := by
  unfold rd
  rw [h]
  rfl
theorem rdN_evqT (t : Nat) : ∀ (l : List D3) (i : Nat), rdN ((evqT t i l).map Prod.snd) = rdN l
  | [], i => rfl
  | d :: l, i => by
    have h := rdN_evqT t l (i + 1)
    simp only [evqT, List.map_cons, List.map_append, rdN, rdN_app, h]
    by_cases h9 : d.1 = 9
    · simp [rdN, rd9 h9, h9]
    · simp [rdN, h9]
theorem rdN_evqP : ∀ (p : List (List D3)) (t : Nat), rdN ((evqP t p).map Prod.snd) = rdAll p
  | [], t => rfl
  | s :: p, t => by
    have h := rdN_evqP p (t + 1)
    simp only [evqP, List.map_append, rdN_app, rdN_evqT, h, rdAll]
theorem rdsF_cnt (ds : List D3) (fr : List Int) : ∀ (k a : Nat), a + k = ds.length → (rdsF ds fr k a).length = rdN (ds.drop a)
  | 0, a, h => by
    rw [List.drop_eq_nil_of_le (by omega)]
    rfl
  | k + 1, a, h => by
    rw [rdsF, getD_drop ds a D0 (by omega), rdN, List.length_append, rdsF_cnt ds fr k (a + 1) (by omega)]
    split <;> rfl
theorem L126_eq (n : Nat) (xs : List D3) (hl : xs.length ≤ 1048576) : ∀ (k m i : Nat) (u : Int), i + k = xs.length → k < m → 0 ≤ u → u + k ≤ 2097152 →
    L126_0 n m u xs (xs.length : Int) (i : Int) = some (.inl (u + rdN (xs.drop i), ()))
  | 0, m + 1, i, u, hi, hm, h0, h1 => by
    have : i = xs.length := by omega
    subst this
    unfold L126_0
    simp [rdN]
  | k + 1, m + 1, i, u, hi, hm, h0, h1 => by
    have hlt : i < xs.length := by omega
    have ih := fun u => L126_eq n xs hl k m (i + 1) u (by omega) (by omega)
    unfold L126_0
    simp only [lt_ii, le_0i, hlt, Int.toNat_natCast, if_true, decide_true, cond_true, eta3, F121_eq, Option.bind_some]
    rw [getD_drop xs i ((0 : Int), (0 : Int), (0 : Int)) hlt]
    generalize xs.getD i ((0 : Int), (0 : Int), (0 : Int)) = d
    have hw := w64s (show i + k ≤ 9223372036854775806 by omega)
    have hu : IntKind.i64.wrap (u + 1) = u + 1 := w64 (by omega) (by omega)
    revert ih hw
    generalize ((i + 1 : Nat) : Int) = j
    intro ih hw
    unfold J126_7 rdN
    have ih1 := ih (u + 1) (by omega) (by omega)
    have ih2 := ih u (by omega) (by omega)
    cases rd d <;> simp [hw, hu, ih1, ih2, Int.add_assoc]
theorem F126_eq (n : Nat) (hn : 1048576 < n) (xs : List D3) (hl : xs.length ≤ 1048576) : F126 n xs = some ((rdN xs : Int), ()) := by
  unfold F126
  have := L126_eq n xs hl xs.length n 0 0 (by omega) (by omega) (by omega) (by omega)
  rw [show (((0 : Nat)) : Int) = 0 from rfl, List.drop_zero] at this
  rw [this]
  simp
theorem L88_eq (n : Nat) (hn : 1048576 < n) (p : List (List D3)) (hp : p.length ≤ 1000) (hs : ∀ t ∈ p, t.length ≤ 1000) : ∀ (k m i : Nat) (u : Int), i + k = p.length → k < m → 0 ≤ u → u ≤ 1000 * i →
    L88_0 n m u p (p.length : Int) (i : Int) = some (.inl (u + rdAll (p.drop i), ()))
  | 0, m + 1, i, u, hi, hm, _, _ => by
    have : i = p.length := by omega
    subst this
    unfold L88_0
    simp [rdAll]
  | k + 1, m + 1, i, u, hi, hm, h0, h1 => by
    have hlt : i < p.length := by omega
    have hsz := hs _ (getD_mem p i [] hlt)
    have hus := rdN_le (p.getD i [])
    unfold L88_0
    simp only [lt_ii, le_0i, hlt, Int.toNat_natCast, if_true, decide_true, cond_true]
    rw [F126_eq n hn _ (by omega), Option.bind_some, getD_drop p i [] hlt, w64s (show i + k ≤ 9223372036854775806 by omega), w64 (by simp only; omega) (by simp only; omega), L88_eq n hn p hp hs k m (i + 1) _ (by omega) (by omega) (by simp only; omega) (by simp only; omega)]
    simp only [rdAll, Int.natCast_add, Int.add_assoc]
theorem progOk_len {p : List (List D3)} (h : progOk p = true) : p.length ≤ 3 ∧ ∀ t ∈ p, t.length ≤ 7 := by
  unfold progOk at h
  simp only [Bool.and_eq_true, decide_eq_true_eq, List.all_eq_true] at h
  exact ⟨h.1, fun t ht => by
    have := h.2.1 t ht
    unfold thOk at this
    simp only [Bool.and_eq_true, decide_eq_true_eq] at this
    exact this.1⟩
theorem F88_eq (n : Nat) (hn : 1048576 < n) (p : List (List D3)) (hs : ∀ t ∈ p, t.length ≤ 1048576) (h : progOk p = true) : F88 n p = some ((rdAll p : Int), ()) := by
  unfold F88
  rw [F69_eq n hn p hs, Option.bind_some, h]
  have hl := progOk_len h
  have := L88_eq n hn p (by omega) (fun t ht => by have := hl.2 t ht; omega) p.length n 0 0 (by omega) (by omega) (by omega) (by omega)
  rw [show (((0 : Nat)) : Int) = 0 from rfl, List.drop_zero] at this
  simp only [Bool.not_true, cond_false, this, Int.zero_add]
/-! ### All are values -/
theorem gS_le {p : List (List D3)} {fr : List Int} (hs : ∀ s, s ∈ p → thOk s = true) : ∀ a, a < (dsP p).length → ∀ v, gS (dsP p) fr a = .inl v → okV v = true := by
  intro a ha v h
  unfold gS at h
  by_cases hr : rd ((dsP p).getD a D0) = true
  · rw [if_pos hr] at h
    by_cases h1 : fr.getD a 0 = -1
    · rw [if_pos h1] at h; injection h with h; rw [← h]; rfl
    · rw [if_neg h1] at h; cases h
  · rw [if_neg hr] at h
    by_cases h3 : ((dsP p).getD a D0).1 = 3
    · rw [if_pos h3] at h; cases h
    · rw [if_neg h3] at h
      injection h with h
      have := dsP_formed hs _ (getD_mem (dsP p) a D0 ha)
      unfold formed at this
      simp only [Bool.and_eq_true] at this
      have := this.2
      unfold okV
      simp only [Bool.and_eq_true, decide_eq_true_eq]
      split at this
      · simp only [Bool.and_eq_true, decide_eq_true_eq] at this; omega
      · simp only [decide_eq_true_eq] at this; omega
theorem chn_okV {f : Nat → Sum Int Nat} {n : Nat} (hf : ∀ a, a < n → ∀ b, f a = .inr b → b < n) (hv : ∀ a, a < n → ∀ v, f a = .inl v → okV v = true) : ∀ (m a : Nat) (v : Int), a < n → chn f m a = some v → okV v = true
  | 0, a, v, _, h => by cases h
  | m + 1, a, v, ha, h => by
    unfold chn at h
    cases hg : f a with
    | inl w => rw [hg] at h; injection h with h; rw [← h]; exact hv a ha w hg
    | inr b => rw [hg] at h; exact chn_okV hf hv m b v (hf a ha b hg) h
theorem valA_okV {p : List (List D3)} {fr : List Int} (hp : progOk p = true) (hf : Fit (dsP p) fr) (a : Nat) (ha : a < (dsP p).length) : okV (valA (dsP p) fr a) = true := by
  have hs := (progOkIff.mp hp).2.1
  unfold valA
  cases h : chn (gS (dsP p) fr) (dsP p).length a with
  | none => rfl
  | some v => exact chn_okV (fun a ha b h => (gS_lt hs hf a ha b h).1) (gS_le hs) _ a v ha h
theorem rdsF_okV {p : List (List D3)} {fr : List Int} (hp : progOk p = true) (hf : Fit (dsP p) fr) : ∀ (k a : Nat), a + k = (dsP p).length → (rdsF (dsP p) fr k a).all okV = true
  | 0, _, _ => rfl
  | k + 1, a, h => by
    rw [rdsF, List.all_append, rdsF_okV hp hf k (a + 1) (by omega), Bool.and_true]
    split
    · simp [valA_okV hp hf a (by omega)]
    · rfl
theorem lastsF_okV {p : List (List D3)} {x : Xn} (hp : progOk p = true) (hb : formB (dsP p) x = true) : ∀ (k c : Nat), c + k = 3 → (lastsF (dsP p) x.1 x.2 k c).all okV = true
  | 0, _, _ => rfl
  | k + 1, c, h => by
    have hf := formB_fit (evs_ok hp).frm hb
    rw [lastsF, List.all_cons, lastsF_okV hp hb k (c + 1) (by omega), Bool.and_true]
    unfold lastV
    split
    · rename_i h0
      obtain ⟨b, e, hbl, _⟩ := row_wr hp hb c (by omega) _ (getD_mem (x.2.getD c []) ((x.2.getD c []).length - 1) 0 (by omega))
      rw [e, Int.toNat_natCast]
      exact valA_okV hp hf b hbl
    · rfl
theorem pure_FnExecSeen (xs : pdens [.c false (.v true (.rs 5 (.int .u8)))]) (hg : GoodP 0 [.c false (.v true (.rs 5 (.int .u8)))] xs) : ∃ n, F11 n xs.1 = some (true, ()) := by
  obtain ⟨c, _⟩ := xs
  obtain ⟨⟨h1, h2⟩, _⟩ := hg
  refine ⟨2000000, ?_⟩
  have hn : 1048576 + 2000 < 2000000 := by omega
  generalize 2000000 = n at *
  unfold F11
  by_cases hc : (c.length : Int) > 1048576
  · simp only [hc, decide_true, cond_true]
  · simp only [hc, decide_false, cond_false]
    obtain ⟨q, e, ⟨z, k1⟩, hq, hs⟩ := F38_ok n hn c (goodBytes (by omega) h2)
    obtain ⟨k2, k3⟩ := seen_two n hn hq hs
    obtain ⟨l1, l2⟩ := seenA_len q e
    have k4 : F41 n ((seenA q e).1, (seenA q e).2) ((seenA q e).1, (seenA q e).2) = some (true, ()) := F41_eq n (by omega) (seenA q e) (by omega) (by omega)
    have hql : ∀ t ∈ q, t.length ≤ 1048576 := fun t ht => by have := hq.2.2 t ht; omega
    have k5 : F31 n q (e.1, e.2) = _ := F31_eq n (by omega) q hql e hs.toI
    simp only [k1, k2, k3, k4, Option.bind_some, beq_self_eq_true, Bool.not_true, cond_false, J11_8, k5, cond_true]
    cases hok : execOk q e
    · rfl
    · obtain ⟨g1, g2, g3⟩ := execOk_parts hok
      have hf := formB_fit (evs_ok g1).frm g2
      have e2 : (seenA q e) = (rdsF (dsP q) e.1 (dsP q).length 0, lastsF (dsP q) e.1 e.2 3 0) := by
        unfold seenA; rw [if_pos hok]
      rw [e2] at l1 l2
      have m1 := rdsF_cnt (dsP q) e.1 (dsP q).length 0 (by omega)
      rw [List.drop_zero] at m1
      have m2 : rdN (dsP q) = rdAll q := rdN_evqP q 0
      have m3 := lastsF_len (dsP q) e.1 e.2 3 0
      have m4 := rdsF_okV g1 hf (dsP q).length 0 (by omega)
      have m5 := lastsF_okV g1 g2 3 0 (by omega)
      simp only [Bool.not_true, cond_false, e2]
      unfold F47
      rw [F69_eq n (by omega) q hql, Option.bind_some, g1, cond_true, F88_eq n (by omega) q hql g1, Option.bind_some]
      simp only [m1, m2, m3, beq_self_eq_true, cond_true]
      rw [show (((3 : Nat) : Int) == 3) = true from rfl, cond_true, F89_eq n (by omega) _ (by simp only at l1; omega), m4, Option.bind_some, cond_true, F89_eq n (by omega) _ (by simp only at l2; omega), m5]
      rfl
end Go.Proofs.Ytdacfaincamliaa.Ev
