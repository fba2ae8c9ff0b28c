/- What ExecSeen answers, in the written form and in the code's. Conditions: none. -/
import Derived.Test.YtdacfaincamliaaGN
import Derived.Test.YtdacfaincamliaaQH
namespace Go.Proofs.Ytdacfaincamliaa.Ev
open Go
def valA (ds : List D3) (fr : List Int) (a : Nat) : Int := (chn (gS ds fr) ds.length a).getD 0
def rdsF (ds : List D3) (fr : List Int) : Nat → Nat → List Int
  | 0, _ => []
  | k + 1, a => (if rd (ds.getD a D0) = true then [valA ds fr a] else []) ++ rdsF ds fr k (a + 1)
def lastV (ds : List D3) (fr row : List Int) : Int := if 0 < row.length then valA ds fr (row.getD (row.length - 1) 0).toNat else 0
def lastsF (ds : List D3) (fr : List Int) (ord : List (List Int)) : Nat → Nat → List Int
  | 0, _ => []
  | k + 1, c => lastV ds fr (ord.getD c []) :: lastsF ds fr ord k (c + 1)
theorem rdsF_len (ds : List D3) (fr : List Int) : ∀ (k a : Nat), (rdsF ds fr k a).length ≤ k
  | 0, _ => by simp [rdsF]
  | k + 1, a => by
    have := rdsF_len ds fr k (a + 1)
    simp only [rdsF, List.length_append]
    split <;> simp <;> omega
theorem lastsF_len (ds : List D3) (fr : List Int) (ord : List (List Int)) : ∀ (k c : Nat), (lastsF ds fr ord k c).length = k
  | 0, _ => rfl
  | k + 1, c => by simp [lastsF, lastsF_len ds fr ord k]
theorem allOk_at {ds : List D3} {fr : List Int} : ∀ (k a : Nat), allOk ds fr k a = true → ∀ b, a ≤ b → b < a + k → okA ds fr b = true
  | 0, a, _, b, h1, h2 => by omega
  | k + 1, a, h, b, h1, h2 => by
    rw [allOk_succ, Bool.and_eq_true] at h
    by_cases e : b = a
    · rw [e]; exact h.1
    · exact allOk_at k (a + 1) h.2 b (by omega) (by omega)

section
variable {p : List (List D3)} (hp : progOk p = true) {x : Xn} (hb : formB (dsP p) x = true) (ho : allOk (dsP p) x.1 (dsP p).length 0 = true)
include hp hb ho
theorem valS (n : Nat) (hn : 1048576 < n) (a : Nat) (ha : a < (dsP p).length) : F108 n p (evP 0 p) (x.1, x.2) (a : Int) (IntKind.i64.wrap (IntKind.i64.wrap (2 * ((evP 0 p).length : Int)) + 2)) = some (valA (dsP p) x.1 a, ()) := by
  have W := evs_ok hp
  have hl := W.len
  have hs := W.small
  have e : F108 n p (evP 0 p) (x.1, x.2) (a : Int) ((2 * (dsP p).length + 2 : Nat) : Int) = _ := F108_eq hp (formB_fit W.frm hb) (2 * (dsP p).length + 2) n a (by omega) (by omega) ha
  rw [show IntKind.i64.wrap (IntKind.i64.wrap (2 * ((evP 0 p).length : Int)) + 2) = ((2 * (dsP p).length + 2 : Nat) : Int) by rw [w64 (x := 2 * ((evP 0 p).length : Int)) (by omega) (by omega), w64 (by omega) (by omega)]; omega, e]
  have hk := allOk_at _ _ ho a (by omega) (by omega)
  unfold okA at hk
  unfold valA
  cases h : chn (gS (dsP p) x.1) (dsP p).length a with
  | none => rw [h] at hk; cases hk
  | some v =>
    have := chn_mono _ h ((dsP p).length + 2)
    rw [show (dsP p).length + ((dsP p).length + 2) = 2 * (dsP p).length + 2 by omega] at this
    rw [this]; rfl
omit hp hb ho in
theorem valZ (n : Nat) (hn : 1048576 < n) (y : Xn) (k : Int) : F108 n p (evP 0 p) y (-1) k = some ((0 : Int), ()) := by
  cases n with
  | zero => omega
  | succ n => rw [F108]; rfl
theorem valI (n : Nat) (hn : 1048576 < n) (a : Nat) (ha : a < (dsP p).length) (hu : us ((dsP p).getD a D0) = true) : F112 n (p, evP 0 p, dsP p) (x.1, x.2) (a : Int) = some (valA (dsP p) x.1 a, true, ()) := by
  have W := evs_ok hp
  have e : F112 n (p, evP 0 p, dsP p) (x.1, x.2) (a : Int) = _ := F112_eq hp (formB_fit W.frm hb) n hn p a ha hu
  rw [e]
  have hk := allOk_at _ _ ho a (by omega) (by omega)
  unfold okA at hk
  unfold valA
  cases h : chn (gS (dsP p) x.1) (dsP p).length a with
  | none => rw [h] at hk; cases hk
  | some v => rfl
omit hp ho in
theorem row_us (c : Nat) (hc : c < 3) (v : Int) (hv : v ∈ x.2.getD c []) : ∃ b : Nat, v = b ∧ b < (dsP p).length ∧ us ((dsP p).getD b D0) = true := by
  have hb2 := hb
  unfold formB at hb2
  simp only [Bool.and_eq_true] at hb2
  obtain ⟨k, h2, h3, h4, _⟩ := wsF_ge _ _ _ _ ((rowsB_mem 3 0 hb2.2.2.1 c (by omega) (by omega) v).mpr hv)
  exact ⟨k, by rw [h2]; congr 1; omega, h3, by unfold us; rw [h4, Bool.or_true]⟩
omit ho hp in
theorem ord3 : x.2.length = 3 := by
  unfold formB at hb
  simp only [Bool.and_eq_true, decide_eq_true_eq] at hb
  exact hb.2.1

theorem L83_0_eq (n : Nat) (hn : 1048576 < n) (y : List Int × List Int × Unit) : ∀ (k m a : Nat) (acc : List Int), a + k = (dsP p).length → k < m → acc.length ≤ a →
    L83_0 n m (evP 0 p) (p, ()) (x, ()) y (acc, [], ()) (a : Int) = some (.inl (evP 0 p, (p, ()), (x, ()), y, (acc ++ rdsF (dsP p) x.1 k a, [], ()), ()))
  | 0, m + 1, a, acc, hi, hm, hc => by
    have hl := (evs_ok hp).len
    have : a = (evP 0 p).length := by omega
    subst this
    unfold L83_0
    simp [rdsF]
  | k + 1, m + 1, a, acc, hi, hm, hc => by
    have W := evs_ok hp
    have hl := W.len
    have hs := W.small
    have ha : a < (dsP p).length := by omega
    have hlt : a < (evP 0 p).length := by omega
    have ih := fun acc h => L83_0_eq n hn y k m (a + 1) acc (by omega) (by omega) h
    have ih : ∀ acc : List Int, acc.length ≤ a + 1 → L83_0 n m (evP 0 p) (p, ()) ((x.1, x.2), ()) y (acc, [], ()) ((a + 1 : Nat) : Int) = _ := ih
    unfold L83_0
    simp only [lt_ii, le_0i, hlt, Int.toNat_natCast, if_true, decide_true, cond_true]
    rw [F107_eq' W n a hlt, Option.bind_some, valS hp hb ho n hn a ha]
    simp only [eta3, F79_eq, Option.bind_some, J83_4, List.length_append, List.length_cons, List.length_nil, rdsF]
    rw [w64s (k := k) (by omega)]
    by_cases hr : rd ((dsP p).getD a D0) = true
    · rw [hr, cond_true, if_pos (by omega), if_pos rfl]
      refine (ih _ (by simp; omega)).trans ?_
      simp
    · have hr' : rd ((dsP p).getD a D0) = false := by simpa using hr
      rw [hr', cond_false, if_neg (by decide)]
      refine (ih _ (by omega)).trans ?_
      simp
theorem L83_2_eq (n : Nat) (hn : 1048576 < n) (hx : SmallI x.2) (y : List Int × List Int × Unit) (rr : List Int) : ∀ (k m c : Nat) (acc : List Int), c + k = 3 → k < m → acc.length ≤ c →
    L83_2 n m (evP 0 p) (p, ()) (x, ()) y (rr, acc, ()) (c : Int) = some (.inl (y, (rr, acc ++ lastsF (dsP p) x.1 x.2 k c, ()), ()))
  | 0, m + 1, c, acc, hi, hm, hc => by
    have : c = 3 := by omega
    subst this
    unfold L83_2
    simp [lastsF]
  | k + 1, m + 1, c, acc, hi, hm, hc => by
    have W := evs_ok hp
    have hl := W.len
    have hs := W.small
    have h3 := ord3 hb
    have hlt : c < x.2.length := by omega
    have hrl := hx.2 _ (getD_mem x.2 c [] hlt)
    have ih : ∀ acc : List Int, acc.length ≤ c + 1 → L83_2 n m (evP 0 p) (p, ()) ((x.1, x.2), ()) y (rr, acc, ()) ((c + 1 : Nat) : Int) = _ := fun acc h => L83_2_eq n hn hx y rr k m (c + 1) acc (by omega) (by omega) h
    unfold L83_2
    rw [show decide ((c : Int) < 3) = true from decide_eq_true (by omega), cond_true]
    simp only [lt_ii, le_0i, hlt, Int.toNat_natCast, if_true, J83_13, J83_9, lastsF, lastV]
    by_cases h0 : 0 < (x.2.getD c []).length
    · obtain ⟨b, hb1, hb2, hb3⟩ := row_us hb c (by omega) _ (getD_mem (x.2.getD c []) ((x.2.getD c []).length - 1) 0 (by omega))
      rw [show decide (((x.2.getD c []).length : Int) > 0) = true from decide_eq_true (by omega), cond_true, if_pos h0,
        show IntKind.i64.wrap (((x.2.getD c []).length : Int) - 1) = (((x.2.getD c []).length - 1 : Nat) : Int) by rw [w64 (by omega) (by omega)]; omega]
      simp only [le_0i, lt_ii, Int.toNat_natCast, if_true]
      rw [if_pos (by omega), hb1, valS hp hb ho n hn b hb2, Option.bind_some, if_pos (by simp; omega)]
      simp only [Int.toNat_natCast]
      rw [w64s (k := k) (by omega)]
      refine (ih _ (by simp; omega)).trans ?_
      simp
    · rw [show decide (((x.2.getD c []).length : Int) > 0) = false from decide_eq_false (by omega), cond_false, if_neg h0, valZ n hn, Option.bind_some, if_pos (by simp; omega)]
      simp only []
      rw [w64s (k := k) (by omega)]
      refine (ih _ (by simp; omega)).trans ?_
      simp
theorem F83_eq (n : Nat) (hn : 1048576 < n) (hx : SmallI x.2) : F83 n p (evP 0 p) (x.1, x.2) = some ((rdsF (dsP p) x.1 (dsP p).length 0, lastsF (dsP p) x.1 x.2 3 0), ()) := by
  have hl := (evs_ok hp).len
  have hs := (evs_ok hp).small
  have e1 : L83_0 n n (evP 0 p) (p, ()) ((x.1, x.2), ()) ([], [], ()) ([], [], ()) (0 : Int) = _ := L83_0_eq hp hb ho n hn ([], [], ()) (dsP p).length n 0 [] (by omega) (by omega) (by simp)
  have e2 : ∀ rr, L83_2 n n (evP 0 p) (p, ()) ((x.1, x.2), ()) ([], [], ()) (rr, [], ()) (0 : Int) = _ := fun rr => L83_2_eq hp hb ho n hn hx ([], [], ()) rr 3 n 0 [] (by omega) (by omega) (by simp)
  unfold F83
  simp only [e1, List.nil_append]
  simp only [e2, List.nil_append]

theorem L84_0_eq (n : Nat) (hn : 1048576 < n) (y : List Int × List Int × Unit) : ∀ (k m a : Nat) (acc : List Int), a + k = (dsP p).length → k < m → acc.length ≤ a →
    L84_0 n m ((p, evP 0 p, dsP p), ()) (x, ()) y (acc, [], ()) (dsP p) ((dsP p).length : Int) (a : Int) = some (.inl (((p, evP 0 p, dsP p), ()), (x, ()), y, (acc ++ rdsF (dsP p) x.1 k a, [], ()), ()))
  | 0, m + 1, a, acc, hi, hm, hc => by
    have : a = (dsP p).length := by omega
    subst this
    unfold L84_0
    simp [rdsF]
  | k + 1, m + 1, a, acc, hi, hm, hc => by
    have W := evs_ok hp
    have hl := W.len
    have hs := W.small
    have ha : a < (dsP p).length := by omega
    have ih : ∀ acc : List Int, acc.length ≤ a + 1 → L84_0 n m ((p, evP 0 p, dsP p), ()) ((x.1, x.2), ()) y (acc, [], ()) (dsP p) ((dsP p).length : Int) ((a + 1 : Nat) : Int) = _ := fun acc h => L84_0_eq n hn y k m (a + 1) acc (by omega) (by omega) h
    unfold L84_0
    simp only [lt_ii, le_0i, ha, Int.toNat_natCast, if_true, decide_true, cond_true, eta3, F121_eq, Option.bind_some, J84_8, rdsF]
    rw [w64s (k := k) (by omega)]
    by_cases hr : rd ((dsP p).getD a D0) = true
    · rw [hr, cond_true, valI hp hb ho n hn a ha (by unfold us; rw [hr, Bool.true_or]), Option.bind_some, if_pos (by simp; omega), if_pos rfl]
      refine (ih _ (by simp; omega)).trans ?_
      simp
    · have hr' : rd ((dsP p).getD a D0) = false := by simpa using hr
      rw [hr', cond_false, if_neg (by decide)]
      refine (ih _ (by omega)).trans ?_
      simp
theorem L84_2_eq (n : Nat) (hn : 1048576 < n) (hx : SmallI x.2) (y : List Int × List Int × Unit) (rr : List Int) : ∀ (k m c : Nat) (acc : List Int), c + k = 3 → k < m → acc.length ≤ c →
    L84_2 n m ((p, evP 0 p, dsP p), ()) (x, ()) y (rr, acc, ()) x.2 (x.2.length : Int) (c : Int) = some (.inl (y, (rr, acc ++ lastsF (dsP p) x.1 x.2 k c, ()), ()))
  | 0, m + 1, c, acc, hi, hm, hc => by
    have h3 := ord3 hb
    have : c = x.2.length := by omega
    subst this
    unfold L84_2
    simp [lastsF]
  | k + 1, m + 1, c, acc, hi, hm, hc => by
    have W := evs_ok hp
    have hl := W.len
    have hs := W.small
    have h3 := ord3 hb
    have hlt : c < x.2.length := by omega
    have hrl := hx.2 _ (getD_mem x.2 c [] hlt)
    have ih : ∀ acc : List Int, acc.length ≤ c + 1 → L84_2 n m ((p, evP 0 p, dsP p), ()) ((x.1, x.2), ()) y (rr, acc, ()) x.2 (x.2.length : Int) ((c + 1 : Nat) : Int) = _ := fun acc h => L84_2_eq n hn hx y rr k m (c + 1) acc (by omega) (by omega) h
    unfold L84_2
    simp only [lt_ii, le_0i, hlt, Int.toNat_natCast, if_true, decide_true, cond_true, J84_15, J84_16, lastsF, lastV]
    by_cases h0 : 0 < (x.2.getD c []).length
    · obtain ⟨b, hb1, hb2, hb3⟩ := row_us hb c (by omega) _ (getD_mem (x.2.getD c []) ((x.2.getD c []).length - 1) 0 (by omega))
      rw [show decide (((x.2.getD c []).length : Int) > 0) = true from decide_eq_true (by omega), cond_true, if_pos h0,
        show IntKind.i64.wrap (((x.2.getD c []).length : Int) - 1) = (((x.2.getD c []).length - 1 : Nat) : Int) by rw [w64 (by omega) (by omega)]; omega]
      simp only [le_0i, lt_ii, Int.toNat_natCast, if_true]
      rw [if_pos (by omega), hb1, valI hp hb ho n hn b hb2 hb3, Option.bind_some, if_pos (by simp; omega)]
      simp only [Int.toNat_natCast]
      rw [w64s (k := k) (by omega)]
      refine (ih _ (by simp; omega)).trans ?_
      simp
    · rw [show decide (((x.2.getD c []).length : Int) > 0) = false from decide_eq_false (by omega), cond_false, if_neg h0, if_pos (by simp; omega)]
      simp only []
      rw [w64s (k := k) (by omega)]
      refine (ih _ (by simp; omega)).trans ?_
      simp
theorem F84_eq (n : Nat) (hn : 1048576 < n) (hx : SmallI x.2) : F84 n (p, evP 0 p, dsP p) (x.1, x.2) = some ((rdsF (dsP p) x.1 (dsP p).length 0, lastsF (dsP p) x.1 x.2 3 0), ()) := by
  have hl := (evs_ok hp).len
  have hs := (evs_ok hp).small
  have e1 : L84_0 n n ((p, evP 0 p, dsP p), ()) ((x.1, x.2), ()) ([], [], ()) ([], [], ()) (dsP p) ((dsP p).length : Int) (0 : Int) = _ := L84_0_eq hp hb ho n hn ([], [], ()) (dsP p).length n 0 [] (by omega) (by omega) (by simp)
  have e2 : ∀ rr, L84_2 n n ((p, evP 0 p, dsP p), ()) ((x.1, x.2), ()) ([], [], ()) (rr, [], ()) x.2 (x.2.length : Int) (0 : Int) = _ := fun rr => L84_2_eq hp hb ho n hn hx ([], [], ()) rr 3 n 0 [] (by omega) (by omega) (by simp)
  unfold F84
  simp only [e1, List.nil_append]
  simp only [e2, List.nil_append]
end

def seenA (p : List (List D3)) (x : Xn) : List Int × List Int := if execOk p x then (rdsF (dsP p) x.1 (dsP p).length 0, lastsF (dsP p) x.1 x.2 3 0) else ([], [])
theorem execOk_parts {p : List (List D3)} {x : Xn} (h : execOk p x = true) : progOk p = true ∧ formB (dsP p) x = true ∧ allOk (dsP p) x.1 (dsP p).length 0 = true := by
  unfold execOk at h
  simp only [Bool.and_eq_true] at h
  exact ⟨h.1, h.2.1, h.2.2⟩
theorem F39_eq (n : Nat) (hn : 1048576 < n) (p : List (List D3)) (x : Xn) (hx : SmallI x.2) : F39 n p x = some (seenA p x, execOk p x, ()) := by
  unfold F39 seenA
  rw [show F29 n p (x.1, x.2) = _ from F29_eq n hn p x hx, Option.bind_some]
  cases h : execOk p x
  · rfl
  · obtain ⟨h1, h2, h3⟩ := execOk_parts h
    rw [Bool.not_true, cond_false, F65_eq n hn p, Option.bind_some, h1, if_pos rfl, F83_eq h1 h2 h3 n hn hx, Option.bind_some, if_pos rfl]
theorem F40_eq (n : Nat) (hn : 1048576 < n) (p : List (List D3)) (hs : ∀ t ∈ p, t.length ≤ 1048576) (x : Xn) (hx : SmallI x.2) : F40 n p x = some (seenA p x, execOk p x, ()) := by
  unfold F40 seenA
  rw [show F31 n p (x.1, x.2) = _ from F31_eq n hn p hs x hx, Option.bind_some]
  cases h : execOk p x
  · rfl
  · obtain ⟨h1, h2, h3⟩ := execOk_parts h
    rw [Bool.not_true, cond_false, F70_eq n hn p hs h1, Option.bind_some, F84_eq h1 h2 h3 n hn hx, Option.bind_some, if_pos rfl]
theorem seenA_len (p : List (List D3)) (x : Xn) : (seenA p x).1.length ≤ 1000 ∧ (seenA p x).2.length ≤ 1000 := by
  unfold seenA
  cases h : execOk p x
  · exact ⟨by simp, by simp⟩
  · obtain ⟨h1, h2, h3⟩ := execOk_parts h
    have hl := (evs_ok h1).len
    have hs := (evs_ok h1).small
    have := rdsF_len (dsP p) x.1 (dsP p).length 0
    rw [if_pos rfl]
    exact ⟨by simp only []; omega, by rw [lastsF_len]; omega⟩
end Go.Proofs.Ytdacfaincamliaa.Ev
