/- The law FnExecCount's function answers true. Conditions: none. -/
import Derived.Test.YtdacfaincamliaaG6
import Derived.Test.YtdacfaincamliaaQZ
import Derived.Test.YtdacfaincamliaaEvRow
namespace Go.Proofs.Ytdacfaincamliaa.Ev
open Go

theorem fct_pos : ∀ n : Nat, 0 < fct n
  | 0 => by decide
  | n + 1 => Nat.mul_pos (by omega) (fct_pos n)
theorem fct_pow : ∀ n : Nat, n ≤ 6 → fct n ≤ 7 ^ n
  | 0, _ => by decide
  | 1, _ => by decide
  | 2, _ => by decide
  | 3, _ => by decide
  | 4, _ => by decide
  | 5, _ => by decide
  | 6, _ => by decide
  | n + 7, h => by omega
def wN (c : Int) : List D3 → Nat
  | [] => 0
  | d :: l => (if wr d = true ∧ d.2.1 = c then 1 else 0) + wN c l
def rN (c : Int) : List D3 → Nat
  | [] => 0
  | d :: l => (if rd d = true ∧ d.2.1 = c then 1 else 0) + rN c l
def wA (c : Int) : List (List D3) → Nat
  | [] => 0
  | t :: p => wN c t + wA c p
def rA (c : Int) : List (List D3) → Nat
  | [] => 0
  | t :: p => rN c t + rA c p
theorem wsF_wN (c : Int) : ∀ (l : List D3) (i : Nat), (wsF c i l).length = wN c l
  | [], _ => rfl
  | d :: l, i => by rw [wsF_cons, wsF_wN c l (i + 1), wN]
theorem wN_app (c : Int) : ∀ a b : List D3, wN c (a ++ b) = wN c a + wN c b
  | [], b => by simp [wN]
  | d :: a, b => by
    have := wN_app c a b
    simp only [List.cons_append, wN, this]
    omega
theorem rN_app (c : Int) : ∀ a b : List D3, rN c (a ++ b) = rN c a + rN c b
  | [], b => by simp [rN]
  | d :: a, b => by
    have := rN_app c a b
    simp only [List.cons_append, rN, this]
    omega
theorem rd9' {d : D3} (h : d.1 = 9) : rd d = false := by
  unfold rd
  rw [h]
  rfl
theorem wr9' {d : D3} (h : d.1 = 9) : wr d = false := by
  unfold wr
  rw [h]
  rfl
theorem wN_evqT (c : Int) (t : Nat) : ∀ (l : List D3) (i : Nat), wN c ((evqT t i l).map Prod.snd) = wN c l
  | [], i => rfl
  | d :: l, i => by
    have h := wN_evqT c t l (i + 1)
    simp only [evqT, List.map_cons, List.map_append, wN, wN_app, h]
    by_cases h9 : d.1 = 9
    · simp [wN, wr9' h9, h9]
    · simp [wN, h9]
theorem rN_evqT (c : Int) (t : Nat) : ∀ (l : List D3) (i : Nat), rN c ((evqT t i l).map Prod.snd) = rN c l
  | [], i => rfl
  | d :: l, i => by
    have h := rN_evqT c t l (i + 1)
    simp only [evqT, List.map_cons, List.map_append, rN, rN_app, h]
    by_cases h9 : d.1 = 9
    · simp [rN, rd9' h9, h9]
    · simp [rN, h9]
theorem wN_evqP (c : Int) : ∀ (p : List (List D3)) (t : Nat), wN c ((evqP t p).map Prod.snd) = wA c p
  | [], t => rfl
  | s :: p, t => by
    have h := wN_evqP c p (t + 1)
    simp only [evqP, List.map_append, wN_app, wN_evqT, h, wA]
theorem rN_evqP (c : Int) : ∀ (p : List (List D3)) (t : Nat), rN c ((evqP t p).map Prod.snd) = rA c p
  | [], t => rfl
  | s :: p, t => by
    have h := rN_evqP c p (t + 1)
    simp only [evqP, List.map_append, rN_app, rN_evqT, h, rA]
theorem uses_three : ∀ l : List D3, (wN 0 l + rN 0 l) + (wN 1 l + rN 1 l) + (wN 2 l + rN 2 l) ≤ usesN l
  | [] => by simp [wN, rN, usesN]
  | d :: l => by
    have h := uses_three l
    unfold wN rN usesN us
    cases hr : rd d with
    | true =>
      have hw := rd_wr hr
      simp only [hw, Bool.false_eq_true, false_and, if_false, true_and, if_true, Bool.true_or]
      split <;> split <;> split <;> omega
    | false =>
      cases hw : wr d with
      | false => simp only [Bool.false_eq_true, false_and, if_false, Bool.or_self]; omega
      | true =>
        simp only [true_and, Bool.false_eq_true, false_and, if_false, if_true, Bool.or_true]
        split <;> split <;> split <;> omega
/-- What a place lets through at most. -/
def wayN (w r : Nat) : Nat := fct w * (w + 1) ^ r
theorem mul3 (A B C x R : Nat) (h : R = A * B * C * (x + 1)) : A * B * C + x * (A * B * C) = R := by
  rw [h, Nat.mul_add, Nat.mul_one, Nat.add_comm, Nat.mul_comm x]
theorem fm_cnt (ds : List D3) : ∀ (l : List D3) (acc : List Int), (∀ d ∈ l, formed d = true) → (fm ds l acc).length = (wN 0 ds + 1) ^ rN 0 l * (wN 1 ds + 1) ^ rN 1 l * (wN 2 ds + 1) ^ rN 2 l
  | [], acc, _ => by simp [fm, rN]
  | d :: l, acc, hf => by
    have hf' : ∀ d ∈ l, formed d = true := fun x hx => hf x (by simp [hx])
    obtain ⟨c, h1, h2⟩ := formed_loc (hf d (by simp))
    have ih := fun acc => fm_cnt ds l acc hf'
    have hlen : ∀ ws : List Int, (ws.flatMap fun x => fm ds l (acc ++ [x])).length = ws.length * ((wN 0 ds + 1) ^ rN 0 l * (wN 1 ds + 1) ^ rN 1 l * (wN 2 ds + 1) ^ rN 2 l) := by
      intro ws
      induction ws with
      | nil => simp
      | cons x ws ihw => rw [List.flatMap_cons, List.length_append, ih, ihw, List.length_cons, Nat.succ_mul, Nat.add_comm]
    rw [fm]
    by_cases hr : rd d = true
    · rw [if_pos hr, List.length_append, ih, hlen, wsF_wN, h1]
      simp only [rN, hr, true_and, h1]
      generalize rN 0 l = a
      generalize rN 1 l = b
      generalize rN 2 l = e
      generalize hx : wN 0 ds = x
      generalize hy : wN 1 ds = y
      generalize hz : wN 2 ds = z
      match c, h2 with
      | 0, _ =>
        rw [show wN ((0 : Nat) : Int) ds = x from hx, show (if ((0 : Nat) : Int) = 0 then 1 else 0) = 1 from rfl, show (if ((0 : Nat) : Int) = 1 then 1 else 0) = 0 from rfl, show (if ((0 : Nat) : Int) = 2 then 1 else 0) = 0 from rfl, Nat.zero_add, Nat.zero_add, Nat.add_comm 1 a, Nat.pow_succ]
        exact mul3 _ _ _ _ _ (by ac_rfl)
      | 1, _ =>
        rw [show wN ((1 : Nat) : Int) ds = y from hy, show (if ((1 : Nat) : Int) = 0 then 1 else 0) = 0 from rfl, show (if ((1 : Nat) : Int) = 1 then 1 else 0) = 1 from rfl, show (if ((1 : Nat) : Int) = 2 then 1 else 0) = 0 from rfl, Nat.zero_add, Nat.zero_add, Nat.add_comm 1 b, Nat.pow_succ]
        exact mul3 _ _ _ _ _ (by ac_rfl)
      | 2, _ =>
        rw [show wN ((2 : Nat) : Int) ds = z from hz, show (if ((2 : Nat) : Int) = 0 then 1 else 0) = 0 from rfl, show (if ((2 : Nat) : Int) = 1 then 1 else 0) = 0 from rfl, show (if ((2 : Nat) : Int) = 2 then 1 else 0) = 1 from rfl, Nat.zero_add, Nat.zero_add, Nat.add_comm 1 e, Nat.pow_succ]
        exact mul3 _ _ _ _ _ (by ac_rfl)
    · rw [if_neg hr, ih]
      have hr' : rd d = false := by simpa using hr
      simp [rN, hr']
theorem ways_le (ds : List D3) (f : List Int) (os : List (List (List Int))) : (waysF ds f os).length ≤ os.length := ways_len ds f os
theorem execs_cnt {p : List (List D3)} (hp : progOk p = true) : (execs p).length ≤ wayN (wA 0 p) (rA 0 p) * wayN (wA 1 p) (rA 1 p) * wayN (wA 2 p) (rA 2 p) := by
  have hf := (evs_ok hp).frm
  have h1 := flat_len (fun f => waysF (dsP p) f (ordsF (dsP p))) (ordsF (dsP p)).length (fm (dsP p) (dsP p) []) fun f _ => ways_len _ _ _
  have h2 := fm_cnt (dsP p) (dsP p) [] hf
  have h3 : (ordsF (dsP p)).length = fct (wA 0 p) * fct (wA 1 p) * fct (wA 2 p) := by
    have e : ∀ c : Nat, (rowsC (dsP p) c).length = fct (wA c p) := fun c => by
      unfold rowsC
      rw [pm_eq _ (wsF_nodup _ _ _), pmF_cnt _ _ rfl, wsF_wN]
      exact congrArg fct (wN_evqP _ p 0)
    rw [ordsF, ext_len, ext_len, ext_len, e, e, e, List.length_singleton, Nat.one_mul]
    rfl
  have ew : ∀ c : Int, wN c (dsP p) = wA c p := fun c => wN_evqP c p 0
  have er : ∀ c : Int, rN c (dsP p) = rA c p := fun c => rN_evqP c p 0
  rw [h2, h3, ew, ew, ew, er, er, er] at h1
  unfold wayN
  refine Nat.le_trans h1 (Nat.le_of_eq ?_)
  generalize fct (wA 0 p) = a
  generalize fct (wA 1 p) = b
  generalize fct (wA 2 p) = c
  generalize (wA 0 p + 1) ^ rA 0 p = x
  generalize (wA 1 p + 1) ^ rA 1 p = y
  generalize (wA 2 p + 1) ^ rA 2 p = z
  ac_rfl
theorem wayN_le {w r : Nat} (h : w ≤ 6) : wayN w r ≤ 7 ^ (w + r) := by
  unfold wayN
  rw [Nat.pow_add]
  exact Nat.mul_le_mul (fct_pow w h) (Nat.pow_le_pow_left (by omega) r)

/-! ### The loops -/
theorem L6_4_eq (n : Nat) (p : List (List D3)) (al : List Xn) (c t : Nat) (ht : t < p.length) (M : Nat) (hM : M ≤ 117649) (hp : (p.getD t []).length ≤ 1000) : ∀ (k m i w r : Nat), i + k = (p.getD t []).length → k < m → w + wN c ((p.getD t []).drop i) ≤ 6 → r + k ≤ 3000 →
    L6_4 n m (p, ()) al ((M * fct w : Nat) : Int) (c : Int) (w : Int) (r : Int) (t : Int) (i : Int) = some (.inl ((p, ()), al, ((M * fct (w + wN c ((p.getD t []).drop i)) : Nat) : Int), (c : Int), ((w + wN c ((p.getD t []).drop i) : Nat) : Int), ((r + rN c ((p.getD t []).drop i) : Nat) : Int), (t : Int), ()))
  | 0, m + 1, i, w, r, hi, hm, hw, hr => by
    have : i = (p.getD t []).length := by omega
    unfold L6_4
    simp only [lt_ii, le_0i, ht, Int.toNat_natCast, if_true]
    rw [decide_eq_false (by omega), cond_false, List.drop_of_length_le (by omega)]
    rfl
  | k + 1, m + 1, i, w, r, hi, hm, hw, hr => by
    have hlt : i < (p.getD t []).length := by omega
    have ih := fun w r => L6_4_eq n p al c t ht M hM hp k m (i + 1) w r (by omega) (by omega)
    rw [getD_drop (p.getD t []) i D0 hlt, wN, rN] at *
    unfold L6_4
    simp only [lt_ii, le_0i, ht, hlt, Int.toNat_natCast, if_true, decide_true, cond_true, J6_18]
    rw [w64s (k := k) (by omega)]
    generalize hd : (p.getD t []).getD i ((0 : Int), (0 : Int), (0 : Int)) = d
    have hd' : (p.getD t []).getD i D0 = d := hd
    rw [hd'] at hw
    have hm1 : ∀ w' : Nat, w' ≤ 6 → M * fct w' ≤ 117649 * 720 := fun w' h => Nat.mul_le_mul hM (fct_le w' h)
    by_cases hpl : d.2.1 = (c : Int)
    · rw [hpl, bne_self_eq_false, cond_false]
      simp only [hpl, and_true] at hw ⊢
      simp only [beq_int]
      by_cases hwr : wr d = true
      · rw [if_pos hwr] at hw ⊢
        have hrd : rd d = false := by
          cases h : rd d with
          | false => rfl
          | true => rw [rd_wr h] at hwr; cases hwr
        rw [hrd, if_neg (by decide)]
        have e1 : IntKind.i64.wrap ((w : Int) + 1) = ((w + 1 : Nat) : Int) := w64s (k := 0) (by omega)
        have e2 : IntKind.i64.wrap (((M * fct w : Nat) : Int) * ((w + 1 : Nat) : Int)) = ((M * fct (w + 1) : Nat) : Int) := by
          have h9 := hm1 (w + 1) (by omega)
          have e : ((M * fct w : Nat) : Int) * ((w + 1 : Nat) : Int) = ((M * fct (w + 1) : Nat) : Int) := by
            rw [← Int.natCast_mul, fct, Nat.mul_comm (w + 1), Nat.mul_assoc]
          rw [e, w64 (by omega) (by omega)]
        have g := ih (w + 1) r (by omega) (by omega)
        rw [show w + 1 + wN c ((p.getD t []).drop (i + 1)) = w + (1 + wN c ((p.getD t []).drop (i + 1))) by omega] at g
        rw [Nat.zero_add]
        unfold wr at hwr
        simp only [Bool.or_eq_true, decide_eq_true_eq] at hwr
        rw [e1, e2]
        rcases hwr with h | h | h
        · simp only [h, decide_true, cond_true]
          exact g
        · simp only [h, decide_true, cond_true, show decide ((3 : Int) = 1) = false from rfl, cond_false]
          exact g
        · simp only [h, decide_true, cond_true, show decide ((6 : Int) = 1) = false from rfl, show decide ((6 : Int) = 3) = false from rfl, cond_false]
          exact g
      · rw [if_neg hwr] at hw ⊢
        have hwr' : wr d = false := by simpa using hwr
        unfold wr at hwr'
        simp only [Bool.or_eq_false_iff, decide_eq_false_iff_not] at hwr'
        rw [decide_eq_false hwr'.1, decide_eq_false hwr'.2.1, decide_eq_false hwr'.2.2, cond_false, cond_false, cond_false, Nat.zero_add]
        rw [Nat.zero_add] at hw
        by_cases hrd : rd d = true
        · rw [if_pos hrd]
          have e1 : IntKind.i64.wrap ((r : Int) + 1) = ((r + 1 : Nat) : Int) := w64s (k := 0) (by omega)
          have g := ih w (r + 1) hw (by omega)
          rw [show r + 1 + rN c ((p.getD t []).drop (i + 1)) = r + (1 + rN c ((p.getD t []).drop (i + 1))) by omega] at g
          rw [e1]
          unfold rd at hrd
          simp only [Bool.or_eq_true, decide_eq_true_eq] at hrd
          rcases hrd with h | h
          · simp only [h, decide_true, cond_true]
            exact g
          · simp only [h, decide_true, cond_true, show decide ((5 : Int) = 2) = false from rfl, cond_false]
            exact g
        · rw [if_neg hrd, Nat.zero_add]
          have g := ih w r hw (by omega)
          have hrd' : rd d = false := by simpa using hrd
          unfold rd at hrd'
          simp only [Bool.or_eq_false_iff, decide_eq_false_iff_not] at hrd'
          rw [decide_eq_false hrd'.1, decide_eq_false hrd'.2, cond_false, cond_false]
          exact g
    · rw [bne_int, decide_eq_false hpl, Bool.not_false, cond_true]
      rw [if_neg (fun h => hpl h.2), if_neg (fun h => hpl h.2), Nat.zero_add, Nat.zero_add]
      rw [if_neg (fun h => hpl h.2), Nat.zero_add] at hw
      exact ih w r hw (by omega)
theorem L6_2_eq (n : Nat) (hn : 1048576 < n) (p : List (List D3)) (al : List Xn) (c : Nat) (M : Nat) (hM : M ≤ 117649) (hp3 : p.length ≤ 3) (hp : ∀ t ∈ p, t.length ≤ 1000) : ∀ (k m t w r : Nat), t + k = p.length → k < m → w + wA c (p.drop t) ≤ 6 → r + 1000 * k ≤ 3000 →
    L6_2 n m (p, ()) al ((M * fct w : Nat) : Int) (c : Int) (w : Int) (r : Int) (t : Int) = some (.inl ((p, ()), al, ((M * fct (w + wA c (p.drop t)) : Nat) : Int), (c : Int), ((w + wA c (p.drop t) : Nat) : Int), ((r + rA c (p.drop t) : Nat) : Int), ()))
  | 0, m + 1, t, w, r, ht, hm, hw, hr => by
    have : t = p.length := by omega
    subst this
    unfold L6_2
    simp [wA, rA]
  | k + 1, m + 1, t, w, r, ht, hm, hw, hr => by
    have hlt : t < p.length := by omega
    rw [getD_drop p t [] hlt, wA] at hw
    have hl := hp _ (getD_mem p t [] hlt)
    have h4 := L6_4_eq n p al c t hlt M hM hl (p.getD t []).length n 0 w r (by omega) (by omega) (by rw [List.drop_zero]; omega) (by omega)
    rw [List.drop_zero, show ((0 : Nat) : Int) = 0 from rfl] at h4
    have hrl : rN c (p.getD t []) ≤ (p.getD t []).length := by
      generalize p.getD t [] = l
      induction l with
      | nil => exact Nat.le_refl _
      | cons d l ih => rw [rN, List.length_cons]; split <;> omega
    unfold L6_2
    simp only [lt_ii, hlt, decide_true, cond_true, h4]
    rw [w64s (k := k) (by omega), L6_2_eq n hn p al c M hM hp3 hp k m (t + 1) _ _ (by omega) (by omega) (by omega) (by omega), getD_drop p t [] hlt, wA, rA]
    simp only [Nat.add_assoc]
theorem L6_7_eq (n : Nat) (p : List (List D3)) (al : List Xn) (c : Int) (w : Nat) (hw6 : w ≤ 6) : ∀ (k m M : Nat), k < m → k ≤ 1000 → M * (w + 1) ^ k ≤ 100000000000000 →
    L6_7 n m (p, ()) al (M : Int) c (w : Int) (k : Int) = some (.inl ((p, ()), al, ((M * (w + 1) ^ k : Nat) : Int), c, ()))
  | 0, m + 1, M, hm, hk, hB => by
    unfold L6_7
    simp
  | k + 1, m + 1, M, hm, hk, hB => by
    have h1 : M * (w + 1) * (w + 1) ^ k ≤ 100000000000000 := by rw [Nat.mul_assoc, Nat.mul_comm (w + 1), ← Nat.pow_succ]; exact hB
    have hpos : 0 < (w + 1) ^ k := Nat.pow_pos (by omega)
    have h2 : M * (w + 1) ≤ 100000000000000 := Nat.le_trans (Nat.le_mul_of_pos_right _ hpos) h1
    unfold L6_7
    rw [decide_eq_true (by omega), cond_true, w64s (k := 0) (by omega)]
    have e : (M : Int) * ((w + 1 : Nat) : Int) = ((M * (w + 1) : Nat) : Int) := by rw [Int.natCast_mul]
    rw [e, w64 (by omega) (by omega), show ((k + 1 : Nat) : Int) - 1 = (k : Int) by omega]
    rw [w64 (by omega) (by omega), L6_7_eq n p al c w hw6 k m (M * (w + 1)) (by omega) (by omega) h1, Nat.pow_succ, Nat.mul_comm ((w + 1) ^ k), Nat.mul_assoc]
theorem L6_0_step (n : Nat) (hn : 1048576 < n) (p : List (List D3)) (al : List Xn) (hp3 : p.length ≤ 3) (hp : ∀ t ∈ p, t.length ≤ 1000) (m c M : Nat) (hc : c < 3) (hM : M ≤ 117649) (hu : wA c p + rA c p ≤ 6) :
    L6_0 n (m + 1) (p, ()) al (M : Int) (c : Int) = L6_0 n m (p, ()) al ((M * wayN (wA c p) (rA c p) : Nat) : Int) ((c + 1 : Nat) : Int) := by
  have h2 := L6_2_eq n hn p al c M hM hp3 hp p.length n 0 0 0 (by omega) (by omega) (by rw [List.drop_zero]; omega) (by omega)
  simp only [List.drop_zero, Nat.zero_add, show fct 0 = 1 from rfl, Nat.mul_one, show ((0 : Nat) : Int) = 0 from rfl] at h2
  have hb : M * fct (wA c p) * (wA c p + 1) ^ rA c p ≤ 100000000000000 := by
    have h3 := wayN_le (w := wA c p) (r := rA c p) (by omega)
    have h4 : 7 ^ (wA c p + rA c p) ≤ 7 ^ 6 := Nat.pow_le_pow_right (by omega) hu
    have h5 : M * wayN (wA c p) (rA c p) ≤ 117649 * 117649 := Nat.mul_le_mul hM (Nat.le_trans h3 h4)
    unfold wayN at h5
    rw [← Nat.mul_assoc] at h5
    omega
  have h7 := L6_7_eq n p al (c : Int) (wA c p) (by omega) (rA c p) n (M * fct (wA c p)) (by omega) (by omega) hb
  rw [L6_0]
  rw [decide_eq_true (by omega), cond_true, h2]
  simp only
  rw [h7]
  simp only
  rw [w64s (k := 0) (by omega)]
  unfold wayN
  rw [Nat.mul_assoc]
theorem uses_A {p : List (List D3)} (h : progOk p = true) : (wA 0 p + rA 0 p) + (wA 1 p + rA 1 p) + (wA 2 p + rA 2 p) ≤ 6 := by
  have h1 := uses_three (dsP p)
  have h2 := uses6 h
  have ew : ∀ c : Int, wN c (dsP p) = wA c p := fun c => wN_evqP c p 0
  have er : ∀ c : Int, rN c (dsP p) = rA c p := fun c => rN_evqP c p 0
  rw [ew, ew, ew, er, er, er] at h1
  omega
theorem J6_7_eq (n : Nat) (hn : 1048576 + 10 < n) {p : List (List D3)} (h : progOk p = true) : J6_7 n (p, ()) (execs p) = some (.inl (true, ())) := by
  have hu := uses_A h
  have hp' := progOkIff.mp h
  have hl : ∀ t ∈ p, t.length ≤ 1000 := fun t ht => by
    have := hp'.2.1 t ht
    unfold thOk at this
    simp only [Bool.and_eq_true, decide_eq_true_eq] at this
    omega
  have hc := execs_cnt h
  obtain ⟨m, rfl⟩ : ∃ m, n = m + 4 := ⟨n - 4, by omega⟩
  have b0 : wayN (wA 0 p) (rA 0 p) ≤ 7 ^ (wA 0 p + rA 0 p) := wayN_le (by omega)
  have b1 : wayN (wA 1 p) (rA 1 p) ≤ 7 ^ (wA 1 p + rA 1 p) := wayN_le (by omega)
  have c0 : 7 ^ (wA 0 p + rA 0 p) ≤ 7 ^ 6 := Nat.pow_le_pow_right (by omega) (by omega)
  have c1 : 7 ^ (wA 0 p + rA 0 p) * 7 ^ (wA 1 p + rA 1 p) ≤ 7 ^ 6 := by rw [← Nat.pow_add]; exact Nat.pow_le_pow_right (by omega) (by omega)
  have s0 := L6_0_step (m + 4) (by omega) p (execs p) hp'.1 hl (m + 3) 0 1 (by omega) (by omega) (show wA 0 p + rA 0 p ≤ 6 by omega)
  have s1 := L6_0_step (m + 4) (by omega) p (execs p) hp'.1 hl (m + 2) 1 (1 * wayN (wA 0 p) (rA 0 p)) (by omega) (by omega) (show wA 1 p + rA 1 p ≤ 6 by omega)
  have s2 := L6_0_step (m + 4) (by omega) p (execs p) hp'.1 hl (m + 1) 2 (1 * wayN (wA 0 p) (rA 0 p) * wayN (wA 1 p) (rA 1 p)) (by omega) (by
    have := Nat.mul_le_mul b0 b1
    rw [Nat.one_mul]
    omega) (show wA 2 p + rA 2 p ≤ 6 by omega)
  have s3 : ∀ M : Nat, L6_0 (m + 4) (m + 1) (p, ()) (execs p) (M : Int) ((2 + 1 : Nat) : Int) = some (.inl (execs p, (M : Int), ())) := fun M => by
    rw [L6_0]
    rfl
  unfold J6_7
  have e : L6_0 (m + 4) (m + 4) (p, ()) (execs p) (1 : Int) (0 : Int) = _ := s0.trans (s1.trans (s2.trans (s3 _)))
  simp only [e]
  rw [decide_eq_true]
  rw [Nat.one_mul]
  exact Int.ofNat_le.mpr hc
theorem pure_FnExecCount (xs : pdens [.c false (.v true (.rs 5 (.int .u8)))]) (hg : GoodP 0 [.c false (.v true (.rs 5 (.int .u8)))] xs) : ∃ n, F6 n xs.1 = some (true, ()) := by
  obtain ⟨c, _⟩ := xs
  obtain ⟨⟨h1, h2⟩, _⟩ := hg
  refine ⟨2000000, ?_⟩
  have hn : 1048576 + 2000 < 2000000 := by omega
  generalize 2000000 = n at *
  unfold F6
  by_cases hc : (c.length : Int) > 1048576
  · simp only [hc, decide_true, cond_true]
  · simp only [hc, decide_false, cond_false]
    obtain ⟨q, k1, hq⟩ := F33_ok n (by omega) c (goodB (by omega) h2)
    obtain ⟨k2, k3⟩ := all_two n hn hq
    simp only [k1, k2, k3, Option.bind_some, bne_self_eq_false, cond_false]
    rw [F36_eq n (by omega) q, Option.bind_some]
    cases hp : progOk q
    · simp
    · simp only [Bool.not_true, cond_false, if_true]
      rw [J6_7_eq n (by omega) hp]
end Go.Proofs.Ytdacfaincamliaa.Ev
