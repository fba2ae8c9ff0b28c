/- What the two forms of OrderHas ask of two events, in plain words. Conditions: those of each theorem. -/
import Derived.Test.YtdacfaincamliaaQH
namespace Go.Proofs.Ytdacfaincamliaa.Ev
open Go
/-- What holds of readers' going in and out along the events: the state before each event. -/
structure Ins (n : Nat) (kd th : Nat → Int) (B : Nat → Bool) : Prop where
  zero : B 0 = false
  last : B n = false
  nx : ∀ k, k < n → B (k + 1) = (decide (kd k = 7) || (B k && !decide (kd k = 8)))
  gone : ∀ k, k < n → kd k = 8 → B k = true
  into : ∀ k, k < n → kd k = 7 → B k = false
  cut : ∀ k, k + 1 < n → B (k + 1) = true → th (k + 1) = th k

section
variable {n : Nat} {kd th : Nat → Int} {B : Nat → Bool} (H : Ins n kd th B)
include H
theorem Ins.up : ∀ (m i : Nat), i + m ≤ n → B i = false → B (i + m) = true → ∃ k, i ≤ k ∧ k < i + m ∧ kd k = 7
  | 0, i, _, h1, h2 => by rw [Nat.add_zero, h1] at h2; cases h2
  | m + 1, i, hi, h1, h2 => by
    cases h : B (i + 1)
    · obtain ⟨k, a, b, c⟩ := Ins.up m (i + 1) (by omega) h (by rw [show i + 1 + m = i + (m + 1) by omega]; exact h2)
      exact ⟨k, by omega, by omega, c⟩
    · rw [H.nx i (by omega), h1, Bool.false_and, Bool.or_false, decide_eq_true_eq] at h
      exact ⟨i, by omega, by omega, h⟩
theorem Ins.down : ∀ (m i : Nat), i + m ≤ n → B i = true → B (i + m) = false → ∃ k, i ≤ k ∧ k < i + m ∧ kd k = 8
  | 0, i, _, h1, h2 => by rw [Nat.add_zero, h1] at h2; cases h2
  | m + 1, i, hi, h1, h2 => by
    cases h : B (i + 1)
    · rw [H.nx i (by omega), h1, Bool.true_and] at h
      by_cases h8 : kd i = 8
      · exact ⟨i, by omega, by omega, h8⟩
      · rw [decide_eq_false h8] at h; simp at h
    · obtain ⟨k, a, b, c⟩ := Ins.down m (i + 1) (by omega) h (by rw [show i + 1 + m = i + (m + 1) by omega]; exact h2)
      exact ⟨k, by omega, by omega, c⟩
theorem Ins.fst : ∀ (m i : Nat), i + m = n → B i = true → ∃ g, i ≤ g ∧ g < n ∧ kd g = 8 ∧ ∀ j, i ≤ j → j < g → kd j ≠ 8
  | 0, i, hi, h1 => by have := H.last; rw [← hi, Nat.add_zero, h1] at this; cases this
  | m + 1, i, hi, h1 => by
    by_cases h8 : kd i = 8
    · exact ⟨i, by omega, by omega, h8, fun j a b => by omega⟩
    · have h : B (i + 1) = true := by rw [H.nx i (by omega), h1, decide_eq_false h8]; simp
      obtain ⟨g, a, b, c, d⟩ := Ins.fst m (i + 1) (by omega) h
      refine ⟨g, by omega, b, c, fun j e f => ?_⟩
      by_cases hj : j = i
      · rw [hj]; exact h8
      · exact d j (by omega) f
end

def fwdL (kd : Nat → Int) : Nat → Nat → Nat
  | 0, k => k
  | m + 1, k => if kd k = 8 then k else fwdL kd m (k + 1)
theorem fwdL_is (kd : Nat → Int) : ∀ (m k g : Nat), k ≤ g → g < k + m → kd g = 8 → (∀ j, k ≤ j → j < g → kd j ≠ 8) → fwdL kd m k = g
  | 0, k, g, h1, h2, _, _ => by omega
  | m + 1, k, g, h1, h2, h3, h4 => by
    unfold fwdL
    by_cases e : k = g
    · rw [e, if_pos h3]
    · rw [if_neg (h4 k (by omega) (by omega))]
      exact fwdL_is kd m (k + 1) g (by omega) (by omega) h3 fun j a b => h4 j (by omega) b
def backL (kd th : Nat → Int) (a : Nat) : Nat → Option Nat
  | 0 => if kd 0 = 7 then some 0 else none
  | f + 1 => if kd (f + 1) = 7 then some (f + 1) else if f + 1 ≠ a ∧ kd (f + 1) = 8 then none else if th f ≠ th a then none else backL kd th a f
theorem backL_in (kd th : Nat → Int) (a f : Nat) (h : kd f = 7) : backL kd th a f = some f := by
  cases f <;> (unfold backL; rw [if_pos h])
def insB (kd : Nat → Int) (fr to : Bool) : Nat → Nat → Bool
  | 0, _ => true
  | m + 1, k => !(fr && decide (kd k = 8) || to && decide (kd k = 7)) && insB kd fr to m (k + 1)
theorem insB_iff (kd : Nat → Int) (fr to : Bool) : ∀ (m k : Nat), insB kd fr to m k = true ↔ ∀ j, k ≤ j → j < k + m → ¬(fr = true ∧ kd j = 8 ∨ to = true ∧ kd j = 7)
  | 0, k => ⟨fun _ j h1 h2 => by omega, fun _ => rfl⟩
  | m + 1, k => by
    unfold insB
    rw [Bool.and_eq_true, insB_iff kd fr to m (k + 1)]
    simp only [Bool.not_eq_true', Bool.or_eq_false_iff, Bool.and_eq_false_iff, decide_eq_false_iff_not]
    constructor
    · rintro ⟨h1, h2⟩ j h3 h4
      by_cases e : j = k
      · subst e
        rintro (⟨h5, h6⟩ | ⟨h5, h6⟩)
        · rcases h1.1 with h | h
          · rw [h] at h5; cases h5
          · exact h h6
        · rcases h1.2 with h | h
          · rw [h] at h5; cases h5
          · exact h h6
      · exact h2 j (by omega) (by omega)
    · intro h
      refine ⟨?_, fun j h3 h4 => h j (by omega) (by omega)⟩
      have := h k (by omega) (by omega)
      constructor
      · cases fr
        · exact .inl rfl
        · exact .inr fun e => this (.inl ⟨rfl, e⟩)
      · cases to
        · exact .inl rfl
        · exact .inr fun e => this (.inr ⟨rfl, e⟩)
section
variable {n : Nat} {kd th : Nat → Int} {B : Nat → Bool} (H : Ins n kd th B)
include H
theorem Ins.back (a : Nat) (ha : a < n) : ∀ k, k ≤ a → kd k ≠ 7 → (k = a ∨ kd k ≠ 8) → B k = true → th k = th a → ∃ f, f < k ∧ backL kd th a k = some f ∧ kd f = 7 ∧ ∀ j, f < j → j < k → kd j ≠ 8
  | 0, _, _, _, h, _ => by rw [H.zero] at h; cases h
  | k + 1, h1, h2, h3, h4, h5 => by
    have hc := H.cut k (by omega) h4
    have e : backL kd th a (k + 1) = backL kd th a k := by
      rw [backL, if_neg h2, if_neg (by omega), if_neg (by rw [← h5, hc]; simp)]
    rw [e]
    by_cases h7 : kd k = 7
    · exact ⟨k, by omega, backL_in kd th a k h7, h7, fun j a b => by omega⟩
    · rw [H.nx k (by omega), decide_eq_false h7, Bool.false_or, Bool.and_eq_true] at h4
      have h8 : kd k ≠ 8 := by have := h4.2; simpa using this
      obtain ⟨f, i1, i2, i3, i4⟩ := Ins.back a ha k (by omega) h7 (.inr h8) h4.1 (by rw [← hc]; exact h5)
      refine ⟨f, by omega, i2, i3, fun j h9 h10 => ?_⟩
      by_cases ej : j = k
      · rw [ej]; exact h8
      · exact i4 j h9 (by omega)
theorem Ins.none_ (a : Nat) (ha : a < n) : ∀ k, k ≤ a → kd k ≠ 7 → (k = a → B k = false) → (k < a → kd k = 8 ∨ B k = false) → backL kd th a k = none
  | 0, _, h, _, _ => by unfold backL; rw [if_neg h]
  | k + 1, h1, h2, h3, h4 => by
    rw [backL, if_neg h2]
    by_cases h5 : k + 1 ≠ a ∧ kd (k + 1) = 8
    · rw [if_pos h5]
    · rw [if_neg h5]
      by_cases h6 : th k ≠ th a
      · rw [if_pos h6]
      · rw [if_neg h6]
        have hB : B (k + 1) = false := by
          by_cases e : k + 1 = a
          · exact h3 e
          · rcases h4 (by omega) with h | h
            · exact absurd ⟨e, h⟩ h5
            · exact h
        rw [H.nx k (by omega), Bool.or_eq_false_iff, decide_eq_false_iff_not] at hB
        refine Ins.none_ a ha k (by omega) hB.1 (fun e => by omega) fun _ => ?_
        rcases Bool.and_eq_false_iff.mp hB.2 with h | h
        · exact .inr h
        · left; simpa using h
/-- Both forms of standing between a reader's going in and out. -/
theorem Ins.both (a b : Nat) (hab : a < b) (hb : b < n) (hk : kd a = 7 ∨ kd b = 8) :
    (match backL kd th a a with | none => false | some f => decide (a ≤ fwdL kd (n - f) f) && (decide (f ≤ a) && (decide (b ≤ fwdL kd (n - f) f) && (decide (kd a = 7) || decide (b = fwdL kd (n - f) f))))) = insB kd (decide (kd a = 7)) (decide (kd b = 8)) (b - a - 1) (a + 1) := by
  have key : ∀ {x y : Bool}, (x = true ↔ y = true) → x = y := by intro x y h; cases x <;> cases y <;> simp_all
  apply key
  rw [insB_iff]
  by_cases h7 : kd a = 7
  · rw [backL_in kd th a a h7]
    have hB : B (a + 1) = true := by rw [H.nx a (by omega), decide_eq_true h7]; rfl
    obtain ⟨g, g1, g2, g3, g4⟩ := H.fst (n - (a + 1)) (a + 1) (by omega) hB
    have e : fwdL kd (n - a) a = g := fwdL_is kd _ _ _ (by omega) (by omega) g3 fun j i1 i2 => by
      by_cases ej : j = a
      · rw [ej, h7]; decide
      · exact g4 j (by omega) i2
    simp only [e, decide_eq_true h7, Bool.true_or, Bool.and_true, Nat.le_refl, decide_true, Bool.true_and, Bool.and_eq_true, decide_eq_true_eq, true_and]
    constructor
    · rintro ⟨i1, i2⟩ j i3 i4 (i5 | ⟨_, i5⟩)
      · exact g4 j i3 (by omega) i5
      · have f1 := H.into j (by omega) i5
        obtain ⟨k, k1, k2, k3⟩ := H.down (j - (a + 1)) (a + 1) (by omega) hB (by rw [show a + 1 + (j - (a + 1)) = j by omega]; exact f1)
        exact g4 k k1 (by omega) k3
    · intro i
      refine ⟨by omega, ?_⟩
      rcases Nat.lt_or_ge g b with h | h
      · exact absurd (.inl g3) (i g (by omega) (by omega))
      · exact h
  · have h8 : kd b = 8 := by rcases hk with h | h; exact absurd h h7; exact h
    have hBb := H.gone b hb h8
    have hBa : B (a + 1) = (B a && !decide (kd a = 8)) := by rw [H.nx a (by omega), decide_eq_false h7, Bool.false_or]
    simp only [decide_eq_false h7, decide_eq_true h8, Bool.false_or, Bool.false_eq_true, false_and, false_or, true_and]
    cases hba : B a
    · rw [H.none_ a (by omega) a (by omega) h7 (fun _ => hba) (fun h => by omega)]
      rw [hba, Bool.false_and] at hBa
      obtain ⟨k, k1, k2, k3⟩ := H.up (b - (a + 1)) (a + 1) (by omega) hBa (by rw [show a + 1 + (b - (a + 1)) = b by omega]; exact hBb)
      exact ⟨fun h => absurd (show false = true from h) (by decide), fun i => absurd k3 (i k (by omega) (by omega))⟩
    · obtain ⟨f, f1, f2, f3, f4⟩ := H.back a (by omega) a (by omega) h7 (.inl rfl) hba rfl
      rw [f2]
      have hBf : B (f + 1) = true := by rw [H.nx f (by omega), decide_eq_true f3]; rfl
      obtain ⟨g, g1, g2, g3, g4⟩ := H.fst (n - (f + 1)) (f + 1) (by omega) hBf
      have e : fwdL kd (n - f) f = g := fwdL_is kd _ _ _ (by omega) (by omega) g3 fun j i1 i2 => by
        by_cases ej : j = f
        · rw [ej, f3]; decide
        · exact g4 j (by omega) i2
      have hag : a ≤ g := by
        rcases Nat.lt_or_ge g a with h | h
        · exact absurd g3 (f4 g (by omega) h)
        · exact h
      simp only [e, Bool.and_eq_true, decide_eq_true_eq]
      by_cases ha8 : kd a = 8
      · rw [hba, decide_eq_true ha8, Bool.not_true, Bool.and_false] at hBa
        obtain ⟨k, k1, k2, k3⟩ := H.up (b - (a + 1)) (a + 1) (by omega) hBa (by rw [show a + 1 + (b - (a + 1)) = b by omega]; exact hBb)
        refine ⟨fun h => ?_, fun i => absurd k3 (i k (by omega) (by omega))⟩
        rcases Nat.lt_or_ge a g with h1 | h1
        · exact absurd ha8 (g4 a (by omega) h1)
        · omega
      · rw [hba, decide_eq_false ha8, Bool.not_false, Bool.and_true] at hBa
        constructor
        · rintro ⟨_, _, _, i4⟩ j i5 i6 i7
          have f1 := H.into j (by omega) i7
          obtain ⟨k, k1, k2, k3⟩ := H.down (j - (a + 1)) (a + 1) (by omega) hBa (by rw [show a + 1 + (j - (a + 1)) = j by omega]; exact f1)
          exact g4 k (by omega) (by omega) k3
        · intro i
          have hbg : b = g := by
            rcases Nat.lt_trichotomy g b with h | h | h
            · have h9 : g ≠ a := fun e9 => ha8 (by rw [← e9]; exact g3)
              have hBg : B (g + 1) = false := by
                rw [H.nx g (by omega), g3]
                simp
              obtain ⟨k, k1, k2, k3⟩ := H.up (b - (g + 1)) (g + 1) (by omega) hBg (by rw [show g + 1 + (b - (g + 1)) = b by omega]; exact hBb)
              exact absurd k3 (i k (by omega) (by omega))
            · exact h.symm
            · exact absurd h8 (g4 b (by omega) h)
          exact ⟨hag, by omega, by omega, hbg⟩
end
def nxtB (b : Bool) (d : D3) : Bool := decide (d.1 = 7) || (b && !decide (d.1 = 8))
/-- The state along events: who is in goes out, in the same thread. -/
def Sq : Bool → List Q4 → Prop
  | b, [] => b = false
  | b, x :: l => (x.2.1 = 8 → b = true) ∧ (x.2.1 = 7 → b = false) ∧ (nxtB b x.2 = true → ∃ y l', l = y :: l' ∧ y.1.1 = x.1.1) ∧ Sq (nxtB b x.2) l
theorem thRun_step {d : D3} {l : List D3} {r b c : Bool} (h : thRun (d :: l) r b = some c) : ∃ r', thRun l r' (nxtB b d) = some c ∧ (d.1 = 8 → b = true) ∧ (d.1 = 7 ∨ d.1 = 9 → b = false) := by
  unfold thRun at h
  cases hs : thStep d r b with
  | none => rw [hs] at h; cases h
  | some q =>
    rw [hs] at h
    unfold thStep at hs
    by_cases hc : (!formed d || ((decide (d.1 = 3) && !r) || ((b && (decide (d.1 = 7) || decide (d.1 = 9))) || (!b && decide (d.1 = 8))))) = true
    · rw [if_pos hc] at hs; cases hs
    · rw [if_neg hc] at hs
      injection hs with hs
      refine ⟨q.1, by rw [← hs] at h ⊢; exact h, fun h8 => ?_, fun h7 => ?_⟩
      · cases b
        · exact absurd (by rw [decide_eq_true h8]; simp) hc
        · rfl
      · cases b
        · rfl
        · refine absurd ?_ hc
          rcases h7 with h7 | h7 <;> rw [decide_eq_true h7] <;> simp
theorem evqT_sq (t : Nat) (R : List Q4) (hR : Sq false R) : ∀ (l : List D3) (i : Nat) (r b : Bool), thRun l r b = some false → Sq b (evqT t i l ++ R)
  | [], i, r, b, h => by
    injection h with h
    rw [h]; exact hR
  | d :: l, i, r, b, h => by
    obtain ⟨r', h1, h2, h3⟩ := thRun_step h
    have ih := evqT_sq t R hR l (i + 1) r' (nxtB b d) h1
    have hl : nxtB b d = true → ∃ y l', evqT t (i + 1) l ++ R = y :: l' ∧ y.1.1 = t := by
      intro hn
      cases l with
      | nil => rw [hn] at h1; cases h1
      | cons e l => exact ⟨_, _, rfl, rfl⟩
    simp only [evqT, List.cons_append]
    by_cases h9 : d.1 = 9
    · rw [if_pos h9]
      have hb := h3 (.inr h9)
      have hn : nxtB b d = false := by
        rw [hb]; unfold nxtB; rw [decide_eq_false (by omega)]; rfl
      rw [hn] at ih
      refine ⟨h2, fun h => h3 (.inl h), fun (h : nxtB b d = true) => (by rw [hn] at h; cases h), ?_⟩
      show Sq (nxtB b d) _
      rw [hn]
      refine ⟨fun h => ?_, fun _ => rfl, fun h => ?_, ?_⟩
      · have h : d.1 = 8 := h; omega
      · have h : nxtB false d = true := h
        rw [← hb, hn] at h; cases h
      · show Sq (nxtB false d) _
        rw [← hb, hn]; exact ih
    · rw [if_neg h9]
      exact ⟨h2, fun h => h3 (.inl h), hl, ih⟩
theorem evqP_sq : ∀ (p : List (List D3)) (t : Nat), (∀ s, s ∈ p → thOk s = true) → Sq false (evqP t p)
  | [], t, _ => rfl
  | s :: p, t, h => by
    have h1 := h s (by simp)
    unfold thOk at h1
    simp only [Bool.and_eq_true] at h1
    refine evqT_sq t _ (evqP_sq p (t + 1) fun s hs => h s (by simp [hs])) s 0 false false ?_
    cases hr : thRun s false false with
    | none => rw [hr] at h1; exact absurd h1.2 (by decide)
    | some c =>
      rw [hr] at h1
      have h2 := h1.2
      cases c
      · rfl
      · cases h2
theorem Sq.at_ : ∀ (l : List Q4) (b : Bool), Sq b l → ∀ k, k < l.length → Sq (((l.map Prod.snd).take k).foldl nxtB b) (l.drop k)
  | [], _, _, k, h => by simp at h
  | x :: l, b, h, 0, _ => h
  | x :: l, b, h, k + 1, hk => by
    by_cases e : k < l.length
    · exact Sq.at_ l (nxtB b x.2) h.2.2.2 k e
    · simp at hk; omega
theorem Sq.end_ : ∀ (l : List Q4) (b : Bool), Sq b l → (l.map Prod.snd).foldl nxtB b = false
  | [], _, h => h
  | x :: l, b, h => Sq.end_ l (nxtB b x.2) h.2.2.2
theorem ins_ok {p : List (List D3)} (hs : ∀ s, s ∈ p → thOk s = true) : Ins (dsP p).length (fun k => ((dsP p).getD k D0).1) (fun k => ((evP 0 p).getD k E0).1) (fun k => ((dsP p).take k).foldl nxtB false) := by
  have hq : (dsP p).length = (evqP 0 p).length := by unfold dsP; rw [List.length_map]
  have S := evqP_sq p 0 hs
  have hat : ∀ k, k < (dsP p).length → Sq (((dsP p).take k).foldl nxtB false) ((evqP 0 p).getD k (E0, D0) :: (evqP 0 p).drop (k + 1)) := fun k hk => by
    rw [← getD_drop _ k (E0, D0) (by omega)]
    exact Sq.at_ _ _ S k (by omega)
  have hkd : ∀ k, k < (dsP p).length → ((evqP 0 p).getD k (E0, D0)).2 = (dsP p).getD k D0 := fun k hk => by
    unfold dsP; rw [getD_map _ _ k (E0, D0) _ (by omega)]
  have hnx : ∀ k, k < (dsP p).length → ((dsP p).take (k + 1)).foldl nxtB false = nxtB (((dsP p).take k).foldl nxtB false) ((dsP p).getD k D0) := fun k hk => by
    rw [List.take_succ_eq_append_getElem hk, List.foldl_append, List.getD_eq_getElem?_getD, List.getElem?_eq_getElem hk]
    rfl
  have hth : ∀ k, k < (dsP p).length → ((evP 0 p).getD k E0).1 = ((evqP 0 p).getD k (E0, D0)).1.1 := fun k hk => by rw [← evqP_fst, getD_map _ _ _ (E0, D0) _ (by omega)]
  refine ⟨rfl, ?_, fun k hk => hnx k hk, fun k hk h8 => ?_, fun k hk h7 => ?_, fun k hk hb => ?_⟩
  · show ((dsP p).take (dsP p).length).foldl nxtB false = false
    rw [List.take_length]; exact Sq.end_ _ _ S
  · exact (hat k hk).1 (by rw [hkd k hk]; exact h8)
  · exact (hat k hk).2.1 (by rw [hkd k hk]; exact h7)
  · obtain ⟨y, l', h1, h2⟩ := (hat k (by omega)).2.2.1 (by rw [hkd k (by omega), ← hnx k (by omega)]; exact hb)
    rw [getD_drop _ (k + 1) (E0, D0) (by omega)] at h1
    injection h1 with h1 _
    show ((evP 0 p).getD (k + 1) E0).1 = ((evP 0 p).getD k E0).1
    rw [hth (k + 1) hk, hth k (by omega), h1]; exact h2
/-- Where a number stands first in a row; -1 if it is not there. -/
def idxF (x : Int) : Nat → List Int → Int
  | _, [] => -1
  | i, y :: l => if y = x then (i : Int) else idxF x (i + 1) l
def rowOf (ord : List (List Int)) (d : D3) : List Int := ord.getD d.2.1.toNat []
def wallB (d : D3) : Bool := decide (d.1 = 4) || decide (d.1 = 9)
def ownB (evs : List E3) (a b : Nat) : Bool := decide (a < b) && decide ((evs.getD a E0).1 = (evs.getD b E0).1)
def apB (evs : List E3) (a b : Nat) : Bool := !decide ((evs.getD a E0).1 = (evs.getD b E0).1)
def rkS (ds : List D3) (x : Xn) (k : Nat) : Int :=
  if wr (ds.getD k D0) then idxF (k : Int) 0 (rowOf x.2 (ds.getD k D0)) else if rd (ds.getD k D0) then idxF (x.1.getD k 0) 0 (rowOf x.2 (ds.getD k D0)) else 0
def sameS (ds : List D3) (a b : Nat) : Bool := us (ds.getD a D0) && (us (ds.getD b D0) && decide ((ds.getD a D0).2.1 = (ds.getD b D0).2.1))
def overS (ds : List D3) (x : Xn) (a b : Nat) : Bool := wr (ds.getD b D0) && (!decide (a = b) && (sameS ds a b && decide (rkS ds x a < rkS ds x b)))
def overI (ds : List D3) (x : Xn) (a b : Nat) : Bool :=
  if decide (a = b) || (!us (ds.getD a D0) || (!wr (ds.getD b D0) || !decide ((ds.getD a D0).2.1 = (ds.getD b D0).2.1))) then false
  else decide (idxF (if rd (ds.getD a D0) then x.1.getD a 0 else (a : Int)) 0 (rowOf x.2 (ds.getD b D0)) < idxF (b : Int) 0 (rowOf x.2 (ds.getD b D0)))
theorem wr_not {d : D3} (h : wr d = true) : rd d = false ∧ us d = true := by
  unfold us
  rw [h, Bool.or_true]
  unfold wr at h
  simp only [Bool.or_eq_true, decide_eq_true_eq] at h
  refine ⟨?_, rfl⟩
  unfold rd
  rw [decide_eq_false (by omega), decide_eq_false (by omega)]; rfl
theorem over_eq (ds : List D3) (x : Xn) (a b : Nat) : overI ds x a b = overS ds x a b := by
  unfold overI overS sameS
  by_cases hb : wr (ds.getD b D0) = true
  · have hb2 := wr_not hb
    rw [hb, hb2.2]
    by_cases e : a = b
    · rw [decide_eq_true e]; simp
    · rw [decide_eq_false e]
      by_cases hp : (ds.getD a D0).2.1 = (ds.getD b D0).2.1
      · rw [decide_eq_true hp]
        have hr : rowOf x.2 (ds.getD a D0) = rowOf x.2 (ds.getD b D0) := by unfold rowOf; rw [hp]
        by_cases ha : wr (ds.getD a D0) = true
        · have ha2 := wr_not ha
          unfold rkS
          rw [ha2.2, ha2.1, ha, hb, hr]
          simp
        · have ha' : wr (ds.getD a D0) = false := by simpa using ha
          by_cases hra : rd (ds.getD a D0) = true
          · have hu : us (ds.getD a D0) = true := by unfold us; rw [hra]; rfl
            unfold rkS
            rw [hu, hra, ha', hb, hr]
            simp
          · have hra' : rd (ds.getD a D0) = false := by simpa using hra
            have hu : us (ds.getD a D0) = false := by unfold us; rw [hra', ha']; rfl
            rw [hu]
            simp
      · rw [decide_eq_false hp]; simp
  · have hb' : wr (ds.getD b D0) = false := by simpa using hb
    rw [hb']; simp
def readI (x : Xn) (a b : Nat) : Bool := decide (x.1.getD b 0 = (a : Int))
def readS (ds : List D3) (x : Xn) (a b : Nat) : Bool := wr (ds.getD a D0) && (rd (ds.getD b D0) && readI x a b)
theorem frB_not {f : Int → Int → Bool} : ∀ (l : List D3) (r : List Int), r.length = l.length → frB f l r = true → ∀ a, a < l.length → rd (l.getD a D0) = false → r.getD a 0 = -2
  | [], _, _, _, a, ha, _ => by simp at ha
  | d :: l, [], h, _, _, _, _ => by simp at h
  | d :: l, x :: r, hl, h, a, ha, hr => by
    simp only [frB, Bool.and_eq_true] at h
    cases a with
    | zero =>
      have hr : rd d = false := hr
      have h1 := h.1
      rw [hr, if_neg (by decide), decide_eq_true_eq] at h1
      exact h1
    | succ a => exact frB_not l r (by simpa using hl) h.2 a (by simpa using ha) hr
theorem read_eq {ds : List D3} (hf : ∀ d, d ∈ ds → formed d = true) {x : Xn} (h : formB ds x = true) (a b : Nat) (hb : b < ds.length) : readI x a b = readS ds x a b := by
  have hfit := formB_fit hf h
  rw [formB_eq hf] at h
  simp only [Bool.and_eq_true, decide_eq_true_eq] at h
  unfold readS readI
  by_cases e : x.1.getD b 0 = (a : Int)
  · rw [decide_eq_true e, Bool.and_true]
    cases hr : rd (ds.getD b D0)
    · have := frB_not ds x.1 h.1 h.2.2.1 b hb hr
      omega
    · rcases hfit.2 b hb hr with h1 | ⟨c, h1, h2, h3⟩
      · omega
      · have : c = a := by omega
        rw [← this, h3]; rfl
  · rw [decide_eq_false e, Bool.and_false, Bool.and_false]
/-- Between in and out, as the written form asks it; and as the code does. -/
def insS (ds : List D3) (a b : Nat) : Bool := (decide ((ds.getD a D0).1 = 7) || decide ((ds.getD b D0).1 = 8)) && insB (fun k => (ds.getD k D0).1) (decide ((ds.getD a D0).1 = 7)) (decide ((ds.getD b D0).1 = 8)) (b - a - 1) (a + 1)
def insI (evs : List E3) (ds : List D3) (a : Nat) : Option (Nat × Nat) := (backL (fun k => (ds.getD k D0).1) (fun k => (evs.getD k E0).1) a a).map fun f => (f, fwdL (fun k => (ds.getD k D0).1) (ds.length - f) f)
def looseS (ds : List D3) (a b : Nat) : Bool :=
  wallB (ds.getD a D0) || (wallB (ds.getD b D0) || (decide ((ds.getD a D0).1 = 5) || (decide ((ds.getD b D0).1 = 6) || (insS ds a b || (decide ((ds.getD b D0).1 = 3) && decide (lastRd ds b = a))))))
def looseI (evs : List E3) (ds : List D3) (a b : Nat) : Bool :=
  if wallB (ds.getD a D0) || wallB (ds.getD b D0) then true
  else if decide ((ds.getD a D0).1 = 5) || decide ((ds.getD b D0).1 = 6) then true
  else if decide ((ds.getD b D0).1 = 3) && decide (lastRd ds b = a) then true
  else if !decide ((ds.getD a D0).1 = 7) && !decide ((ds.getD b D0).1 = 8) then false
  else match insI evs ds a with
    | none => false
    | some g => decide (a ≤ g.2) && (decide (g.1 ≤ a) && (decide (b ≤ g.2) && (decide ((ds.getD a D0).1 = 7) || decide (b = g.2))))
theorem loose_eq {p : List (List D3)} (hs : ∀ s, s ∈ p → thOk s = true) (a b : Nat) (hab : a < b) (hb : b < (dsP p).length) : looseI (evP 0 p) (dsP p) a b = looseS (dsP p) a b := by
  have key := (ins_ok hs).both a b hab hb
  unfold looseI looseS insS
  cases wallB ((dsP p).getD a D0)
  · cases wallB ((dsP p).getD b D0)
    · cases decide (((dsP p).getD a D0).1 = 5)
      · cases decide (((dsP p).getD b D0).1 = 6)
        · cases decide (((dsP p).getD b D0).1 = 3) && decide (lastRd (dsP p) b = a)
          · by_cases hk : ((dsP p).getD a D0).1 = 7 ∨ ((dsP p).getD b D0).1 = 8
            · rw [← key hk]
              have h1 : (!decide (((dsP p).getD a D0).1 = 7) && !decide (((dsP p).getD b D0).1 = 8)) = false := by
                rcases hk with h | h <;> rw [decide_eq_true h] <;> simp
              have h2 : (decide (((dsP p).getD a D0).1 = 7) || decide (((dsP p).getD b D0).1 = 8)) = true := by
                rcases hk with h | h <;> rw [decide_eq_true h] <;> simp
              rw [h1, h2]
              unfold insI
              cases backL (fun k => ((dsP p).getD k D0).1) (fun k => ((evP 0 p).getD k E0).1) a a <;> simp
            · rw [decide_eq_false fun h => hk (.inl h), decide_eq_false fun h => hk (.inr h)]
              simp
          · simp
        · simp
      · simp
    · simp
  · simp
def hasS (evs : List E3) (ds : List D3) (x : Xn) (kind : Int) (a b : Nat) : Bool :=
  if kind = 1 then ownB evs a b || (readS ds x a b || overS ds x a b)
  else if kind = 2 then (ownB evs a b && !(wr (ds.getD a D0) && rd (ds.getD b D0))) || ((apB evs a b && readS ds x a b) || overS ds x a b)
  else (ownB evs a b && looseS ds a b) || (apB evs a b && (readS ds x a b || overS ds x a b))
def hasI (evs : List E3) (ds : List D3) (x : Xn) (kind : Int) (a b : Nat) : Bool :=
  if kind = 1 then ownB evs a b || (readI x a b || overI ds x a b)
  else if kind = 2 then (ownB evs a b && !(wr (ds.getD a D0) && rd (ds.getD b D0))) || ((readI x a b && apB evs a b) || overI ds x a b)
  else (ownB evs a b && looseI evs ds a b) || ((readI x a b || overI ds x a b) && apB evs a b)
theorem has_eq {p : List (List D3)} (hs : ∀ s, s ∈ p → thOk s = true) {x : Xn} (h : formB (dsP p) x = true) (kind : Int) (a b : Nat) (hb : b < (dsP p).length) : hasI (evP 0 p) (dsP p) x kind a b = hasS (evP 0 p) (dsP p) x kind a b := by
  unfold hasI hasS
  rw [over_eq, read_eq (dsP_formed hs) h a b hb]
  by_cases h1 : kind = 1
  · rw [if_pos h1, if_pos h1]
  · rw [if_neg h1, if_neg h1]
    by_cases h2 : kind = 2
    · rw [if_pos h2, if_pos h2, Bool.and_comm (readS _ _ _ _)]
    · rw [if_neg h2, if_neg h2, Bool.and_comm _ (apB _ _ _)]
      cases ho : ownB (evP 0 p) a b
      · rfl
      · unfold ownB at ho
        simp only [Bool.and_eq_true, decide_eq_true_eq] at ho
        rw [loose_eq hs a b ho.1 hb]
end Go.Proofs.Ytdacfaincamliaa.Ev
