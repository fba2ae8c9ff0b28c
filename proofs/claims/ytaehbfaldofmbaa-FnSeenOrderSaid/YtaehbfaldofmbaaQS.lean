/- What the draws of what was seen come to; how what was seen stands. Conditions: none. -/
import Derived.Test.YtaehbfaldofmbaaQP
import Derived.Test.YtaehbfaldofmbaaQB
import Derived.Test.YtaehbfaldofmbaaQC
namespace Go.Proofs.Ytaehbfaldofmbaa.Ev
open Go

theorem cmpL_swap : ∀ a b : List Int, cmpL b a = -cmpL a b
  | [], [] => rfl
  | [], _ :: _ => rfl
  | _ :: _, [] => rfl
  | x :: a, y :: b => by
    have := cmpL_swap a b
    simp only [cmpL]
    by_cases h1 : x < y
    · simp [h1, show ¬ y < x by omega]
    · by_cases h2 : y < x
      · simp [h1, h2]
      · simp [h1, h2, this]
theorem cmpL_zero : ∀ a b : List Int, cmpL a b = 0 ↔ a = b
  | [], [] => by simp [cmpL]
  | [], _ :: _ => by simp [cmpL]
  | _ :: _, [] => by simp [cmpL]
  | x :: a, y :: b => by
    have := cmpL_zero a b
    simp only [cmpL]
    by_cases h1 : x < y
    · simp only [h1, if_true]
      constructor
      · intro h; cases h
      · intro h; injection h with h _; omega
    · by_cases h2 : y < x
      · simp only [h1, if_false, show x > y from h2, if_true]
        constructor
        · intro h; cases h
        · intro h; injection h with h _; omega
      · have : x = y := by omega
        subst this
        simp [this, *]
theorem cmpL_trans : ∀ a b c : List Int, cmpL a b < 0 → cmpL b c < 0 → cmpL a c < 0
  | [], [], c, h, _ => by simp [cmpL] at h
  | [], _ :: _, [], _, h => by simp [cmpL] at h
  | [], _ :: _, _ :: _, _, _ => by simp [cmpL]
  | _ :: _, [], _, h, _ => by simp [cmpL] at h
  | _ :: _, _ :: _, [], _, h => by simp [cmpL] at h
  | x :: a, y :: b, z :: c, h1, h2 => by
    have ih := cmpL_trans a b c
    simp only [cmpL] at h1 h2 ⊢
    by_cases e1 : x < y
    · by_cases e2 : y < z
      · simp [show x < z by omega]
      · by_cases e3 : z < y
        · simp [e2, e3] at h2
        · simp [show x < z by omega]
    · by_cases e2 : y < x
      · simp [e1, e2] at h1
      · have : x = y := by omega
        subst this
        by_cases e3 : x < z
        · simp [e3]
        · by_cases e4 : z < x
          · simp [e3, e4] at h2
          · simp only [e1, if_false, show ¬ (x > x) by omega] at h1
            simp only [e3, if_false, show ¬ (x > z) from e4] at h2 ⊢
            exact ih h1 h2

theorem cmpS_zero (a b : Sn) : cmpS a b = 0 ↔ a = b := by
  unfold cmpS
  have h1 := cmpL_zero a.1 b.1
  have h2 := cmpL_zero a.2 b.2
  by_cases h : cmpL a.1 b.1 = 0
  · simp only [h, ne_eq, not_true_eq_false, if_false, h2]
    exact ⟨fun e => Prod.ext (h1.mp h) e, fun e => by rw [e]⟩
  · simp only [ne_eq, h, not_false_eq_true, if_true, false_iff]
    intro e; exact h (h1.mpr (by rw [e]))
theorem cmpS_swap (a b : Sn) : cmpS b a = -cmpS a b := by
  unfold cmpS
  rw [cmpL_swap a.1 b.1, cmpL_swap a.2 b.2]
  by_cases h : cmpL a.1 b.1 = 0
  · simp [h]
  · have : -cmpL a.1 b.1 ≠ 0 := by omega
    simp [h, this]
theorem cmpS_trans (a b c : Sn) (h1 : cmpS a b < 0) (h2 : cmpS b c < 0) : cmpS a c < 0 := by
  unfold cmpS at *
  by_cases e1 : cmpL a.1 b.1 = 0
  · have := (cmpL_zero _ _).mp e1
    rw [this]
    simp only [e1, ne_eq, not_true_eq_false, if_false] at h1
    by_cases e2 : cmpL b.1 c.1 = 0
    · simp only [e2, ne_eq, not_true_eq_false, if_false] at h2 ⊢
      exact cmpL_trans _ _ _ h1 h2
    · simp only [ne_eq, e2, not_false_eq_true, if_true] at h2 ⊢
      exact h2
  · simp only [ne_eq, e1, not_false_eq_true, if_true] at h1
    by_cases e2 : cmpL b.1 c.1 = 0
    · have := (cmpL_zero _ _).mp e2
      rw [← this]
      simp only [ne_eq, e1, not_false_eq_true, if_true]
      exact h1
    · simp only [ne_eq, e2, not_false_eq_true, if_true] at h2
      have := cmpL_trans _ _ _ h1 h2
      rw [if_pos (by omega)]
      exact this

theorem readsAllLe {p : List (List D3)} (h : progOk p = true) : readsAll p ≤ 21 := by
  have hl := progOk_len h
  obtain ⟨h1, h2⟩ := hl
  match p, h1, h2 with
  | [], _, _ => simp [readsAll]
  | [a], _, h2 => have := readsN_le a; have := h2 a (by simp); simp [readsAll]; omega
  | [a, b], _, h2 => have := readsN_le a; have := h2 a (by simp); have := readsN_le b; have := h2 b (by simp); simp [readsAll]; omega
  | [a, b, c], _, h2 => have := readsN_le a; have := h2 a (by simp); have := readsN_le b; have := h2 b (by simp); have := readsN_le c; have := h2 c (by simp); simp [readsAll]; omega
  | _ :: _ :: _ :: _ :: _, h1, _ => simp at h1

theorem L94_0_ok (n : Nat) (b : List Int) (hl : b.length ≤ 1000000) (o : List Int × List Int × Unit) (ls : List Int) : ∀ (m c : Nat) (p : Int) (k : Nat) (xs : List Int), c < m → Rd k b p → k + c ≤ 700000000 → xs.length + c ≤ 1000 →
    ∃ (ys : List Int) (p' : Int), L94_0 n m ((b, p), ()) o (xs, ls, ()) (c : Int) = some (.inl (((b, p'), ()), o, (ys, ls, ()), ())) ∧ Rd (k + c) b p' ∧ ys.length = xs.length + c
  | m + 1, 0, p, k, xs, hm, h, hk, hx => by
    unfold L94_0
    exact ⟨xs, p, rfl, h, by simp⟩
  | m + 1, c + 1, p, k, xs, hm, h, hk, hx => by
    unfold L94_0
    have e0 : decide (((c + 1 : Nat) : Int) > 0) = true := decide_eq_true (by omega)
    have e1 : IntKind.i64.wrap (((c + 1 : Nat) : Int) - 1) = (c : Int) := by rw [w64 (by omega) (by omega)]; omega
    obtain ⟨y, h1, h2, _⟩ := F90_ok n b p k 4 h (by omega) hl
    simp only [e0, cond_true, h1, Option.bind_some, e1, List.length_cons, List.length_nil]
    rw [if_pos (by omega)]
    obtain ⟨ys, p2, g1, g2, g3⟩ := L94_0_ok n b hl o ls m c (p + 1) (k + 1) (xs ++ [y]) (by omega) h2 (by omega) (by simp; omega)
    exact ⟨ys, p2, g1, g2.mono (by omega), by rw [g3]; simp; omega⟩

theorem L94_2_ok (n : Nat) (b : List Int) (hl : b.length ≤ 1000000) (o : List Int × List Int × Unit) (rs : List Int) : ∀ (m c i : Nat) (p : Int) (k : Nat) (xs : List Int), i + c = 3 → c < m → Rd k b p → k + c ≤ 700000000 → xs.length = i →
    ∃ (ys : List Int) (p' : Int), L94_2 n m ((b, p), ()) o (rs, xs, ()) (i : Int) = some (.inl (((b, p'), ()), o, (rs, ys, ()), ())) ∧ Rd (k + c) b p' ∧ ys.length = 3
  | m + 1, 0, i, p, k, xs, hi, hm, h, hk, hx => by
    have : i = 3 := by omega
    subst this
    unfold L94_2
    exact ⟨xs, p, rfl, h, hx⟩
  | m + 1, c + 1, i, p, k, xs, hi, hm, h, hk, hx => by
    unfold L94_2
    have e0 : decide ((i : Int) < 3) = true := decide_eq_true (by omega)
    obtain ⟨y, h1, h2, _⟩ := F90_ok n b p k 4 h (by omega) hl
    simp only [e0, cond_true, h1, Option.bind_some, List.length_cons, List.length_nil]
    rw [if_pos (by omega), w64s (k := 0) (by omega)]
    obtain ⟨ys, p2, g1, g2, g3⟩ := L94_2_ok n b hl o rs m c (i + 1) (p + 1) (k + 1) (xs ++ [y]) (by omega) (by omega) h2 (by omega) (by simp [hx])
    exact ⟨ys, p2, g1, g2.mono (by omega), g3⟩

theorem F94_ok (n : Nat) (hn : 1048576 < n) (b : List Int) (p : Int) (k : Nat) (q : List (List D3)) (h : Rd k b p) (hk : k ≤ 500000000) (hl : b.length ≤ 1000000) :
    ∃ (s : Sn) (p' : Int), F94 n ((b, p), ()) q = some (s, ((b, p'), ()), ()) ∧ Rd (k + 40) b p' ∧ s.1.length ≤ 30 ∧ s.2.length ≤ 3 := by
  unfold F94
  rw [F42_eq n hn q, Option.bind_some]
  -- the reads
  have reads : ∃ (ys : List Int) (p' : Int), L94_0 n n ((b, p), ()) ([], [], ()) ([], [], ()) (if progOk q = true then (readsAll q : Int) else -1) = some (.inl (((b, p'), ()), ([], [], ()), (ys, [], ()), ())) ∧ Rd (k + 21) b p' ∧ ys.length ≤ 21 := by
    by_cases hok : progOk q = true
    · have hr := readsAllLe hok
      obtain ⟨ys, p', h1, h2, h3⟩ := L94_0_ok n b hl ([], [], ()) [] n (readsAll q) p k [] (by omega) h (by omega) (by simp; omega)
      rw [if_pos hok]
      exact ⟨ys, p', h1, h2.mono (by omega), by simp at h3; omega⟩
    · rw [if_neg hok]
      obtain ⟨m, rfl⟩ : ∃ m, n = m + 1 := ⟨n - 1, by omega⟩
      refine ⟨[], p, ?_, h.mono (by omega), by simp⟩
      unfold L94_0
      rfl
  obtain ⟨ys, p1, r1, r2, r3⟩ := reads
  obtain ⟨zs, p2, s1, s2, s3⟩ := L94_2_ok n b hl ([], [], ()) ys n 3 0 p1 (k + 21) [] rfl (by omega) r2 (by omega) rfl
  have s1 : L94_2 n n ((b, p1), ()) ([], [], ()) (ys, [], ()) (0 : Int) = _ := s1
  obtain ⟨y, t1, t2, _⟩ := F90_ok n b p2 _ 16 s2 (by omega) hl
  simp only [r1, s1, t1, Option.bind_some, J94_17]
  cases y == (0 : Int)
  rotate_left
  · simp only [cond_true, List.length_cons, List.length_nil]
    rw [if_pos (by omega)]
    exact ⟨_, _, rfl, t2.mono (by omega), by simp; omega, by simp [s3]⟩
  simp only [cond_false]
  cases y == (1 : Int)
  rotate_left
  · obtain ⟨y3, i1, i2, i3, i4⟩ := F90_ok n b _ _ 2 t2 (by omega) hl
    have i4 := i4 (by omega)
    simp only [cond_true, i1, Option.bind_some, List.length_cons, List.length_nil, i3, if_true]
    rw [if_pos (by omega), if_pos (by omega), if_pos (by simp [s3])]
    exact ⟨_, _, rfl, i2.mono (by omega), by show ys.length ≤ 30; omega, by simp [s3]⟩
  simp only [cond_false]
  cases y == (2 : Int)
  rotate_left
  · simp only [cond_true]
    rw [if_pos (by simp [s3])]
    exact ⟨_, _, rfl, t2.mono (by omega), by show ys.length ≤ 30; omega, by simp [s3]⟩
  exact ⟨_, _, rfl, t2.mono (by omega), by show ys.length ≤ 30; omega, by simp [s3]⟩

theorem F46_ok (n : Nat) (hn : 1048576 < n) (c : List Int) (hc : Bytes c) : ∃ s t : Sn, F46 n c = some (s, t, ()) ∧ SmallS s ∧ SmallS t := by
  unfold F46
  obtain ⟨b, h1, h2, h3⟩ := F88_ok n c hc
  obtain ⟨q, p1, g1, g2, g3⟩ := F89_ok n hn b 0 0 h2 (by omega) h3
  obtain ⟨s, p2, i1, i2, i3, i4⟩ := F94_ok n hn b p1 _ q g2 (by omega) h3
  obtain ⟨t, p3, j1, j2, j3, j4⟩ := F94_ok n hn b p2 _ q i2 (by omega) h3
  obtain ⟨y, l1, l2, _⟩ := F90_ok n b p3 _ 2 j2 (by omega) h3
  obtain ⟨s1, s2⟩ := s
  obtain ⟨t1, t2⟩ := t
  simp only [h1, g1, i1, j1, l1, Option.bind_some, J46_7]
  simp only at i3 i4 j3 j4
  cases y == (0 : Int)
  · exact ⟨_, _, rfl, ⟨by simp; omega, by simp; omega⟩, ⟨by simp; omega, by simp; omega⟩⟩
  · simp only [cond_true]
    rw [if_pos (by omega)]
    exact ⟨_, _, rfl, ⟨by simp; omega, by simp; omega⟩, ⟨by simp; omega, by simp; omega⟩⟩
end Go.Proofs.Ytaehbfaldofmbaa.Ev
