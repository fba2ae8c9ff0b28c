/- The law FnExactExecAll's function answers true. Conditions: none. -/
import Derived.Test.YtdacfaincamliaaG13
import Derived.Test.YtdacfaincamliaaQ34
import Derived.Test.YtdacfaincamliaaQK
import Derived.Test.YtdacfaincamliaaEvRow
namespace Go.Proofs.Ytdacfaincamliaa.Ev
open Go

theorem neg_false {r : Int} (h : 0 ≤ r) : decide (r < 0) = false := decide_eq_false (by omega)
/-- Rows that are marked. -/
def mkII : List (List Int) → Int → List (List Int)
  | [], _ => []
  | t :: l, k => mkI t.length k :: mkII l (k + t.length)
def cntII : List (List Int) → Nat
  | [] => 0
  | t :: l => t.length + cntII l
def mkX : List Xn → Int → List Xn
  | [], _ => []
  | x :: l, k => (mkI x.1.length k, mkII x.2 (k + x.1.length)) :: mkX l (k + x.1.length + cntII x.2)
def cntX : List Xn → Nat
  | [] => 0
  | x :: l => x.1.length + cntII x.2 + cntX l
theorem mkII_len : ∀ (l : List (List Int)) (k : Int), (mkII l k).length = l.length
  | [], _ => rfl
  | t :: l, k => by rw [mkII, List.length_cons, mkII_len l, List.length_cons]
theorem mkX_len : ∀ (l : List Xn) (k : Int), (mkX l k).length = l.length
  | [], _ => rfl
  | t :: l, k => by rw [mkX, List.length_cons, mkX_len l, List.length_cons]
theorem cntII_le : ∀ l : List (List Int), (∀ r ∈ l, r.length ≤ 1000) → cntII l ≤ 1000 * l.length
  | [], _ => by simp [cntII]
  | t :: l, h => by
    have h1 := h t (by simp)
    have h2 := cntII_le l fun r hr => h r (by simp [hr])
    rw [cntII, List.length_cons]
    omega
def SmX (x : Xn) : Prop := x.1.length ≤ 1000 ∧ x.2.length ≤ 3 ∧ ∀ r ∈ x.2, r.length ≤ 1000
theorem cntX_le : ∀ l : List Xn, (∀ x ∈ l, SmX x) → cntX l ≤ 4000 * l.length
  | [], _ => by simp [cntX]
  | x :: l, h => by
    obtain ⟨h1, h2, h3⟩ := h x (by simp)
    have h4 := cntII_le x.2 h3
    have h5 := cntX_le l fun r hr => h r (by simp [hr])
    rw [cntX, List.length_cons]
    omega

theorem L90m_eq (n : Nat) (hn : 1048576 < n) : ∀ (q : List (List Int)) (m i : Nat) (k : Int) (xs : List (List Int)), xs.length ≤ 1048576 → xs.drop i = q → i + q.length = xs.length → q.length < m → 0 ≤ k → k + 1048576 + 1000 * q.length ≤ 9223372036854775807 → (∀ t ∈ q, t.length ≤ 1000) →
    L90_0 n m xs k (i : Int) = some (.inl (xs.take i ++ mkII q k, k + cntII q, ()))
  | [], m + 1, i, k, xs, hl, hd, hi, hm, h0, h1, hs => by
    have hi : i = xs.length := by simpa using hi
    subst hi
    unfold L90_0
    simp [mkII, cntII]
  | t :: q, m + 1, i, k, xs, hl, hd, hi, hm, h0, h1, hs => by
    simp only [List.length_cons] at hi hm h1
    have hlt : i < xs.length := by omega
    have hs1 := hs t (by simp)
    rw [getD_drop xs i [] hlt] at hd
    injection hd with hd0 hd1
    have hw9 : IntKind.i64.wrap ((i : Int) + 1) = ((i + 1 : Nat) : Int) := w64s (k := q.length) (by omega)
    have ih := L90m_eq n hn q m (i + 1) (k + t.length) (xs.set i (mkI t.length k)) (by rw [List.length_set]; omega) (by rw [drop_set]; exact hd1) (by rw [List.length_set]; omega) (by omega) (by omega) (by omega) (fun r hr => hs r (by simp [hr]))
    unfold L90_0
    simp only [lt_ii, le_0i, hlt, Int.toNat_natCast, if_true, decide_true, cond_true, hd0]
    rw [if_pos (by rw [List.length_take]; omega), F23_eq n t k hn (by omega) h0 (by omega), Option.bind_some]
    simp only
    rw [take_put _ hlt, hw9, ih, take_set_succ _ hlt, List.append_assoc, mkII, cntII]
    simp only [List.cons_append, List.nil_append, Int.natCast_add, Int.add_assoc]
theorem F90_eq (n : Nat) (hn : 1048576 < n) (xs : List (List Int)) (hl : xs.length ≤ 1000) (hs : ∀ t ∈ xs, t.length ≤ 1000) (k : Int) (h0 : 0 ≤ k) (h1 : k ≤ 9000000000000000000) : F90 n xs k = some (k + cntII xs, mkII xs k, ()) := by
  have h := L90m_eq n hn xs n 0 k xs (by omega) rfl (by omega) (by omega) h0 (by omega) hs
  rw [show ((0 : Nat) : Int) = 0 from rfl, List.take_zero, List.nil_append] at h
  unfold F90
  rw [h]
theorem L91_eq (n : Nat) (hn : 1048576 < n) (ys : List (List Int)) : ∀ (q : List (List Int)) (m i : Nat) (k : Int), ys.length ≤ 1048576 → ys.drop i = mkII q k → i + q.length = ys.length → q.length < m → 0 ≤ k → k + 1048576 + 1000 * q.length ≤ 9223372036854775807 → (∀ t ∈ q, t.length ≤ 1000) →
    L91_0 n m ys k (i : Int) = some (.inr (.inl (k + cntII q, ())))
  | [], m + 1, i, k, hl, hd, hi, hm, h0, h1, hs => by
    have hi : i = ys.length := by simpa using hi
    subst hi
    unfold L91_0
    simp [cntII]
  | t :: q, m + 1, i, k, hl, hd, hi, hm, h0, h1, hs => by
    simp only [List.length_cons] at hi hm h1
    have hlt : i < ys.length := by omega
    have hs1 := hs t (by simp)
    rw [getD_drop ys i [] hlt, mkII] at hd
    injection hd with hd0 hd1
    have ih := L91_eq n hn ys q m (i + 1) (k + t.length) hl hd1 (by omega) (by omega) (by omega) (by omega) (fun r hr => hs r (by simp [hr]))
    unfold L91_0
    simp only [lt_ii, le_0i, hlt, Int.toNat_natCast, if_true, decide_true, cond_true, hd0]
    rw [F61_eq n hn t.length k (by omega) h0 (by omega), Option.bind_some]
    simp only
    rw [neg_false (show 0 ≤ k + (t.length : Int) by omega), cond_false, w64s (k := q.length) (by omega), ih, cntII]
    simp only [Int.natCast_add, Int.add_assoc]
theorem F91_eq (n : Nat) (hn : 1048576 < n) (xs : List (List Int)) (hl : xs.length ≤ 1000) (hs : ∀ t ∈ xs, t.length ≤ 1000) (k : Int) (h0 : 0 ≤ k) (h1 : k ≤ 9000000000000000000) : F91 n (mkII xs k) k = some (k + cntII xs, ()) := by
  have h := L91_eq n hn (mkII xs k) xs n 0 k (by rw [mkII_len]; omega) rfl (by rw [mkII_len]; omega) (by omega) h0 (by omega) hs
  rw [show ((0 : Nat) : Int) = 0 from rfl] at h
  unfold F91
  rw [h]

theorem L50_eq (n : Nat) (hn : 1048576 < n) : ∀ (q : List Xn) (m i : Nat) (k : Int) (xs : List Xn), xs.drop i = q → i + q.length = xs.length → xs.length ≤ 9000000000000000000 → q.length < m → 0 ≤ k → k + 4000 * q.length ≤ 9000000000000000000 → (∀ x ∈ q, SmX x) →
    L50_0 n m xs k (i : Int) = some (.inl (xs.take i ++ mkX q k, k + cntX q, ()))
  | [], m + 1, i, k, xs, hd, hi, hb, hm, h0, h1, hs => by
    have hi : i = xs.length := by simpa using hi
    subst hi
    unfold L50_0
    simp [mkX, cntX]
  | x :: q, m + 1, i, k, xs, hd, hi, hb, hm, h0, h1, hs => by
    simp only [List.length_cons] at hi hm h1
    have hlt : i < xs.length := by omega
    obtain ⟨s1, s2, s3⟩ := hs x (by simp)
    have s4 := cntII_le x.2 s3
    rw [getD_drop xs i ([], []) hlt] at hd
    injection hd with hd0 hd1
    have hw9 : IntKind.i64.wrap ((i : Int) + 1) = ((i + 1 : Nat) : Int) := w64s (k := q.length) (by omega)
    have ih := L50_eq n hn q m (i + 1) (k + x.1.length + cntII x.2) (xs.set i (mkI x.1.length k, mkII x.2 (k + x.1.length))) (by rw [drop_set]; exact hd1) (by rw [List.length_set]; omega) (by rw [List.length_set]; omega) (by omega) (by omega) (by omega) (fun r hr => hs r (by simp [hr]))
    have ht : (List.take i xs).length = i := by rw [List.length_take]; omega
    unfold L50_0
    simp only [lt_ii, le_0i, hlt, Int.toNat_natCast, if_true, decide_true, cond_true, hd0]
    rw [if_pos ht, F23_eq n x.1 k hn (by omega) h0 (by omega), Option.bind_some]
    simp only
    rw [if_pos (by rw [ht, List.length_drop]; omega), if_pos ht, if_pos ht, F90_eq n hn x.2 (by omega) s3 _ (by omega) (by omega), Option.bind_some]
    simp only
    rw [take_put _ hlt, hw9, ih, take_set_succ _ hlt, List.append_assoc, mkX, cntX]
    simp only [List.cons_append, List.nil_append, Int.natCast_add, Int.add_assoc]
theorem F50_eq (n : Nat) (hn : 1048576 < n) (xs : List Xn) (hl : xs.length < n) (hl2 : xs.length ≤ 1000000000000) (hs : ∀ x ∈ xs, SmX x) : F50 n xs 1 = some ((1 : Int) + (cntX xs : Int), mkX xs 1, ()) := by
  have h := L50_eq n hn xs n 0 1 xs rfl (by omega) (by omega) hl (by omega) (by omega) hs
  rw [show ((0 : Nat) : Int) = 0 from rfl, List.take_zero, List.nil_append] at h
  unfold F50
  rw [h]
theorem L51_eq (n : Nat) (hn : 1048576 < n) (ys : List Xn) : ∀ (q : List Xn) (m i : Nat) (k : Int), ys.drop i = mkX q k → i + q.length = ys.length → ys.length ≤ 9000000000000000000 → q.length < m → 0 ≤ k → k + 4000 * q.length ≤ 9000000000000000000 → (∀ x ∈ q, SmX x) →
    L51_0 n m ys k (i : Int) = some (.inr (.inl (k + cntX q, ())))
  | [], m + 1, i, k, hd, hi, hb, hm, h0, h1, hs => by
    have hi : i = ys.length := by simpa using hi
    subst hi
    unfold L51_0
    simp [cntX]
  | x :: q, m + 1, i, k, hd, hi, hb, hm, h0, h1, hs => by
    simp only [List.length_cons] at hi hm h1
    have hlt : i < ys.length := by omega
    obtain ⟨s1, s2, s3⟩ := hs x (by simp)
    have s4 := cntII_le x.2 s3
    rw [getD_drop ys i ([], []) hlt, mkX] at hd
    injection hd with hd0 hd1
    have ih := L51_eq n hn ys q m (i + 1) (k + x.1.length + cntII x.2) hd1 (by omega) hb (by omega) (by omega) (by omega) (fun r hr => hs r (by simp [hr]))
    unfold L51_0
    simp only [lt_ii, le_0i, hlt, Int.toNat_natCast, if_true, decide_true, cond_true, hd0]
    rw [F61_eq n hn x.1.length k (by omega) h0 (by omega), Option.bind_some]
    simp only
    rw [neg_false (show 0 ≤ k + (x.1.length : Int) by omega), cond_false, F91_eq n hn x.2 (by omega) s3 _ (by omega) (by omega), Option.bind_some]
    simp only
    rw [neg_false (show 0 ≤ k + (x.1.length : Int) + (cntII x.2 : Int) by omega), cond_false, w64s (k := q.length) (by omega), ih, cntX]
    simp only [Int.natCast_add, Int.add_assoc]
theorem F51_eq (n : Nat) (hn : 1048576 < n) (xs : List Xn) (hl : xs.length < n) (hl2 : xs.length ≤ 1000000000000) (hs : ∀ x ∈ xs, SmX x) : F51 n (mkX xs 1) 1 = some ((1 : Int) + (cntX xs : Int), ()) := by
  have h := L51_eq n hn (mkX xs 1) xs n 0 1 rfl (by rw [mkX_len]; omega) (by rw [mkX_len]; omega) hl (by omega) (by omega) hs
  rw [show ((0 : Nat) : Int) = 0 from rfl] at h
  unfold F51
  rw [h]
theorem L49_eq (n : Nat) (hn : 1048576 < n) (xs : List Xn) (hs : ∀ x ∈ xs, SmX x) (hb : xs.length ≤ 9000000000000000000) : ∀ (k m i : Nat), i + k = xs.length → k < m → L49_0 n m xs xs (i : Int) = some (.inr (.inl ()))
  | 0, m + 1, i, hi, hm => by
    have : i = xs.length := by omega
    subst this
    unfold L49_0
    simp
  | k + 1, m + 1, i, hi, hm => by
    have hlt : i < xs.length := by omega
    obtain ⟨s1, s2, s3⟩ := hs _ (getD_mem xs i ([], []) hlt)
    have h : F32 n ((xs.getD i ([], [])).1, (xs.getD i ([], [])).2) ((xs.getD i ([], [])).1, (xs.getD i ([], [])).2) = some (true, ()) := F32_eq n hn (xs.getD i ([], [])) (by omega) ⟨by omega, fun t ht => by have := s3 t ht; omega⟩
    unfold L49_0
    simp only [lt_ii, le_0i, hlt, Int.toNat_natCast, if_true, decide_true, cond_true, h, Option.bind_some, Bool.not_true, cond_false]
    rw [w64s (k := k) (by omega)]
    exact L49_eq n hn xs hs hb k m (i + 1) (by omega) (by omega)
theorem F49_eq (n : Nat) (hn : 1048576 < n) (xs : List Xn) (hl : xs.length < n) (hl2 : xs.length ≤ 1000000000000) (hs : ∀ x ∈ xs, SmX x) : F49 n xs xs = some (true, ()) := by
  have h := L49_eq n hn xs hs (by omega) xs.length n 0 (by omega) hl
  rw [show ((0 : Nat) : Int) = 0 from rfl] at h
  unfold F49
  rw [bne_self_eq_false, cond_false, h]
theorem pure_FnExactExecAll (xs : pdens [.c true (.v true (.rs 115 (.rs 154 (.pair (.int .i64) (.pair (.int .i64) (.int .i64))))))]) (hg : GoodP 0 [.c true (.v true (.rs 115 (.rs 154 (.pair (.int .i64) (.pair (.int .i64) (.int .i64))))))] xs) :
    ∃ n, F13 n xs.1 = some (true, ()) := by
  obtain ⟨p, _⟩ := xs
  obtain ⟨⟨h1, h2⟩, _⟩ := hg
  refine ⟨10000000000, ?_⟩
  have hn : 1048576 + 2000 + 6488831744 < 10000000000 := by omega
  generalize 10000000000 = n at *
  have h2' : ∀ t ∈ p, t.length ≤ 9223372036854775807 := fun t ht => (h2 t ht).1
  obtain ⟨r, e1, k1⟩ := F14_eq n (by omega) p h1 h2'
  unfold F13
  rw [e1, Option.bind_some]
  rcases k1 with k1 | k1
  · rw [decide_eq_true k1]; rfl
  by_cases hr0 : r < 0
  · rw [decide_eq_true hr0]; rfl
  rw [decide_eq_false hr0, cond_false]
  have a1 := F16_eq n (by omega) p k1
  have a2 := F35_eq n (by omega) p
  have a3 := F34_eq n (by omega) p k1.2
  have hal : (if progOk p then execs p else []).length ≤ 6488831744 ∧ ∀ x ∈ (if progOk p then execs p else []), SmX x := by
    cases hp : progOk p
    · exact ⟨by simp, by simp⟩
    · obtain ⟨z1, z2⟩ := execs_small hp
      exact ⟨z1, fun x hx => ⟨(z2 x hx).1, by rw [(z2 x hx).2.1]; exact Nat.le_refl _, (z2 x hx).2.2⟩⟩
  generalize (if progOk p then execs p else []) = al at a2 a3 hal
  obtain ⟨b1, b2⟩ := hal
  have a4 := F49_eq n (by omega) al (by omega) (by omega) b2
  have a5 := F20_eq n (by omega) p p k1
  have a8 := F22_eq n (by omega) p k1 1 (by omega) (by omega)
  have g1 := mkK_ge p 1
  have a10 := F50_eq n (by omega) al (by omega) (by omega) b2
  have a11 := F51_eq n (by omega) al (by omega) (by omega) b2
  have g11 : decide ((1 : Int) + (cntX al : Int) < 0) = false := decide_eq_false (by omega)
  have e16 : J13_16 n (p, ()) al al = some (.inl (true, ())) := by
    unfold J13_16
    simp only [a10, a11, Option.bind_some, g11, cond_false, bne_self_eq_false, a1, a3, a4, Bool.not_true]
  simp only [a1, a2, a3, a4, a5, Option.bind_some, decide_true, Bool.not_true, cond_false, a8]
  rw [neg_false (show 0 ≤ mkK p 1 by omega), cond_false]
  simp only [e16]
end Go.Proofs.Ytdacfaincamliaa.Ev
