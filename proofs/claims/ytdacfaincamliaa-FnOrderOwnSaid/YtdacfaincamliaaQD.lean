/- What the draws come to: some program of few threads, each of few steps. Conditions: none. -/
import Derived.Test.YtdacfaincamliaaGD
import Derived.Test.YtdacfaincamliaaQA
namespace Go.Proofs.Ytdacfaincamliaa.Ev
open Go

/-- A reader of bytes, with so many picks at most behind it. -/
def Rd (k : Nat) (b : List Int) (p : Int) : Prop := (∀ x ∈ b, 0 ≤ x ∧ x ≤ 255) ∧ 0 ≤ p ∧ p ≤ k

theorem Rd.mono {k k' : Nat} {b : List Int} {p : Int} (h : Rd k b p) (hk : k ≤ k') : Rd k' b p := ⟨h.1, h.2.1, by have := h.2.2; omega⟩
theorem byteAt {b : List Int} (h : ∀ x ∈ b, 0 ≤ x ∧ x ≤ 255) (i : Nat) : 0 ≤ b.getD i 0 ∧ b.getD i 0 ≤ 255 := by
  by_cases hi : i < b.length
  · exact h _ (getD_mem b i 0 hi)
  · rw [List.getD_eq_getElem?_getD, List.getElem?_eq_none (by omega)]
    exact ⟨by decide, by decide⟩

theorem tmod_range {x a : Int} (hx : 0 ≤ x) (ha : 1 ≤ a) : 0 ≤ x.tmod a ∧ x.tmod a < a := by
  rw [Int.tmod_eq_emod_of_nonneg hx]
  exact ⟨Int.emod_nonneg _ (by omega), Int.emod_lt_of_pos _ (by omega)⟩
theorem tdiv_range {x a : Int} (hx : 0 ≤ x) (ha : 1 ≤ a) : 0 ≤ x.tdiv a ∧ x.tdiv a ≤ x := by
  rw [Int.tdiv_eq_ediv_of_nonneg hx]
  exact ⟨Int.ediv_nonneg hx (by omega), Int.ediv_le_self _ hx⟩

theorem xor_range {x y : Int} (hx : 0 ≤ x) (hx2 : x < 4611686018427387904) (hy : 0 ≤ y) (hy2 : y < 4611686018427387904) :
    0 ≤ IntKind.i64.wrap (((BitVec.ofInt IntKind.i64.bits x ^^^ BitVec.ofInt IntKind.i64.bits y).toNat : Nat) : Int) := by
  obtain ⟨m, rfl⟩ := Int.eq_ofNat_of_zero_le hx
  obtain ⟨k, rfl⟩ := Int.eq_ofNat_of_zero_le hy
  have e : (BitVec.ofInt IntKind.i64.bits (m : Int) ^^^ BitVec.ofInt IntKind.i64.bits (k : Int)).toNat = m ^^^ k := by
    rw [BitVec.toNat_xor, BitVec.toNat_ofInt, BitVec.toNat_ofInt]
    have e1 : ((m : Int) % ((2 ^ IntKind.i64.bits : Nat) : Int)).toNat = m := by
      show ((m : Int) % ((18446744073709551616 : Nat) : Int)).toNat = m
      omega
    have e2 : ((k : Int) % ((2 ^ IntKind.i64.bits : Nat) : Int)).toNat = k := by
      show ((k : Int) % ((18446744073709551616 : Nat) : Int)).toNat = k
      omega
    rw [e1, e2]
  have hlt : m ^^^ k < 2 ^ 62 := Nat.xor_lt_two_pow (by omega) (by omega)
  rw [e, w64 (by omega) (by omega)]
  omega

theorem F114_ok (n : Nat) (b : List Int) (p : Int) (k : Nat) (a : Int) (h : Rd k b p) (hk : k ≤ 1000000000) (hl : b.length ≤ 1000000) :
    ∃ y : Int, F114 n ((b, p), ()) a = some (y, ((b, p + 1), ()), ()) ∧ Rd (k + 1) b (p + 1) ∧ 0 ≤ y ∧ (1 ≤ a → y < a) := by
  obtain ⟨hb, hp0, hpk⟩ := h
  have hR : Rd (k + 1) b (p + 1) := ⟨hb, by omega, by omega⟩
  have wp : IntKind.i64.wrap (p + 1) = p + 1 := w64 (by omega) (by omega)
  unfold F114
  simp only [wp]
  by_cases h1 : a < 1
  · exact ⟨0, by simp [h1], hR, by omega, fun h => by omega⟩
  · simp only [h1, decide_false, cond_false]
    by_cases h2 : (b.length : Int) = 0
    · exact ⟨0, by simp [h2], hR, by omega, fun h => by omega⟩
    · have h2' : ((b.length : Int) == 0) = false := by simpa using h2
      simp only [h2', cond_false]
      unfold J114_4
      have wq : IntKind.i64.wrap (p + 1 - 1) = p := by rw [w64 (by omega) (by omega)]; omega
      simp only [wq]
      by_cases h3 : p < (b.length : Int)
      · have hv := byteAt hb p.toNat
        have w1 : IntKind.i64.wrap (b.getD p.toNat 0) = b.getD p.toNat 0 := w64 (by omega) (by omega)
        simp only [h3, decide_true, cond_true, hp0, if_true, w1]
        rw [if_neg (by omega)]
        have := tmod_range hv.1 (show 1 ≤ a by omega)
        exact ⟨_, rfl, hR, this.1, fun _ => this.2⟩
      · simp only [h3, decide_false, cond_false]
        have hL : (1 : Int) ≤ b.length := by omega
        have m1 := tmod_range hp0 hL
        have w3 : IntKind.i64.wrap (p * 7) = p * 7 := w64 (by omega) (by omega)
        have w4 : IntKind.i64.wrap (p * 7 + 3) = p * 7 + 3 := w64 (by omega) (by omega)
        have m2 := tmod_range (show 0 ≤ p * 7 + 3 by omega) hL
        have d1 := tdiv_range hp0 hL
        have v1 := byteAt hb (p.tmod b.length).toNat
        have v2 := byteAt hb ((p * 7 + 3).tmod b.length).toNat
        simp only [w3, w4, h2, m1.1, m1.2, m2.1, m2.2, if_true, if_false]
        rw [if_neg (by omega)]
        generalize List.getD b (p.tmod b.length).toNat 0 = c1 at *
        generalize List.getD b ((p * 7 + 3).tmod b.length).toNat 0 = c2 at *
        generalize p.tdiv b.length = q at *
        have u1 : IntKind.i64.wrap c1 = c1 := w64 (by omega) (by omega)
        have u2 : IntKind.i64.wrap c2 = c2 := w64 (by omega) (by omega)
        have u3 : IntKind.i64.wrap (c1 * 131) = c1 * 131 := w64 (by omega) (by omega)
        have u4 : IntKind.i64.wrap (c2 * 1117) = c2 * 1117 := w64 (by omega) (by omega)
        have u5 : IntKind.i64.wrap (c1 * 131 + c2 * 1117) = c1 * 131 + c2 * 1117 := w64 (by omega) (by omega)
        have u6 : IntKind.i64.wrap (p * 29) = p * 29 := w64 (by omega) (by omega)
        have u7 : IntKind.i64.wrap (c1 * 131 + c2 * 1117 + p * 29) = c1 * 131 + c2 * 1117 + p * 29 := w64 (by omega) (by omega)
        have u0 : IntKind.i64.wrap q = q := w64 (by omega) (by omega)
        have u8 : IntKind.i64.wrap (q * 53) = q * 53 := w64 (by omega) (by omega)
        have u9 : IntKind.i64.wrap (c1 * 131 + c2 * 1117 + p * 29 + q * 53) = c1 * 131 + c2 * 1117 + p * 29 + q * 53 := w64 (by omega) (by omega)
        simp only [u0, u1, u2, u3, u4, u5, u6, u7, u8, u9]
        have hx0 : 0 ≤ c1 * 131 + c2 * 1117 + p * 29 + q * 53 := by omega
        have hx1 : c1 * 131 + c2 * 1117 + p * 29 + q * 53 < 4611686018427387904 := by omega
        generalize c1 * 131 + c2 * 1117 + p * 29 + q * 53 = x at *
        have d2 := tdiv_range hx0 (show (1 : Int) ≤ 64 by omega)
        have u10 : IntKind.i64.wrap (x.tdiv 64) = x.tdiv 64 := w64 (by omega) (by omega)
        rw [u10]
        have hx := xor_range hx0 hx1 d2.1 (by omega)
        have := tmod_range hx (show 1 ≤ a by omega)
        exact ⟨_, rfl, hR, this.1, fun _ => this.2⟩

theorem J144_6_eq (n : Nat) (b : List Int) (p : Int) (d e : D3) : J144_6 n ((b, p), ()) (d, ()) (e, ()) = some (.inl (((b, p), ()), (e, ()), ())) := rfl
theorem J144_4_ok (n : Nat) (b : List Int) (p : Int) (k : Nat) (d e : D3) (h : Rd k b p) (hk : k ≤ 1000000000) (hl : b.length ≤ 1000000) :
    ∃ (e' : D3) (p' : Int), J144_4 n ((b, p), ()) (d, ()) (e, ()) = some (.inl (((b, p'), ()), (e', ()), ())) ∧ Rd (k + 1) b p' := by
  obtain ⟨y, h1, h2, _⟩ := F114_ok n b p k 3 h hk hl
  unfold J144_4
  simp only [h1, Option.bind_some, J144_6_eq]
  cases e.1 == (1 : Int)
  · cases e.1 == (6 : Int)
    · exact ⟨_, _, rfl, h.mono (by omega)⟩
    · exact ⟨_, _, rfl, h2⟩
  · exact ⟨_, _, rfl, h2⟩

theorem F144_ok (n : Nat) (b : List Int) (p : Int) (k : Nat) (a : Int) (h : Rd k b p) (hk : k ≤ 900000000) (hl : b.length ≤ 1000000) :
    ∃ (d : D3) (p' : Int), F144 n ((b, p), ()) a = some (d, ((b, p'), ()), ()) ∧ Rd (k + 3) b p' := by
  unfold F144
  obtain ⟨y, h1, h2, h3, h4⟩ := F114_ok n b p k 10 h (by omega) hl
  have h4 := h4 (by omega)
  simp only [h1, Option.bind_some, h3, if_true, List.length_cons, List.length_nil]
  rw [if_pos (by omega), if_pos (by omega)]
  simp only [F79_eq, F80_eq, Option.bind_some]
  obtain ⟨y2, g1, g2, _⟩ := F114_ok n b (p + 1) (k + 1) a h2 (by omega) hl
  generalize (([1, 1, 1, 2, 2, 2, 3, 4, 5, 6].getD (Int.toNat y) 0 : Int)) = kd
  cases rd (kd, 0, 0)
  · cases wr (kd, 0, 0)
    · obtain ⟨e, q, j1, j2⟩ := J144_4_ok n b (p + 1) (k + 1) (0, 0, 0) (kd, 0, 0) h2 (by omega) hl
      simp only [cond_false, j1]
      exact ⟨_, _, rfl, j2.mono (by omega)⟩
    · obtain ⟨e, q, j1, j2⟩ := J144_4_ok n b (p + 1 + 1) (k + 1 + 1) (0, 0, 0) (kd, y2, 0) g2 (by omega) hl
      simp only [cond_false, cond_true, g1, Option.bind_some, j1]
      exact ⟨_, _, rfl, j2.mono (by omega)⟩
  · obtain ⟨e, q, j1, j2⟩ := J144_4_ok n b (p + 1 + 1) (k + 1 + 1) (0, 0, 0) (kd, y2, 0) g2 (by omega) hl
    simp only [cond_true, g1, Option.bind_some, j1]
    exact ⟨_, _, rfl, j2.mono (by omega)⟩

theorem L145_ok (n : Nat) (b : List Int) (a : Int) (hl : b.length ≤ 1000000) : ∀ (m c : Nat) (p : Int) (k : Nat) (xs : List D3), c < m → Rd k b p → k + 3 * c ≤ 900000000 → xs.length + c ≤ 1000 →
    ∃ (ys : List D3) (p' : Int), L145_0 n m ((b, p), ()) a xs (c : Int) = some (.inl (((b, p'), ()), ys, ())) ∧ Rd (k + 3 * c) b p' ∧ ys.length = xs.length + c
  | m + 1, 0, p, k, xs, hm, h, hk, hx => by
    unfold L145_0
    exact ⟨xs, p, rfl, h, by simp⟩
  | m + 1, c + 1, p, k, xs, hm, h, hk, hx => by
    unfold L145_0
    obtain ⟨d, p1, h1, h2⟩ := F144_ok n b p k a h (by omega) hl
    have e0 : decide (((c + 1 : Nat) : Int) > 0) = true := decide_eq_true (by omega)
    have e1 : IntKind.i64.wrap (((c + 1 : Nat) : Int) - 1) = (c : Int) := by rw [w64 (by omega) (by omega)]; omega
    simp only [e0, cond_true, h1, Option.bind_some, e1, List.length_cons, List.length_nil]
    rw [if_pos (by omega)]
    obtain ⟨ys, p2, g1, g2, g3⟩ := L145_ok n b a hl m c p1 (k + 3) (xs ++ [d]) (by omega) h2 (by omega) (by simp; omega)
    refine ⟨ys, p2, g1, g2.mono (by omega), ?_⟩
    rw [g3]; simp; omega

theorem F145_ok (n : Nat) (hn : 1048576 < n) (b : List Int) (p : Int) (k : Nat) (m : Nat) (a : Int) (h : Rd k b p) (hk : k ≤ 800000000) (hm : m ≤ 900) (hl : b.length ≤ 1000000) :
    ∃ (ys : List D3) (p' : Int), F145 n ((b, p), ()) m a = some (ys, ((b, p'), ()), ()) ∧ Rd (k + 1 + 3 * m) b p' ∧ ys.length ≤ m := by
  unfold F145
  rw [w64s (k := 0) (by omega)]
  obtain ⟨y, h1, h2, h3, h4⟩ := F114_ok n b p k ((m + 1 : Nat) : Int) h (by omega) hl
  have h4 := h4 (by omega)
  obtain ⟨c, rfl⟩ := Int.eq_ofNat_of_zero_le h3
  obtain ⟨ys, p2, g1, g2, g3⟩ := L145_ok n b a hl n c (p + 1) (k + 1) [] (by omega) h2 (by omega) (by simp; omega)
  simp only [h1, Option.bind_some, g1]
  exact ⟨ys, p2, rfl, g2.mono (by omega), by simp at g3; omega⟩

theorem F142_ok (n : Nat) (b : List Int) (p : Int) (k : Nat) (a : Int) (h : Rd k b p) (hk : k ≤ 800000000) (hl : b.length ≤ 1000000) :
    ∃ (ys : List D3) (p' : Int), F142 n ((b, p), ()) a = some (ys, ((b, p'), ()), ()) ∧ Rd (k + 6) b p' ∧ ys.length = 4 := by
  unfold F142
  obtain ⟨y1, h1, h2, _⟩ := F114_ok n b p k a h (by omega) hl
  obtain ⟨y2, g1, g2, _⟩ := F114_ok n b _ _ a h2 (by omega) hl
  obtain ⟨y3, i1, i2, _⟩ := F114_ok n b _ _ 3 g2 (by omega) hl
  obtain ⟨d, q, j1, j2⟩ := F144_ok n b _ _ a i2 (by omega) hl
  simp only [h1, g1, i1, j1, Option.bind_some]
  cases y3 == (0 : Int)
  · exact ⟨_, _, rfl, i2.mono (by omega), rfl⟩
  · exact ⟨_, _, rfl, j2.mono (by omega), rfl⟩

theorem F143_ok (n : Nat) (b : List Int) (p : Int) (k : Nat) (a : Int) (h : Rd k b p) (hk : k ≤ 800000000) (hl : b.length ≤ 1000000) :
    ∃ (ys : List D3) (p' : Int), F143 n ((b, p), ()) a = some (ys, ((b, p'), ()), ()) ∧ Rd (k + 5) b p' ∧ ys.length = 3 := by
  unfold F143
  obtain ⟨y1, h1, h2, _⟩ := F114_ok n b p k a h (by omega) hl
  obtain ⟨y2, g1, g2, _⟩ := F114_ok n b _ _ 2 h2 (by omega) hl
  obtain ⟨y3, i1, i2, i3, i4⟩ := F114_ok n b _ _ 2 g2 (by omega) hl
  have i4 := i4 (by omega)
  obtain ⟨y4, j1, j2, _⟩ := F114_ok n b _ _ a i2 (by omega) hl
  obtain ⟨y5, l1, l2, _⟩ := F114_ok n b _ _ 2 j2 (by omega) hl
  simp only [h1, g1, i1, j1, l1, Option.bind_some, i3, if_true, List.length_cons, List.length_nil]
  rw [if_pos (by omega)]
  exact ⟨_, _, rfl, l2.mono (by omega), rfl⟩

theorem L146_ok (n : Nat) (p : List (List D3)) (hp : p.length ≤ 1000) (hs : ∀ t ∈ p, t.length ≤ 1000) : ∀ (k m i : Nat) (u : Int), i + k = p.length → k < m → 0 ≤ u → u ≤ 1000 * i →
    ∃ v : Int, L146_0 n m (p, ()) u (i : Int) = some (.inl (v, ()))
  | 0, m + 1, i, u, hi, hm, h0, h1 => by
    unfold L146_0
    have : i = p.length := by omega
    subst this
    exact ⟨u, by simp⟩
  | k + 1, m + 1, i, u, hi, hm, h0, h1 => by
    unfold L146_0
    have hlt : i < p.length := by omega
    have ht := hs _ (getD_mem p i [] hlt)
    simp only [lt_ii, le_0i, hlt, Int.toNat_natCast, if_true, decide_true, cond_true]
    rw [w64s (k := k) (by omega), w64 (by omega) (by omega)]
    exact L146_ok n p hp hs k m (i + 1) _ (by omega) (by omega) (by omega) (by omega)
theorem F146_ok (n : Nat) (hn : 1048576 < n) (p : List (List D3)) (hp : p.length ≤ 1000) (hs : ∀ t ∈ p, t.length ≤ 1000) : ∃ v : Int, F146 n p = some (v, ()) := by
  unfold F146
  obtain ⟨v, h⟩ := L146_ok n p hp hs p.length n 0 0 (by omega) (by omega) (by omega) (by omega)
  have h : L146_0 n n (p, ()) (0 : Int) (0 : Int) = some (.inl (v, ())) := h
  rw [h]
  exact ⟨v, rfl⟩

/-- A program of one to three threads, each of so many steps at most. -/
def Pl (m : Nat) (p : List (List D3)) : Prop := 1 ≤ p.length ∧ p.length ≤ 3 ∧ ∀ t ∈ p, t.length ≤ m

theorem J113_15_ok (n : Nat) (hn : 1048576 < n) (r : (List Int × Int) × Unit) (o q : List (List D3)) (i : Int) (hq : q.length ≤ 1000 ∧ ∀ t ∈ q, t.length ≤ 1000) :
    J113_15 n r (o, ()) i (q, ()) = some (.inl (r, (q, ()), ())) ∨ J113_15 n r (o, ()) i (q, ()) = some (.inr (.inl (r, (o, ()), i, ()))) := by
  unfold J113_15
  obtain ⟨v, hv⟩ := F146_ok n hn q hq.1 hq.2
  simp only [F36_eq n hn, hv, Option.bind_some]
  cases progOk q
  · exact .inr rfl
  · cases decide (v ≤ (8 : Int))
    · exact .inr rfl
    · exact .inl rfl

theorem L113_2_ok (n : Nat) (hn : 1048576 < n) (b : List Int) (hl : b.length ≤ 1000000) (o : List (List D3)) (i a : Int) (t : Nat) (ht : t = 2 ∨ t = 3) : ∀ (m c j : Nat) (p : Int) (k : Nat) (xs : List (List D3)), j + c = t → c < m → Rd k b p → k + 15 * c ≤ 700000000 → xs.length = j → (∀ x ∈ xs, x.length ≤ 4) →
    ∃ (ys : List (List D3)) (p' : Int), L113_2 n m ((b, p), ()) (o, ()) i (xs, ()) a (t : Int) (j : Int) = some (.inl (((b, p'), ()), (o, ()), i, (ys, ()), ())) ∧ Rd (k + 15 * c) b p' ∧ ys.length = t ∧ ∀ x ∈ ys, x.length ≤ 4
  | m + 1, 0, j, p, k, xs, hj, hm, h, hk, hx, hxs => by
    unfold L113_2
    have : j = t := by omega
    subst this
    have e0 : decide ((j : Int) < (j : Int)) = false := by simp
    simp only [e0, cond_false]
    exact ⟨xs, p, rfl, h, hx, hxs⟩
  | m + 1, c + 1, j, p, k, xs, hj, hm, h, hk, hx, hxs => by
    unfold L113_2
    have e0 : decide ((j : Int) < (t : Int)) = true := decide_eq_true (by omega)
    obtain ⟨y, h1, h2, h3, h4⟩ := F114_ok n b p k 2 h (by omega) hl
    have h4 := h4 (by omega)
    simp only [e0, cond_true, h1, Option.bind_some]
    rw [if_neg (by omega)]
    have e1 : ∃ q : Nat, q ≤ 4 ∧ IntKind.i64.wrap (IntKind.i64.wrap (Int.tdiv 6 t) + y) = (q : Int) := by
      obtain ⟨c', rfl⟩ := Int.eq_ofNat_of_zero_le h3
      rcases ht with rfl | rfl
      · refine ⟨3 + c', by omega, ?_⟩
        have : Int.tdiv 6 ((2 : Nat) : Int) = 3 := by decide
        rw [this, w64 (x := 3) (by omega) (by omega), w64 (by omega) (by omega)]
        rfl
      · refine ⟨2 + c', by omega, ?_⟩
        have : Int.tdiv 6 ((3 : Nat) : Int) = 2 := by decide
        rw [this, w64 (x := 2) (by omega) (by omega), w64 (by omega) (by omega)]
        rfl
    obtain ⟨q, hq, e1⟩ := e1
    obtain ⟨zs, p1, g1, g2, g3⟩ := F145_ok n hn b (p + 1) (k + 1) q a h2 (by omega) (by omega) hl
    simp only [e1, g1, Option.bind_some, List.length_cons, List.length_nil]
    rw [if_pos (by omega), w64s (k := 0) (by omega)]
    obtain ⟨ys, p2, i1, i2, i3, i4⟩ := L113_2_ok n hn b hl o i a t ht m c (j + 1) p1 (k + 15) (xs ++ [zs]) (by omega) (by omega) (g2.mono (by omega)) (by omega) (by simp; omega) (fun x hx' => by
      rcases List.mem_append.mp hx' with h9 | h9
      · exact hxs x h9
      · have : x = zs := by simpa using h9
        subst this; omega)
    exact ⟨ys, p2, i1, i2.mono (by omega), i3, i4⟩

theorem L113_0_ok (n : Nat) (hn : 1048576 < n) (b : List Int) (hl : b.length ≤ 1000000) : ∀ (m c i : Nat) (p : Int) (k : Nat) (o : List (List D3)), i + c = 12 → c < m → Rd k b p → k + 60 * c ≤ 600000000 →
    ∃ p' : Int, Rd (k + 60 * c) b p' ∧ ((∃ q : List (List D3), L113_0 n m ((b, p), ()) (o, ()) (i : Int) = some (.inl (((b, p'), ()), (q, ()), ())) ∧ Pl 5 q) ∨ L113_0 n m ((b, p), ()) (o, ()) (i : Int) = some (.inr (.inl (((b, p'), ()), (o, ()), ()))))
  | m + 1, 0, i, p, k, o, hi, hm, h, hk => by
    have : i = 12 := by omega
    subst this
    unfold L113_0
    exact ⟨p, h, .inr rfl⟩
  | m + 1, c + 1, i, p, k, o, hi, hm, h, hk => by
    unfold L113_0
    have e0 : decide ((i : Int) < 12) = true := decide_eq_true (by omega)
    obtain ⟨y4, h1, h2, h3, h4⟩ := F114_ok n b p k 2 h (by omega) hl
    obtain ⟨y5, g1, g2, _⟩ := F114_ok n b _ _ 4 h2 (by omega) hl
    simp only [e0, cond_true, h1, g1, Option.bind_some]
    -- what goes on
    have next : ∀ {p1 : Int} {k1 : Nat}, Rd k1 b p1 → k1 ≤ k + 60 → ∃ p' : Int, Rd (k + 60 * (c + 1)) b p' ∧ ((∃ q : List (List D3), L113_0 n m ((b, p1), ()) (o, ()) (IntKind.i64.wrap ((i : Int) + 1)) = some (.inl (((b, p'), ()), (q, ()), ())) ∧ Pl 5 q) ∨ L113_0 n m ((b, p1), ()) (o, ()) (IntKind.i64.wrap ((i : Int) + 1)) = some (.inr (.inl (((b, p'), ()), (o, ()), ())))) := by
      intro p1 k1 hR hk1
      rw [w64s (k := 0) (by omega)]
      obtain ⟨p', q1, q2⟩ := L113_0_ok n hn b hl m c (i + 1) p1 (k + 60) o (by omega) (by omega) (hR.mono hk1) (by omega)
      exact ⟨p', q1.mono (by omega), q2⟩
    cases y5 == (0 : Int)
    · simp only [cond_false]
      obtain ⟨y25, i1, i2, i3, i4⟩ := F114_ok n b _ _ 2 g2 (by omega) hl
      have i4 := i4 (by omega)
      obtain ⟨t, ht, et⟩ : ∃ t : Nat, (t = 2 ∨ t = 3) ∧ IntKind.i64.wrap (2 + y25) = (t : Int) := by
        obtain ⟨c', rfl⟩ := Int.eq_ofNat_of_zero_le i3
        refine ⟨2 + c', by omega, ?_⟩
        rw [w64 (by omega) (by omega)]
        rfl
      obtain ⟨ys, p2, j1, j2, j3, j4⟩ := L113_2_ok n hn b hl o (i : Int) (IntKind.i64.wrap (1 + y4)) t ht n t 0 (p + 1 + 1 + 1) (k + 1 + 1 + 1) [] (by omega) (by omega) i2 (by omega) rfl (by simp)
      simp only [i1, Option.bind_some, et, show ((0 : Int)) = ((0 : Nat) : Int) from rfl, j1]
      rcases J113_15_ok n hn ((b, p2), ()) o ys (i : Int) ⟨by omega, fun x hx => by have := j4 x hx; omega⟩ with e1 | e1
      · simp only [e1]
        exact ⟨p2, j2.mono (by omega), .inl ⟨ys, rfl, by omega, by omega, fun x hx => by have := j4 x hx; omega⟩⟩
      · simp only [e1, J113_3]
        exact next j2 (by omega)
    · simp only [cond_true]
      obtain ⟨y6, p3, i1, i2, i3⟩ := F142_ok n b _ _ 2 g2 (by omega) hl
      obtain ⟨y7, p4, j1, j2, j3⟩ := F143_ok n b _ _ 2 i2 (by omega) hl
      obtain ⟨y8, l1, l2, _⟩ := F114_ok n b _ _ 3 j2 (by omega) hl
      simp only [i1, j1, l1, Option.bind_some]
      cases y8 == (0 : Int)
      · simp only [cond_false]
        rcases J113_15_ok n hn ((b, p4 + 1), ()) o [y6, y7] (i : Int) ⟨by simp, fun x hx => by simp at hx; rcases hx with rfl | rfl <;> omega⟩ with e1 | e1
        · simp only [e1]
          exact ⟨_, l2.mono (by omega), .inl ⟨_, rfl, by simp, by simp, fun x hx => by simp at hx; rcases hx with rfl | rfl <;> omega⟩⟩
        · simp only [e1, J113_3]
          exact next l2 (by omega)
      · simp only [cond_true]
        obtain ⟨d, p5, o1, o2⟩ := F144_ok n b _ _ 2 l2 (by omega) hl
        simp only [o1, Option.bind_some, List.length_cons, List.length_nil]
        rw [if_pos (by omega)]
        rcases J113_15_ok n hn ((b, p5), ()) o [y6 ++ [d], y7] (i : Int) ⟨by simp, fun x hx => by simp at hx; rcases hx with rfl | rfl <;> (try simp) <;> omega⟩ with e1 | e1
        · simp only [e1]
          exact ⟨_, o2.mono (by omega), .inl ⟨_, rfl, by simp, by simp, fun x hx => by simp at hx; rcases hx with rfl | rfl <;> (try simp) <;> omega⟩⟩
        · simp only [e1, J113_3]
          exact next o2 (by omega)

theorem F113_ok (n : Nat) (hn : 1048576 < n) (b : List Int) (p : Int) (k : Nat) (h : Rd k b p) (hk : k ≤ 500000000) (hl : b.length ≤ 1000000) :
    ∃ (q : List (List D3)) (p' : Int), F113 n ((b, p), ()) = some (q, ((b, p'), ()), ()) ∧ Rd (k + 720) b p' ∧ Pl 5 q := by
  unfold F113
  obtain ⟨p', h1, h2⟩ := L113_0_ok n hn b hl n 12 0 p k [] (by omega) (by omega) h (by omega)
  rw [show ((0 : Int)) = ((0 : Nat) : Int) from rfl]
  rcases h2 with ⟨q, h2, h3⟩ | h2
  · simp only [h2]
    exact ⟨q, p', rfl, h1, h3⟩
  · simp only [h2]
    exact ⟨_, p', rfl, h1, by simp, by simp, fun x hx => by simp at hx; rcases hx with rfl | rfl <;> simp⟩

theorem J115_22_eq (n : Nat) (r : (List Int × Int) × Unit) (p o : List (List D3)) (i : Nat) (l : List D3) (hp : p.length ≤ 1000) (hi : i < p.length) :
    J115_22 n r (p, ()) (o, ()) (i : Int) l = some (.inl (r, (p.set i l, ()), ())) := by
  unfold J115_22
  simp only [lt_ii, le_0i, hi, Int.toNat_natCast, if_true]
  rw [if_pos (by omega)]

theorem L115_1_ok (n : Nat) (b : List Int) (hl : b.length ≤ 1000000) (o o2 : List (List D3)) (j : Int) : ∀ (m c i : Nat) (p : Int) (k : Nat) (xs : List D3), i + c = 7 → c < m → Rd k b p → k + c ≤ 700000000 → xs.length + c ≤ 1000 →
    ∃ (ys : List D3) (p' : Int), L115_1 n m ((b, p), ()) (o, ()) (o2, ()) j xs (i : Int) = some (.inl (((b, p'), ()), (o, ()), (o2, ()), j, ys, ())) ∧ Rd (k + c) b p' ∧ ys.length = xs.length + c
  | m + 1, 0, i, p, k, xs, hi, hm, h, hk, hx => by
    have : i = 7 := by omega
    subst this
    unfold L115_1
    exact ⟨xs, p, rfl, h, by simp⟩
  | m + 1, c + 1, i, p, k, xs, hi, hm, h, hk, hx => by
    unfold L115_1
    have e0 : decide ((i : Int) < 7) = true := decide_eq_true (by omega)
    obtain ⟨y, h1, h2, h3, h4⟩ := F114_ok n b p k 2 h (by omega) hl
    have h4 := h4 (by omega)
    simp only [e0, cond_true, h1, Option.bind_some, h3, if_true, List.length_cons, List.length_nil]
    rw [if_pos (by omega), if_pos (by omega), if_pos (by omega), w64s (k := 0) (by omega)]
    obtain ⟨ys, p2, g1, g2, g3⟩ := L115_1_ok n b hl o o2 j m c (i + 1) (p + 1) (k + 1) (xs ++ [(([4, 2].getD (Int.toNat y) 0 : Int), (0 : Int), (0 : Int))]) (by omega) (by omega) h2 (by omega) (by simp; omega)
    exact ⟨ys, p2, g1, g2.mono (by omega), by rw [g3]; simp; omega⟩

theorem Pl.set {m m' : Nat} {p : List (List D3)} (h : Pl m p) (hm : m ≤ m') (i : Nat) {l : List D3} (hl : l.length ≤ m') : Pl m' (p.set i l) := by
  refine ⟨by simpa using h.1, by simpa using h.2.1, fun t ht => ?_⟩
  rcases List.mem_or_eq_of_mem_set ht with h9 | rfl
  · have := h.2.2 t h9; omega
  · exact hl

theorem F115_ok (n : Nat) (hn : 1048576 < n) (b : List Int) (p : Int) (k : Nat) (q : List (List D3)) (hq : Pl 5 q) (h : Rd k b p) (hk : k ≤ 500000000) (hl : b.length ≤ 1000000) :
    ∃ (q' : List (List D3)) (p' : Int), F115 n ((b, p), ()) q = some (q', ((b, p'), ()), ()) ∧ Rd (k + 20) b p' ∧ Pl 12 q' := by
  unfold F115
  obtain ⟨hq1, hq2, hq3⟩ := hq
  obtain ⟨y, h1, h2, h3, h4⟩ := F114_ok n b p k (q.length : Int) h (by omega) hl
  have h4 := h4 (by omega)
  obtain ⟨i, rfl⟩ := Int.eq_ofNat_of_zero_le h3
  have hi : i < q.length := by omega
  have ht := hq3 _ (getD_mem q i [] hi)
  have hQ : Pl 5 q := ⟨hq1, hq2, hq3⟩
  obtain ⟨y2, g1, g2, _⟩ := F114_ok n b _ _ 8 h2 (by omega) hl
  simp only [h1, Option.bind_some, lt_ii, le_0i, hi, Int.toNat_natCast, if_true, g1]
  rw [if_pos (by omega)]
  generalize hL : q.getD i [] = L at *
  have fin : ∀ {p1 : Int} {k1 : Nat} {l : List D3}, Rd k1 b p1 → k1 ≤ k + 20 → l.length ≤ 12 → ∃ (q' : List (List D3)) (p' : Int), (match J115_22 n ((b, p1), ()) (q, ()) ([], ()) (i : Int) l with | none => none | some (Sum.inl v9) => some (v9.snd.fst.fst, ((v9.fst.fst.fst, v9.fst.fst.snd), ()), ())) = some (q', ((b, p'), ()), ()) ∧ Rd (k + 20) b p' ∧ Pl 12 q' := by
    intro p1 k1 l hR hk1 hl1
    rw [J115_22_eq n _ q [] i l (by omega) hi]
    exact ⟨_, _, rfl, hR.mono hk1, hQ.set (by omega) i hl1⟩
  cases y2 == (0 : Int)
  rotate_left
  · obtain ⟨y3, i1, i2, _⟩ := F114_ok n b _ _ 12 g2 (by omega) hl
    simp only [cond_true, i1, Option.bind_some, List.length_cons, List.length_nil]
    rw [if_pos (by omega)]
    exact fin i2 (by omega) (by simp; omega)
  simp only [cond_false]
  cases y2 == (1 : Int)
  rotate_left
  · simp only [cond_true, List.length_cons, List.length_nil]
    rw [if_pos (by omega)]
    exact fin g2 (by omega) (by simp; omega)
  simp only [cond_false]
  cases y2 == (2 : Int)
  rotate_left
  · simp only [cond_true, List.length_cons, List.length_nil]
    rw [if_pos (by omega)]
    exact fin g2 (by omega) (by simp; omega)
  simp only [cond_false]
  cases y2 == (3 : Int)
  rotate_left
  · simp only [cond_true, List.length_cons, List.length_nil]
    rw [if_pos (by omega)]
    exact fin g2 (by omega) (by simp; omega)
  simp only [cond_false]
  cases y2 == (4 : Int)
  rotate_left
  · obtain ⟨y3, i1, i2, i3, i4⟩ := F114_ok n b _ _ 2 g2 (by omega) hl
    have i4 := i4 (by omega)
    simp only [cond_true, i1, Option.bind_some, List.length_cons, List.length_nil, i3, if_true]
    rw [if_pos (by omega), if_pos (by omega), if_pos (by omega)]
    exact fin i2 (by omega) (by simp; omega)
  simp only [cond_false]
  cases y2 == (5 : Int)
  rotate_left
  · obtain ⟨y3, i1, i2, i3, i4⟩ := F114_ok n b _ _ 2 g2 (by omega) hl
    have i4 := i4 (by omega)
    simp only [cond_true, i1, Option.bind_some, List.length_cons, List.length_nil, i3, if_true]
    rw [if_pos (by omega), if_pos (by omega), if_pos (by omega)]
    exact fin i2 (by omega) (by simp; omega)
  simp only [cond_false]
  cases y2 == (6 : Int)
  rotate_left
  · obtain ⟨ys, p2, i1, i2, i3⟩ := L115_1_ok n b hl q [] (i : Int) n 7 0 _ _ L (by omega) (by omega) g2 (by omega) (by omega)
    have i1 : L115_1 n n ((b, p + 1 + 1), ()) (q, ()) ([], ()) (i : Int) L (0 : Int) = some (.inl (((b, p2), ()), (q, ()), ([], ()), (i : Int), ys, ())) := i1
    simp only [cond_true, i1]
    exact fin i2 (by omega) (by omega)
  simp only [cond_false, List.length_cons, List.length_nil]
  rw [if_pos (by omega)]
  exact fin g2 (by omega) (by simp; omega)

theorem Pl.mono {m m' : Nat} {p : List (List D3)} (h : Pl m p) (hm : m ≤ m') : Pl m' p := ⟨h.1, h.2.1, fun t ht => by have := h.2.2 t ht; omega⟩

theorem F73_ok (n : Nat) (hn : 1048576 < n) (b : List Int) (p : Int) (k : Nat) (h : Rd k b p) (hk : k ≤ 400000000) (hl : b.length ≤ 1000000) :
    ∃ (q : List (List D3)) (p' : Int), F73 n ((b, p), ()) = some (q, ((b, p'), ()), ()) ∧ Rd (k + 800) b p' ∧ Pl 12 q := by
  unfold F73
  obtain ⟨q, p1, h1, h2, h3⟩ := F113_ok n hn b p k h (by omega) hl
  obtain ⟨y, g1, g2, _⟩ := F114_ok n b _ _ 16 h2 (by omega) hl
  simp only [h1, g1, Option.bind_some]
  cases y == (0 : Int)
  · exact ⟨q, _, rfl, g2.mono (by omega), h3.mono (by omega)⟩
  · obtain ⟨q', p2, i1, i2, i3⟩ := F115_ok n hn b _ _ q h3 g2 (by omega) hl
    simp only [cond_true, i1, Option.bind_some]
    exact ⟨q', _, rfl, i2.mono (by omega), i3⟩

/-- Bytes, as they are handed to a law. -/
def Bytes (c : List Int) : Prop := c.length ≤ 1048576 ∧ ∀ x ∈ c, 0 ≤ x ∧ x ≤ 255
theorem F74_ok (n : Nat) (c : List Int) (hc : Bytes c) : ∃ b : List Int, F74 n c = some (((b, (0 : Int)), ()), ()) ∧ Rd 0 b 0 ∧ b.length ≤ 1000000 := by
  unfold F74
  simp only [J74_3]
  by_cases h : (c.length : Int) > 2000
  · simp only [h, decide_true, cond_true]
    rw [if_pos (by omega)]
    exact ⟨_, rfl, ⟨fun x hx => hc.2 x (List.mem_of_mem_take (List.mem_of_mem_drop hx)), by omega, by omega⟩, by simp; omega⟩
  · simp only [h, decide_false, cond_false]
    exact ⟨_, rfl, ⟨hc.2, by omega, by omega⟩, by omega⟩
end Go.Proofs.Ytdacfaincamliaa.Ev
