/- What the printed functions of ProgOk come to. Conditions: none. -/
import Derived.Test.YtdacfaincamliaaGreatGA
import Derived.Test.YtdacfaincamliaaGreatPL
namespace Go.Proofs.YtdacfaincamliaaGreat.Ev
open Go
abbrev D3 := Int × Int × Int

theorem eta3 (x : D3) : (x.fst, x.snd.fst, x.snd.snd) = x := rfl
theorem F64_eq (n : Nat) (a : D3) : F64 n a = some (a, ()) := rfl

theorem L46_eq (n : Nat) (xs : List D3) (hx : xs.length ≤ 9223372036854775806) : ∀ (k m i : Nat) (ys : List D3), i + k = xs.length → k < m → ys.length = xs.length → ys.take i = xs.take i → L46_0 n m xs ys (i : Int) = some (.inl (xs, ()))
  | 0, m + 1, i, ys, hi, hm, hl, ht => by
    have : i = xs.length := by omega
    subst this
    unfold L46_0
    rw [List.take_length, List.take_of_length_le (by omega)] at ht
    simp [ht]
  | k + 1, m + 1, i, ys, hi, hm, hl, ht => by
    have hlt : i < xs.length := by omega
    unfold L46_0
    simp only [lt_ii, le_0i, hlt, hl, Int.toNat_natCast, if_true, decide_true, cond_true, F64_eq, Option.bind_some]
    rw [w64s (k := k) (by omega)]
    exact L46_eq n xs hx k m (i + 1) _ (by omega) (by omega) (by simp [hl]) (take_set xs ys i _ hlt hl ht)

theorem F46_eq (n : Nat) (xs : List D3) (h : xs.length ≤ 1048576) (hn : 1048576 < n) : F46 n xs = some (xs, ()) := by
  unfold F46
  rw [if_pos rfl, if_pos (by simp; omega), show ((0 : Int)) = ((0 : Nat) : Int) from rfl, L46_eq n xs (by omega) xs.length n 0 _ (by omega) (by omega) (by simp) (by simp)]


/-- Sizes small enough. -/
def Small2 (xs : List (List D3)) : Prop := xs.length ≤ 1048576 ∧ ∀ t ∈ xs, t.length ≤ 1048576

theorem L21_eq (n : Nat) (hn : 1048576 < n) (xs : List (List D3)) (hx : Small2 xs) : ∀ (k m i : Nat) (ys : List (List D3)), i + k = xs.length → k < m → ys.length = xs.length → ys.take i = xs.take i → L21_0 n m xs ys (i : Int) = some (.inl (xs, ()))
  | 0, m + 1, i, ys, hi, hm, hl, ht => by
    have : i = xs.length := by omega
    subst this
    unfold L21_0
    rw [List.take_length, List.take_of_length_le (by omega)] at ht
    simp [ht]
  | k + 1, m + 1, i, ys, hi, hm, hl, ht => by
    have hlt : i < xs.length := by omega
    have h1 := hx.1
    unfold L21_0
    simp only [lt_ii, le_0i, hlt, hl, Int.toNat_natCast, if_true, decide_true, cond_true]
    rw [F46_eq n _ (hx.2 _ (getD_mem xs i _ hlt)) hn, Option.bind_some, w64s (k := k) (by omega), if_pos (by rw [List.length_take]; omega), take_put _ (by omega)]
    exact L21_eq n hn xs hx k m (i + 1) _ (by omega) (by omega) (by simp [hl]) (take_set xs ys i _ hlt hl ht)

theorem F21_eq (n : Nat) (hn : 1048576 < n) (xs : List (List D3)) (h : Small2 xs) : F21 n xs = some (xs, ()) := by
  have h1 := h.1
  unfold F21
  rw [if_pos rfl, if_pos (by simp; omega), show ((0 : Int)) = ((0 : Nat) : Int) from rfl, L21_eq n hn xs h xs.length n 0 _ (by omega) (by omega) (by simp) (by simp)]
theorem F7_eq (n : Nat) (hn : 1048576 < n) (xs : List (List D3)) (h : Small2 xs) : F7 n xs = some (xs, ()) := by
  unfold F7
  rw [F21_eq n hn xs h]; rfl

theorem F32_eq (n : Nat) (xs : List D3) (l : Int) (h0 : 0 ≤ l) (h1 : l ≤ 1048576) (hx : xs.length ≤ 9223372036854775807) : F32 n xs l = some (if l - xs.length < 0 then -1 else l - xs.length, ()) := by
  unfold F32
  rw [w64 (by omega) (by omega)]
  by_cases h : l - (xs.length : Int) < 0 <;> simp [h]

theorem L12_eq (n : Nat) (xs : List (List D3)) (hg : ∀ t ∈ xs, t.length ≤ 9223372036854775807) (hx : xs.length ≤ 1048576) : ∀ (k m i : Nat) (l : Int), i + k = xs.length → k < m → 0 ≤ l → l ≤ 1048576 →
    (∃ r, L12_0 n m xs l (i : Int) = some (.inl (r, ())) ∧ r < 0) ∨ ∃ r, L12_0 n m xs l (i : Int) = some (.inr (.inl (r, ()))) ∧ 0 ≤ r ∧ ∀ t ∈ xs.drop i, t.length ≤ 1048576
  | 0, m + 1, i, l, hi, hm, h0, h1 => by
    have : i = xs.length := by omega
    subst this
    right
    refine ⟨l, ?_, h0, by simp⟩
    unfold L12_0
    simp
  | k + 1, m + 1, i, l, hi, hm, h0, h1 => by
    have hlt : i < xs.length := by omega
    unfold L12_0
    simp only [lt_ii, le_0i, hlt, Int.toNat_natCast, if_true, decide_true, cond_true]
    rw [F32_eq n _ l h0 h1 (hg _ (getD_mem xs i _ hlt)), Option.bind_some, w64s (k := k) (by omega)]
    by_cases hneg : l - (xs.getD i []).length < 0
    · left
      refine ⟨-1, ?_, show (-1 : Int) < 0 by decide⟩
      simp only [show (Ty.rs (89 : Go.TypeId) ((Ty.int Go.IntKind.i64).pair ((Ty.int Go.IntKind.i64).pair (Ty.int Go.IntKind.i64)))).dflt = ([] : List D3) from rfl, if_pos hneg]
      rfl
    · simp only [show (Ty.rs (89 : Go.TypeId) ((Ty.int Go.IntKind.i64).pair ((Ty.int Go.IntKind.i64).pair (Ty.int Go.IntKind.i64)))).dflt = ([] : List D3) from rfl, if_neg hneg]
      rw [show decide (l - ((xs.getD i []).length : Int) < 0) = false by simpa using hneg, cond_false]
      rcases L12_eq n xs hg hx k m (i + 1) (l - (xs.getD i []).length) (by omega) (by omega) (by omega) (by omega) with ⟨r, h2, h3⟩ | ⟨r, h2, h3, h4⟩
      · exact .inl ⟨r, h2, h3⟩
      · refine .inr ⟨r, h2, h3, fun t ht => ?_⟩
        rw [getD_drop xs i [] hlt] at ht
        rcases List.mem_cons.mp ht with rfl | ht
        · omega
        · exact h4 t ht

theorem F4_eq (n : Nat) (hn : 1048576 < n) (xs : List (List D3)) (hx : xs.length ≤ 9223372036854775807) (hg : ∀ t ∈ xs, t.length ≤ 9223372036854775807) : ∃ r : Int, F4 n xs 1048576 = some (r, ()) ∧ (r < 0 ∨ Small2 xs) := by
  unfold F4 F12
  rw [w64 (by omega) (by omega)]
  by_cases h : (1048576 : Int) - xs.length < 0
  · simp only [h, decide_true, cond_true, Option.bind_some]
    exact ⟨-1, rfl, .inl (by omega)⟩
  · simp only [h, decide_false, cond_false]
    rcases L12_eq n xs hg (by omega) xs.length n 0 (1048576 - xs.length) (by omega) (by omega) (by omega) (by omega) with ⟨r, h2, h3⟩ | ⟨r, h2, h3, h4⟩
    · rw [show ((0 : Int)) = ((0 : Nat) : Int) from rfl, h2]
      simp only [Option.bind_some]
      exact ⟨-1, by rw [show decide (r < ((0 : Nat) : Int)) = true by simpa using h3]; rfl, .inl (by omega)⟩
    · rw [show ((0 : Int)) = ((0 : Nat) : Int) from rfl, h2]
      simp only [Option.bind_some]
      exact ⟨r, by rw [show decide (r < ((0 : Nat) : Int)) = false by simpa using h3]; rfl, .inr ⟨by omega, by simpa using h4⟩⟩

theorem F72_eq (n : Nat) (a b : D3) : F72 n a b = some (decide (a = b), ()) := by
  obtain ⟨a1, a2, a3⟩ := a
  obtain ⟨b1, b2, b3⟩ := b
  unfold F72
  simp only [Prod.mk.injEq, bne_int]
  by_cases h1 : a1 = b1 <;> by_cases h2 : a2 = b2 <;> by_cases h3 : a3 = b3 <;> simp [h1, h2, h3]

theorem L55_eq (n : Nat) (xs ys : List D3) (hx : xs.length ≤ 9223372036854775806) (hl : ys.length = xs.length) : ∀ (k m i : Nat), i + k = xs.length → k < m →
    L55_0 n m xs ys (i : Int) = some (if xs.drop i = ys.drop i then .inr (.inl ()) else .inl (false, ()))
  | 0, m + 1, i, hi, hm => by
    have : i = xs.length := by omega
    subst this
    unfold L55_0
    simp [← hl]
  | k + 1, m + 1, i, hi, hm => by
    have hlt : i < xs.length := by omega
    have hlt2 : i < ys.length := by omega
    unfold L55_0
    simp only [lt_ii, le_0i, hlt, hlt2, Int.toNat_natCast, if_true, decide_true, cond_true, F72_eq, Option.bind_some]
    rw [w64s (k := k) (by omega), L55_eq n xs ys hx hl k m (i + 1) (by omega) (by omega), getD_drop xs i (0, 0, 0) hlt, getD_drop ys i (0, 0, 0) hlt2]
    by_cases h : xs.getD i ((0 : Int), (0 : Int), (0 : Int)) = ys.getD i ((0 : Int), (0 : Int), (0 : Int)) <;> simp only [h, eta3, decide_true, decide_false, Bool.not_true, Bool.not_false, cond_true, cond_false, List.cons.injEq, true_and, false_and, if_false]

theorem F55_eq (n : Nat) (xs ys : List D3) (hx : xs.length ≤ 1048576) (hn : 1048576 < n) : F55 n xs ys = some (decide (xs = ys), ()) := by
  unfold F55
  by_cases hl : ys.length = xs.length
  · rw [show ((xs.length : Int) != (ys.length : Int)) = false by simp [hl], cond_false, show ((0 : Int)) = ((0 : Nat) : Int) from rfl, L55_eq n xs ys (by omega) hl xs.length n 0 (by omega) (by omega)]
    by_cases h : xs = ys <;> simp [h]
  · rw [show ((xs.length : Int) != (ys.length : Int)) = true by simp; omega, cond_true]
    have : xs ≠ ys := fun h => hl (by rw [h])
    simp [this]

theorem L29_eq (n : Nat) (hn : 1048576 < n) (xs ys : List (List D3)) (hx : Small2 xs) (hl : ys.length = xs.length) : ∀ (k m i : Nat), i + k = xs.length → k < m →
    L29_0 n m xs ys (i : Int) = some (if xs.drop i = ys.drop i then .inr (.inl ()) else .inl (false, ()))
  | 0, m + 1, i, hi, hm => by
    have : i = xs.length := by omega
    subst this
    unfold L29_0
    simp [← hl]
  | k + 1, m + 1, i, hi, hm => by
    have hlt : i < xs.length := by omega
    have hlt2 : i < ys.length := by omega
    have h1 := hx.1
    unfold L29_0
    simp only [lt_ii, le_0i, hlt, hlt2, Int.toNat_natCast, if_true, decide_true, cond_true]
    rw [F55_eq n _ _ (hx.2 _ (getD_mem xs i _ hlt)) hn, Option.bind_some, w64s (k := k) (by omega), L29_eq n hn xs ys hx hl k m (i + 1) (by omega) (by omega), getD_drop xs i [] hlt, getD_drop ys i [] hlt2]
    simp only [show (Ty.rs (72 : Go.TypeId) ((Ty.int Go.IntKind.i64).pair ((Ty.int Go.IntKind.i64).pair (Ty.int Go.IntKind.i64)))).dflt = ([] : List D3) from rfl]
    by_cases h : xs.getD i [] = ys.getD i [] <;> simp only [h, decide_true, decide_false, Bool.not_true, Bool.not_false, cond_true, cond_false, List.cons.injEq, true_and, false_and, if_false]

theorem F10_eq (n : Nat) (hn : 1048576 < n) (xs ys : List (List D3)) (hx : Small2 xs) : F10 n xs ys = some (decide (xs = ys), ()) := by
  have h1 := hx.1
  have : F29 n xs ys = some (decide (xs = ys), ()) := by
    unfold F29
    by_cases hl : ys.length = xs.length
    · rw [show ((xs.length : Int) != (ys.length : Int)) = false by simp [hl], cond_false, show ((0 : Int)) = ((0 : Nat) : Int) from rfl, L29_eq n hn xs ys hx hl xs.length n 0 (by omega) (by omega)]
      by_cases h : xs = ys <;> simp [h]
    · rw [show ((xs.length : Int) != (ys.length : Int)) = true by simp; omega, cond_true]
      have : xs ≠ ys := fun h => hl (by rw [h])
      simp [this]
  unfold F10
  rw [this, Option.bind_some]
  cases decide (xs = ys) <;> rfl

def rd (d : D3) : Bool := decide (d.1 = 2) || decide (d.1 = 5)
def wr (d : D3) : Bool := decide (d.1 = 1) || (decide (d.1 = 3) || decide (d.1 = 6))
def us (d : D3) : Bool := rd d || wr d
def vd (d : D3) : Bool := decide (d.1 = 1) || decide (d.1 = 6)
def formed (d : D3) : Bool := (decide (d.1 ≥ 1) && decide (d.1 ≤ 9)) && (decide (d.2.1 = 0) || us d && (decide (d.2.1 ≥ 0) && decide (d.2.1 ≤ 2))) && (if vd d then decide (d.2.2 ≥ 1) && decide (d.2.2 ≤ 3) else decide (d.2.2 = 0))

theorem F37_eq (n : Nat) (d : D3) : F37 n d = some (rd d, ()) := by
  unfold F37 rd; simp only [beq_int]; cases decide (d.1 = 2) <;> rfl
theorem F39_eq (n : Nat) (d : D3) : F39 n d = some (wr d, ()) := by
  unfold F39 wr; simp only [beq_int]; cases decide (d.1 = 1) <;> cases decide (d.1 = 3) <;> rfl
theorem F16_eq (n : Nat) (x a b : Int) : F16 n x a b = some (decide (x ≥ a) && decide (x ≤ b), ()) := by
  unfold F16; cases decide (x ≥ a) <;> rfl
theorem F27_eq (n : Nat) (x a b : Int) : F27 n x a b = some (decide (x ≥ a) && decide (x ≤ b), ()) := by
  unfold F27; cases decide (x ≥ a) <;> rfl
theorem F53_eq (n : Nat) (d : D3) : F53 n d = some (rd d, ()) := by
  unfold F53 rd; simp only [beq_int]; cases decide (d.1 = 2) <;> rfl
theorem F52_eq (n : Nat) (d : D3) : F52 n d = some (wr d, ()) := by
  unfold F52 wr; simp only [beq_int]; cases decide (d.1 = 1) <;> cases decide (d.1 = 3) <;> rfl
theorem F66_eq (n : Nat) (d : D3) : F66 n d = some (us d, ()) := by
  unfold F66 us; simp only [F53_eq, F52_eq, eta3, Option.bind_some]; cases rd d <;> rfl
theorem F80_eq (n : Nat) (d : D3) : F80 n d = some (vd d, ()) := by
  unfold F80 vd; simp only [beq_int]; cases decide (d.1 = 1) <;> rfl

theorem J73_3_eq (n : Nat) (d : D3) (v p : Bool) (h : p = us d) (h2 : v = vd d) : J73_3 n (d, ()) v p = some (.inl (formed d, ())) := by
  unfold J73_3
  simp only [F16_eq, Option.bind_some, beq_int]
  unfold formed
  rw [← h, ← h2]
  have h0 : decide (d.2.1 = 0) = true → (decide (d.2.1 ≥ 0) && decide (d.2.1 ≤ 2)) = true := by
    intro h; simp at h; simp [h]
  revert h0
  generalize (decide (d.2.1 ≥ 0) && decide (d.2.1 ≤ 2)) = b1
  generalize (decide (d.2.2 ≥ 1) && decide (d.2.2 ≤ 3)) = b2
  generalize (decide (d.1 ≥ 1) && decide (d.1 ≤ 9)) = b3
  generalize decide (d.2.1 = 0) = b4
  generalize decide (d.2.2 = 0) = b5
  intro h0
  cases b3 <;> cases p <;> cases b4 <;> cases b1 <;> first | (cases h0 rfl; done) | (cases v <;> cases b2 <;> cases b5 <;> rfl)

theorem F73_eq (n : Nat) (d : D3) : F73 n d = some (formed d, ()) := by
  unfold F73 J73_2
  simp only [F37_eq, F39_eq, eta3, Option.bind_some, beq_int]
  have hu : us d = (rd d || wr d) := rfl
  have hv : vd d = (decide (d.1 = 1) || decide (d.1 = 6)) := rfl
  cases h1 : decide (d.1 = 1) <;> cases h2 : rd d
  · simp only [h1, h2, cond_false]
    rw [J73_3_eq n d _ _ (by rw [hu, h2]; rfl) (by rw [hv, h1]; rfl)]
  · simp only [h1, h2, cond_false, cond_true]
    rw [J73_3_eq n d _ _ (by rw [hu, h2]; rfl) (by rw [hv, h1]; rfl)]
  · simp only [h1, h2, cond_false, cond_true]
    rw [J73_3_eq n d _ _ (by rw [hu, h2]; rfl) (by rw [hv, h1]; rfl)]
  · simp only [h1, h2, cond_true]
    rw [J73_3_eq n d _ _ (by rw [hu, h2]; rfl) (by rw [hv, h1]; rfl)]

theorem J74_5_eq (n : Nat) (d : D3) (p v : Bool) : J74_5 n (d, ()) p v = some (.inl ((decide (d.1 ≥ 1) && decide (d.1 ≤ 9)) && p && v, ())) := by
  unfold J74_5
  simp only [F27_eq, Option.bind_some]
  generalize (decide (d.1 ≥ 1) && decide (d.1 ≤ 9)) = b3
  cases b3 <;> cases p <;> rfl
theorem F74_eq (n : Nat) (d : D3) : F74 n d = some (formed d, ()) := by
  unfold F74 J74_2
  simp only [F66_eq, F80_eq, F27_eq, eta3, Option.bind_some, beq_int, J74_5_eq]
  unfold formed
  generalize (decide (d.2.1 ≥ 0) && decide (d.2.1 ≤ 2)) = b1
  generalize (decide (d.2.2 ≥ 1) && decide (d.2.2 ≤ 3)) = b2
  generalize (decide (d.1 ≥ 1) && decide (d.1 ≤ 9)) = b3
  generalize decide (d.2.1 = 0) = b4
  generalize decide (d.2.2 = 0) = b5
  generalize us d = u
  generalize vd d = v
  cases b4 <;> cases u <;> cases v <;> cases b3 <;> cases b1 <;> rfl

/-- One step of a thread, from whether something was read, and whether a reader is in. -/
def thStep (d : D3) (r i : Bool) : Option (Bool × Bool) :=
  if !formed d || ((decide (d.1 = 3) && !r) || ((i && (decide (d.1 = 7) || decide (d.1 = 9))) || (!i && decide (d.1 = 8)))) then none else some (r || rd d, decide (d.1 = 7) || (i && !decide (d.1 = 8)))
def thRun : List D3 → Bool → Bool → Option Bool
  | [], _, i => some i
  | d :: l, r, i => match thStep d r i with | none => none | some p => thRun l p.1 p.2
def thOk (l : List D3) : Bool := decide (l.length ≤ 7) && match thRun l false false with | some b => !b | none => false

theorem L56_eq (n : Nat) (xs : List D3) (hx : xs.length ≤ 9223372036854775806) : ∀ (k m i : Nat) (r b : Bool), i + k = xs.length → k < m →
    L56_0 n m xs r b (i : Int) = some (match thRun (xs.drop i) r b with | none => .inl (false, ()) | some c => .inr (.inl (c, ())))
  | 0, m + 1, i, r, b, hi, hm => by
    have : i = xs.length := by omega
    subst this
    unfold L56_0
    simp [thRun]
  | k + 1, m + 1, i, r, b, hi, hm => by
    have hlt : i < xs.length := by omega
    unfold L56_0
    simp only [lt_ii, le_0i, hlt, Int.toNat_natCast, if_true, decide_true, cond_true, eta3, F73_eq, Option.bind_some]
    rw [getD_drop xs i ((0 : Int), (0 : Int), (0 : Int)) hlt]
    generalize xs.getD i ((0 : Int), (0 : Int), (0 : Int)) = d
    unfold J56_11 J56_12 J56_7
    simp only [F37_eq, eta3, Option.bind_some, beq_int]
    have ih := fun r b => L56_eq n xs hx k m (i + 1) r b (by omega) (by omega)
    have hw := w64s (show i + k ≤ 9223372036854775806 by omega)
    revert ih hw
    generalize ((i + 1 : Nat) : Int) = j
    intro ih hw
    have hk : ∀ a b : Int, a ≠ b → decide (d.1 = a) = true → decide (d.1 = b) = false := by
      intro a b hab h; simp at h; simp [h, hab]
    have h1 := hk 3 7 (by decide)
    have h2 := hk 3 8 (by decide)
    have h3 := hk 7 8 (by decide)
    have h4 := hk 3 9 (by decide)
    have h5 := hk 7 9 (by decide)
    have h6 := hk 8 9 (by decide)
    clear hk
    unfold thRun thStep
    generalize formed d = f at *
    generalize rd d = q at *
    generalize decide (d.1 = 3) = b3 at *
    generalize decide (d.1 = 7) = b7 at *
    generalize decide (d.1 = 8) = b8 at *
    generalize decide (d.1 = 9) = b9 at *
    cases f <;> cases b3 <;> cases b7 <;> cases b8 <;> cases b9 <;> cases r <;> cases b <;> first | (cases h1 rfl; done) | (cases h2 rfl; done) | (cases h3 rfl; done) | (cases h4 rfl; done) | (cases h5 rfl; done) | (cases h6 rfl; done) | simp [hw, ih]

theorem F56_eq (n : Nat) (xs : List D3) (hn : 1048576 < n) : F56 n xs = some (thOk xs, ()) := by
  unfold F56 thOk
  by_cases h : xs.length ≤ 7
  · rw [show decide ((xs.length : Int) > 7) = false by simp; omega, cond_false, show ((0 : Int)) = ((0 : Nat) : Int) from rfl, L56_eq n xs (by omega) xs.length n 0 false false (by omega) (by omega)]
    simp only [h, decide_true, Bool.true_and, List.drop_zero]
    cases thRun xs false false <;> rfl
  · rw [show decide ((xs.length : Int) > 7) = true by simp; omega]
    simp [h]

theorem J65_6_eq (n : Nat) (x1 : List D3) (r b : Bool) (d : D3) (w : Bool) (xs : List D3) (l i : Int) : J65_6 n x1 r b (d, ()) w xs l i =
    some (if (!formed d || w) = true then .inl (false, ()) else .inr (.inl (x1, r || rd d, decide (d.1 = 7) || (b && !decide (d.1 = 8)), xs, l, i, ()))) := by
  unfold J65_6 J65_8 J65_9
  simp only [F74_eq, F53_eq, eta3, Option.bind_some, beq_int, bne_int]
  generalize formed d = f
  generalize rd d = q
  generalize decide (d.1 = 7) = b7
  generalize decide (d.1 = 8) = b8
  cases f <;> cases w <;> cases r <;> cases b <;> cases b7 <;> rfl

theorem L65_eq (n : Nat) (x1 xs : List D3) (hx : xs.length ≤ 9223372036854775806) : ∀ (k m i : Nat) (r b : Bool), i + k = xs.length → k < m →
    L65_0 n m x1 r b xs (xs.length : Int) (i : Int) = some (match thRun (xs.drop i) r b with | none => .inl (false, ()) | some c => .inr (.inl (x1, c, ())))
  | 0, m + 1, i, r, b, hi, hm => by
    have : i = xs.length := by omega
    subst this
    unfold L65_0
    simp [thRun]
  | k + 1, m + 1, i, r, b, hi, hm => by
    have hlt : i < xs.length := by omega
    unfold L65_0
    simp only [lt_ii, le_0i, hlt, Int.toNat_natCast, if_true, decide_true, cond_true, eta3]
    rw [getD_drop xs i ((0 : Int), (0 : Int), (0 : Int)) hlt]
    generalize xs.getD i ((0 : Int), (0 : Int), (0 : Int)) = d
    simp only [beq_int, J65_6_eq, J65_10]
    have ih := fun r b => L65_eq n x1 xs hx k m (i + 1) r b (by omega) (by omega)
    have hw := w64s (show i + k ≤ 9223372036854775806 by omega)
    revert ih hw
    generalize ((i + 1 : Nat) : Int) = j
    intro ih hw
    have hk : ∀ a b : Int, a ≠ b → decide (d.1 = a) = true → decide (d.1 = b) = false := by
      intro a b hab h; simp at h; simp [h, hab]
    have h1 := hk 3 7 (by decide)
    have h2 := hk 3 8 (by decide)
    have h3 := hk 7 8 (by decide)
    have h4 := hk 3 9 (by decide)
    have h5 := hk 7 9 (by decide)
    have h6 := hk 8 9 (by decide)
    clear hk
    unfold thRun thStep
    generalize formed d = f at *
    generalize rd d = q at *
    generalize decide (d.1 = 3) = b3 at *
    generalize decide (d.1 = 7) = b7 at *
    generalize decide (d.1 = 8) = b8 at *
    generalize decide (d.1 = 9) = b9 at *
    cases f <;> cases b3 <;> cases b7 <;> cases b8 <;> cases b9 <;> first | (cases h1 rfl; done) | (cases h2 rfl; done) | (cases h3 rfl; done) | (cases h4 rfl; done) | (cases h5 rfl; done) | (cases h6 rfl; done) | (cases r <;> cases b <;> simp [hw, ih])

theorem F65_eq (n : Nat) (xs : List D3) (hn : 1048576 < n) (hx : xs.length ≤ 1048576) : F65 n xs = some (thOk xs, ()) := by
  unfold F65 thOk
  rw [show ((0 : Int)) = ((0 : Nat) : Int) from rfl, L65_eq n xs xs (by omega) xs.length n 0 false false (by omega) (by omega), List.drop_zero]
  cases thRun xs false false with
  | none => simp
  | some c =>
    have : decide ((xs.length : Int) ≤ 7) = decide (xs.length ≤ 7) := by by_cases h : xs.length ≤ 7 <;> simp [h] <;> omega
    cases c <;> simp [this]

/-- How many reads and writes. -/
def usesN : List D3 → Nat
  | [] => 0
  | d :: l => (if us d then 1 else 0) + usesN l

theorem L33_2_eq (n : Nat) (p : List (List D3)) (t : Nat) (ht : t < p.length) (hl : (p.getD t []).length ≤ 1048576) (a : Int) : ∀ (k m i : Nat) (u : Int), i + k = (p.getD t []).length → k < m → 0 ≤ u → u + k ≤ 2097152 →
    L33_2 n m (p, ()) a u (t : Int) (i : Int) = some (.inl ((p, ()), a, u + usesN ((p.getD t []).drop i), (t : Int), ()))
  | 0, m + 1, i, u, hi, hm, h0, h1 => by
    have : i = (p.getD t []).length := by omega
    unfold L33_2
    simp only [show (Ty.rs (72 : Go.TypeId) ((Ty.int Go.IntKind.i64).pair ((Ty.int Go.IntKind.i64).pair (Ty.int Go.IntKind.i64)))).dflt = ([] : List D3) from rfl, lt_ii, le_0i, ht, Int.toNat_natCast, if_true]
    rw [show decide (i < (p.getD t []).length) = false from decide_eq_false (by omega), cond_false, List.drop_eq_nil_of_le (by omega)]
    simp [usesN]
  | k + 1, m + 1, i, u, hi, hm, h0, h1 => by
    have hlt : i < (p.getD t []).length := by omega
    have ih := fun u => L33_2_eq n p t ht hl a k m (i + 1) u (by omega) (by omega)
    unfold L33_2
    simp only [show (Ty.rs (72 : Go.TypeId) ((Ty.int Go.IntKind.i64).pair ((Ty.int Go.IntKind.i64).pair (Ty.int Go.IntKind.i64)))).dflt = ([] : List D3) from rfl, lt_ii, le_0i, ht, hlt, Int.toNat_natCast, if_true, decide_true, cond_true, eta3, F37_eq, F39_eq, Option.bind_some]
    rw [getD_drop (p.getD t []) i ((0 : Int), (0 : Int), (0 : Int)) hlt]
    generalize (p.getD t []).getD i ((0 : Int), (0 : Int), (0 : Int)) = d
    have hw := w64s (show i + k ≤ 9223372036854775806 by omega)
    have hu : IntKind.i64.wrap (u + 1) = u + 1 := w64 (by omega) (by omega)
    revert ih hw
    generalize ((i + 1 : Nat) : Int) = j
    intro ih hw
    unfold J33_13 usesN us
    have ih1 := ih (u + 1) (by omega) (by omega)
    have ih2 := ih u (by omega) (by omega)
    cases rd d <;> cases wr d <;> simp [hw, hu, ih1, ih2, Int.add_assoc]

def lens : List (List D3) → Nat
  | [] => 0
  | t :: p => t.length + lens p
def usesAll : List (List D3) → Nat
  | [] => 0
  | t :: p => usesN t + usesAll p
theorem usesN_le : ∀ l : List D3, usesN l ≤ l.length
  | [] => Nat.le_refl _
  | d :: l => by have := usesN_le l; unfold usesN; simp; split <;> omega
theorem thOk_len {l : List D3} (h : thOk l = true) : l.length ≤ 7 := by
  unfold thOk at h; simp at h; exact h.1

/-- A program is ok. -/
def progOk (p : List (List D3)) : Bool := decide (p.length ≤ 3) && (p.all thOk && (decide (lens p ≤ 14) && decide (usesAll p ≤ 6)))

theorem L33_0_eq (n : Nat) (hn : 1048576 < n) (p : List (List D3)) (hp : p.length ≤ 3) : ∀ (k m i : Nat) (a u : Int), i + k = p.length → k < m → 0 ≤ a → a ≤ 7 * i → 0 ≤ u → u ≤ 7 * i →
    L33_0 n m (p, ()) a u (i : Int) = some (if (p.drop i).all thOk then .inr (.inl (a + lens (p.drop i), u + usesAll (p.drop i), ())) else .inl (false, ()))
  | 0, m + 1, i, a, u, hi, hm, _, _, _, _ => by
    have : i = p.length := by omega
    subst this
    unfold L33_0
    simp [lens, usesAll]
  | k + 1, m + 1, i, a, u, hi, hm, h0, h1, h2, h3 => by
    have hlt : i < p.length := by omega
    have ih := fun a u => L33_0_eq n hn p hp k m (i + 1) a u (by omega) (by omega)
    unfold L33_0
    simp only [show (Ty.rs (72 : Go.TypeId) ((Ty.int Go.IntKind.i64).pair ((Ty.int Go.IntKind.i64).pair (Ty.int Go.IntKind.i64)))).dflt = ([] : List D3) from rfl, lt_ii, le_0i, hlt, Int.toNat_natCast, if_true, decide_true, cond_true, F56_eq n _ hn, Option.bind_some]
    rw [getD_drop p i [] hlt]
    by_cases hok : thOk (p.getD i []) = true
    · have hlen := thOk_len hok
      have hus := usesN_le (p.getD i [])
      simp only [hok, Bool.not_true, cond_false]
      rw [w64 (by omega) (by omega), show ((0 : Int)) = ((0 : Nat) : Int) from rfl, L33_2_eq n p i hlt (by omega) _ (p.getD i []).length n 0 u (by omega) (by omega) h2 (by omega)]
      simp only [List.drop_zero]
      rw [w64s (show i + k ≤ 9223372036854775806 by omega), ih _ _ (by omega) (by omega) (by omega) (by omega)]
      simp only [List.all_cons, hok, Bool.true_and, lens, usesAll]
      split
      · simp only [Int.natCast_add, Int.add_assoc]
      · rfl
    · simp only [hok, Bool.not_false, cond_true, List.all_cons, Bool.false_and]
      rfl

theorem F33_eq (n : Nat) (hn : 1048576 < n) (p : List (List D3)) : F33 n p = some (progOk p, ()) := by
  unfold F33 progOk
  by_cases h : p.length ≤ 3
  · rw [show decide ((p.length : Int) > 3) = false by simp; omega, cond_false]
    have := L33_0_eq n hn p h p.length n 0 0 0 (by omega) (by omega) (by omega) (by omega) (by omega) (by omega)
    rw [show (((0 : Nat)) : Int) = 0 from rfl, List.drop_zero] at this
    rw [this]
    simp only [h, decide_true, Bool.true_and]
    by_cases ha : p.all thOk = true
    · simp only [ha, if_true, Bool.true_and, Int.zero_add]
      rw [show decide ((lens p : Int) ≤ 14) = decide (lens p ≤ 14) by by_cases hl : lens p ≤ 14 <;> simp [hl] <;> omega, show decide ((usesAll p : Int) ≤ 6) = decide (usesAll p ≤ 6) by by_cases hl : usesAll p ≤ 6 <;> simp [hl] <;> omega]
      cases decide (lens p ≤ 14) <;> rfl
    · simp [ha]
  · rw [show decide ((p.length : Int) > 3) = true by simp; omega]
    simp [h]

theorem L47_2_eq (n : Nat) (a : Int) (p : List (List D3)) (l t : Int) (xs : List D3) (hl : xs.length ≤ 1048576) : ∀ (k m i : Nat) (u : Int), i + k = xs.length → k < m → 0 ≤ u → u + k ≤ 2097152 →
    L47_2 n m a u p l t xs (xs.length : Int) (i : Int) = some (.inl (a, u + usesN (xs.drop i), p, l, t, ()))
  | 0, m + 1, i, u, hi, hm, h0, h1 => by
    have : i = xs.length := by omega
    subst this
    unfold L47_2
    simp [usesN]
  | k + 1, m + 1, i, u, hi, hm, h0, h1 => by
    have hlt : i < xs.length := by omega
    have ih := fun u => L47_2_eq n a p l t xs hl k m (i + 1) u (by omega) (by omega)
    unfold L47_2
    simp only [lt_ii, le_0i, hlt, Int.toNat_natCast, if_true, decide_true, cond_true, eta3, F66_eq, Option.bind_some]
    rw [getD_drop xs i ((0 : Int), (0 : Int), (0 : Int)) hlt]
    generalize xs.getD i ((0 : Int), (0 : Int), (0 : Int)) = d
    have hw := w64s (show i + k ≤ 9223372036854775806 by omega)
    have hu : IntKind.i64.wrap (u + 1) = u + 1 := w64 (by omega) (by omega)
    revert ih hw
    generalize ((i + 1 : Nat) : Int) = j
    intro ih hw
    unfold J47_15 usesN
    have ih1 := ih (u + 1) (by omega) (by omega)
    have ih2 := ih u (by omega) (by omega)
    cases us d <;> simp [hw, hu, ih1, ih2, Int.add_assoc]

theorem L47_0_eq (n : Nat) (hn : 1048576 < n) (p : List (List D3)) (hp : p.length ≤ 3) (hs : ∀ t ∈ p, t.length ≤ 1048576) : ∀ (k m i : Nat) (a u : Int), i + k = p.length → k < m → 0 ≤ a → a ≤ 7 * i → 0 ≤ u → u ≤ 7 * i →
    L47_0 n m a u p (p.length : Int) (i : Int) = some (if (p.drop i).all thOk then .inr (.inl (a + lens (p.drop i), u + usesAll (p.drop i), ())) else .inl (false, ()))
  | 0, m + 1, i, a, u, hi, hm, _, _, _, _ => by
    have : i = p.length := by omega
    subst this
    unfold L47_0
    simp [lens, usesAll]
  | k + 1, m + 1, i, a, u, hi, hm, h0, h1, h2, h3 => by
    have hlt : i < p.length := by omega
    have ih := fun a u => L47_0_eq n hn p hp hs k m (i + 1) a u (by omega) (by omega)
    have hsz := hs _ (getD_mem p i [] hlt)
    unfold L47_0
    simp only [show (Ty.rs (72 : Go.TypeId) ((Ty.int Go.IntKind.i64).pair ((Ty.int Go.IntKind.i64).pair (Ty.int Go.IntKind.i64)))).dflt = ([] : List D3) from rfl, lt_ii, le_0i, hlt, Int.toNat_natCast, if_true, decide_true, cond_true, F65_eq n _ hn hsz, Option.bind_some]
    rw [getD_drop p i [] hlt]
    by_cases hok : thOk (p.getD i []) = true
    · have hlen := thOk_len hok
      have hus := usesN_le (p.getD i [])
      simp only [hok, Bool.not_true, cond_false]
      rw [w64 (by omega) (by omega), show ((0 : Int)) = ((0 : Nat) : Int) from rfl, L47_2_eq n _ p _ _ (p.getD i []) (by omega) (p.getD i []).length n 0 u (by omega) (by omega) h2 (by omega)]
      simp only [List.drop_zero]
      rw [w64s (show i + k ≤ 9223372036854775806 by omega), ih _ _ (by omega) (by omega) (by omega) (by omega)]
      simp only [List.all_cons, hok, Bool.true_and, lens, usesAll]
      split
      · simp only [Int.natCast_add, Int.add_assoc]
      · rfl
    · simp only [hok, Bool.not_false, cond_true, List.all_cons, Bool.false_and]
      rfl

theorem F47_eq (n : Nat) (hn : 1048576 < n) (p : List (List D3)) (hs : ∀ t ∈ p, t.length ≤ 1048576) : F47 n p = some (progOk p, ()) := by
  unfold F47 progOk
  by_cases h : p.length ≤ 3
  · rw [show decide ((p.length : Int) > 3) = false by simp; omega, cond_false]
    have := L47_0_eq n hn p h hs p.length n 0 0 0 (by omega) (by omega) (by omega) (by omega) (by omega) (by omega)
    rw [show (((0 : Nat)) : Int) = 0 from rfl, List.drop_zero] at this
    rw [this]
    simp only [h, decide_true, Bool.true_and]
    by_cases ha : p.all thOk = true
    · simp only [ha, if_true, Bool.true_and, Int.zero_add]
      rw [show decide ((lens p : Int) ≤ 14) = decide (lens p ≤ 14) by by_cases hl : lens p ≤ 14 <;> simp [hl] <;> omega, show decide ((usesAll p : Int) ≤ 6) = decide (usesAll p ≤ 6) by by_cases hl : usesAll p ≤ 6 <;> simp [hl] <;> omega]
      cases decide (lens p ≤ 14) <;> rfl
    · simp [ha]
  · rw [show decide ((p.length : Int) > 3) = true by simp; omega]
    simp [h]

theorem progOkIff {p : List (List D3)} : progOk p = true ↔ p.length ≤ 3 ∧ (∀ t ∈ p, thOk t = true) ∧ lens p ≤ 14 ∧ usesAll p ≤ 6 := by
  unfold progOk
  simp only [Bool.and_eq_true, decide_eq_true_eq, List.all_eq_true]

end Go.Proofs.YtdacfaincamliaaGreat.Ev
