/- What the printed functions of ProgOk come to. Conditions: none. -/
import Derived.Test.YtdacfaincamliaaGA
import Derived.Test.YtdacfaincamliaaPL
namespace Go.Proofs.Ytdacfaincamliaa.Ev
open Go
abbrev D3 := Int × Int × Int

theorem eta3 (x : D3) : (x.fst, x.snd.fst, x.snd.snd) = x := rfl
def rd (d : D3) : Bool := decide (d.1 = 2) || decide (d.1 = 5)
def wr (d : D3) : Bool := decide (d.1 = 1) || (decide (d.1 = 3) || decide (d.1 = 6))
def us (d : D3) : Bool := rd d || wr d
def vd (d : D3) : Bool := decide (d.1 = 1) || decide (d.1 = 6)
def formed (d : D3) : Bool := (decide (d.1 ≥ 1) && decide (d.1 ≤ 9)) && (decide (d.2.1 = 0) || us d && (decide (d.2.1 ≥ 0) && decide (d.2.1 ≤ 2))) && (if vd d then decide (d.2.2 ≥ 1) && decide (d.2.2 ≤ 3) else decide (d.2.2 = 0))

theorem F79_eq (n : Nat) (d : D3) : F79 n d = some (rd d, ()) := by
  unfold F79 rd; simp only [beq_int]; cases decide (d.1 = 2) <;> rfl
theorem F80_eq (n : Nat) (d : D3) : F80 n d = some (wr d, ()) := by
  unfold F80 wr; simp only [beq_int]; cases decide (d.1 = 1) <;> cases decide (d.1 = 3) <;> rfl
theorem F54_eq (n : Nat) (x a b : Int) : F54 n x a b = some (decide (x ≥ a) && decide (x ≤ b), ()) := by
  unfold F54; cases decide (x ≥ a) <;> rfl
theorem F86_eq (n : Nat) (x a b : Int) : F86 n x a b = some (decide (x ≥ a) && decide (x ≤ b), ()) := by
  unfold F86; cases decide (x ≥ a) <;> rfl
theorem F121_eq (n : Nat) (d : D3) : F121 n d = some (rd d, ()) := by
  unfold F121 rd; simp only [beq_int]; cases decide (d.1 = 2) <;> rfl
theorem F124_eq (n : Nat) (d : D3) : F124 n d = some (wr d, ()) := by
  unfold F124 wr; simp only [beq_int]; cases decide (d.1 = 1) <;> cases decide (d.1 = 3) <;> rfl
theorem F110_eq (n : Nat) (d : D3) : F110 n d = some (us d, ()) := by
  unfold F110 us; simp only [F121_eq, F124_eq, eta3, Option.bind_some]; cases rd d <;> rfl
theorem F140_eq (n : Nat) (d : D3) : F140 n d = some (vd d, ()) := by
  unfold F140 vd; simp only [beq_int]; cases decide (d.1 = 1) <;> rfl

theorem J120_3_eq (n : Nat) (d : D3) (v p : Bool) (h : p = us d) (h2 : v = vd d) : J120_3 n (d, ()) v p = some (.inl (formed d, ())) := by
  unfold J120_3
  simp only [F54_eq, Option.bind_some, beq_int]
  unfold formed
  rw [← h, ← h2]
  have h0 : decide (d.2.1 = 0) = true → (decide (d.2.1 ≥ 0) && decide (d.2.1 ≤ 2)) = true := by
    intro h; simp at h; simp [h]
  revert h0
  generalize (decide (d.2.1 ≥ 0) && decide (d.2.1 ≤ 2)) = b1
  generalize (decide (d.2.2 ≥ 1) && decide (d.2.2 ≤ 3)) = b2
  generalize (decide (d.1 ≥ 1) && decide (d.1 ≤ 9)) = b3
  generalize decide (d.2.1 = 0) = b4
  generalize decide (d.2.2 = 0) = b5
  intro h0
  cases b3 <;> cases p <;> cases b4 <;> cases b1 <;> first | (cases h0 rfl; done) | (cases v <;> cases b2 <;> cases b5 <;> rfl)

theorem F120_eq (n : Nat) (d : D3) : F120 n d = some (formed d, ()) := by
  unfold F120 J120_2
  simp only [F79_eq, F80_eq, eta3, Option.bind_some, beq_int]
  have hu : us d = (rd d || wr d) := rfl
  have hv : vd d = (decide (d.1 = 1) || decide (d.1 = 6)) := rfl
  cases h1 : decide (d.1 = 1) <;> cases h2 : rd d
  · simp only [h1, h2, cond_false]
    rw [J120_3_eq n d _ _ (by rw [hu, h2]; rfl) (by rw [hv, h1]; rfl)]
  · simp only [h1, h2, cond_false, cond_true]
    rw [J120_3_eq n d _ _ (by rw [hu, h2]; rfl) (by rw [hv, h1]; rfl)]
  · simp only [h1, h2, cond_false, cond_true]
    rw [J120_3_eq n d _ _ (by rw [hu, h2]; rfl) (by rw [hv, h1]; rfl)]
  · simp only [h1, h2, cond_true]
    rw [J120_3_eq n d _ _ (by rw [hu, h2]; rfl) (by rw [hv, h1]; rfl)]

theorem J134_5_eq (n : Nat) (d : D3) (p v : Bool) : J134_5 n (d, ()) p v = some (.inl ((decide (d.1 ≥ 1) && decide (d.1 ≤ 9)) && p && v, ())) := by
  unfold J134_5
  simp only [F86_eq, Option.bind_some]
  generalize (decide (d.1 ≥ 1) && decide (d.1 ≤ 9)) = b3
  cases b3 <;> cases p <;> rfl
theorem F134_eq (n : Nat) (d : D3) : F134 n d = some (formed d, ()) := by
  unfold F134 J134_2
  simp only [F110_eq, F140_eq, F86_eq, eta3, Option.bind_some, beq_int, J134_5_eq]
  unfold formed
  generalize (decide (d.2.1 ≥ 0) && decide (d.2.1 ≤ 2)) = b1
  generalize (decide (d.2.2 ≥ 1) && decide (d.2.2 ≤ 3)) = b2
  generalize (decide (d.1 ≥ 1) && decide (d.1 ≤ 9)) = b3
  generalize decide (d.2.1 = 0) = b4
  generalize decide (d.2.2 = 0) = b5
  generalize us d = u
  generalize vd d = v
  cases b4 <;> cases u <;> cases v <;> cases b3 <;> cases b1 <;> rfl

/-- One step of a thread, from whether something was read, and whether a reader is in. -/
def thStep (d : D3) (r i : Bool) : Option (Bool × Bool) :=
  if !formed d || ((decide (d.1 = 3) && !r) || ((i && (decide (d.1 = 7) || decide (d.1 = 9))) || (!i && decide (d.1 = 8)))) then none else some (r || rd d, decide (d.1 = 7) || (i && !decide (d.1 = 8)))
def thRun : List D3 → Bool → Bool → Option Bool
  | [], _, i => some i
  | d :: l, r, i => match thStep d r i with | none => none | some p => thRun l p.1 p.2
def thOk (l : List D3) : Bool := decide (l.length ≤ 7) && match thRun l false false with | some b => !b | none => false

theorem L78_eq (n : Nat) (xs : List D3) (hx : xs.length ≤ 9223372036854775806) : ∀ (k m i : Nat) (r b : Bool), i + k = xs.length → k < m →
    L78_0 n m xs r b (i : Int) = some (match thRun (xs.drop i) r b with | none => .inl (false, ()) | some c => .inr (.inl (c, ())))
  | 0, m + 1, i, r, b, hi, hm => by
    have : i = xs.length := by omega
    subst this
    unfold L78_0
    simp [thRun]
  | k + 1, m + 1, i, r, b, hi, hm => by
    have hlt : i < xs.length := by omega
    unfold L78_0
    simp only [lt_ii, le_0i, hlt, Int.toNat_natCast, if_true, decide_true, cond_true, eta3, F120_eq, Option.bind_some]
    rw [getD_drop xs i ((0 : Int), (0 : Int), (0 : Int)) hlt]
    generalize xs.getD i ((0 : Int), (0 : Int), (0 : Int)) = d
    unfold J78_11 J78_12 J78_7
    simp only [F79_eq, eta3, Option.bind_some, beq_int]
    have ih := fun r b => L78_eq n xs hx k m (i + 1) r b (by omega) (by omega)
    have hw := w64s (show i + k ≤ 9223372036854775806 by omega)
    revert ih hw
    generalize ((i + 1 : Nat) : Int) = j
    intro ih hw
    have hk : ∀ a b : Int, a ≠ b → decide (d.1 = a) = true → decide (d.1 = b) = false := by
      intro a b hab h; simp at h; simp [h, hab]
    have h1 := hk 3 7 (by decide)
    have h2 := hk 3 8 (by decide)
    have h3 := hk 7 8 (by decide)
    have h4 := hk 3 9 (by decide)
    have h5 := hk 7 9 (by decide)
    have h6 := hk 8 9 (by decide)
    clear hk
    unfold thRun thStep
    generalize formed d = f at *
    generalize rd d = q at *
    generalize decide (d.1 = 3) = b3 at *
    generalize decide (d.1 = 7) = b7 at *
    generalize decide (d.1 = 8) = b8 at *
    generalize decide (d.1 = 9) = b9 at *
    cases f <;> cases b3 <;> cases b7 <;> cases b8 <;> cases b9 <;> cases r <;> cases b <;> first | (cases h1 rfl; done) | (cases h2 rfl; done) | (cases h3 rfl; done) | (cases h4 rfl; done) | (cases h5 rfl; done) | (cases h6 rfl; done) | simp [hw, ih]

theorem F78_eq (n : Nat) (xs : List D3) (hn : 1048576 < n) : F78 n xs = some (thOk xs, ()) := by
  unfold F78 thOk
  by_cases h : xs.length ≤ 7
  · rw [show decide ((xs.length : Int) > 7) = false by simp; omega, cond_false, show ((0 : Int)) = ((0 : Nat) : Int) from rfl, L78_eq n xs (by omega) xs.length n 0 false false (by omega) (by omega)]
    simp only [h, decide_true, Bool.true_and, List.drop_zero]
    cases thRun xs false false <;> rfl
  · rw [show decide ((xs.length : Int) > 7) = true by simp; omega]
    simp [h]

theorem J109_6_eq (n : Nat) (x1 : List D3) (r b : Bool) (d : D3) (w : Bool) (xs : List D3) (l i : Int) : J109_6 n x1 r b (d, ()) w xs l i =
    some (if (!formed d || w) = true then .inl (false, ()) else .inr (.inl (x1, r || rd d, decide (d.1 = 7) || (b && !decide (d.1 = 8)), xs, l, i, ()))) := by
  unfold J109_6 J109_8 J109_9
  simp only [F134_eq, F121_eq, eta3, Option.bind_some, beq_int, bne_int]
  generalize formed d = f
  generalize rd d = q
  generalize decide (d.1 = 7) = b7
  generalize decide (d.1 = 8) = b8
  cases f <;> cases w <;> cases r <;> cases b <;> cases b7 <;> rfl

theorem L109_eq (n : Nat) (x1 xs : List D3) (hx : xs.length ≤ 9223372036854775806) : ∀ (k m i : Nat) (r b : Bool), i + k = xs.length → k < m →
    L109_0 n m x1 r b xs (xs.length : Int) (i : Int) = some (match thRun (xs.drop i) r b with | none => .inl (false, ()) | some c => .inr (.inl (x1, c, ())))
  | 0, m + 1, i, r, b, hi, hm => by
    have : i = xs.length := by omega
    subst this
    unfold L109_0
    simp [thRun]
  | k + 1, m + 1, i, r, b, hi, hm => by
    have hlt : i < xs.length := by omega
    unfold L109_0
    simp only [lt_ii, le_0i, hlt, Int.toNat_natCast, if_true, decide_true, cond_true, eta3]
    rw [getD_drop xs i ((0 : Int), (0 : Int), (0 : Int)) hlt]
    generalize xs.getD i ((0 : Int), (0 : Int), (0 : Int)) = d
    simp only [beq_int, J109_6_eq, J109_10]
    have ih := fun r b => L109_eq n x1 xs hx k m (i + 1) r b (by omega) (by omega)
    have hw := w64s (show i + k ≤ 9223372036854775806 by omega)
    revert ih hw
    generalize ((i + 1 : Nat) : Int) = j
    intro ih hw
    have hk : ∀ a b : Int, a ≠ b → decide (d.1 = a) = true → decide (d.1 = b) = false := by
      intro a b hab h; simp at h; simp [h, hab]
    have h1 := hk 3 7 (by decide)
    have h2 := hk 3 8 (by decide)
    have h3 := hk 7 8 (by decide)
    have h4 := hk 3 9 (by decide)
    have h5 := hk 7 9 (by decide)
    have h6 := hk 8 9 (by decide)
    clear hk
    unfold thRun thStep
    generalize formed d = f at *
    generalize rd d = q at *
    generalize decide (d.1 = 3) = b3 at *
    generalize decide (d.1 = 7) = b7 at *
    generalize decide (d.1 = 8) = b8 at *
    generalize decide (d.1 = 9) = b9 at *
    cases f <;> cases b3 <;> cases b7 <;> cases b8 <;> cases b9 <;> first | (cases h1 rfl; done) | (cases h2 rfl; done) | (cases h3 rfl; done) | (cases h4 rfl; done) | (cases h5 rfl; done) | (cases h6 rfl; done) | (cases r <;> cases b <;> simp [hw, ih])

theorem F109_eq (n : Nat) (xs : List D3) (hn : 1048576 < n) (hx : xs.length ≤ 1048576) : F109 n xs = some (thOk xs, ()) := by
  unfold F109 thOk
  rw [show ((0 : Int)) = ((0 : Nat) : Int) from rfl, L109_eq n xs xs (by omega) xs.length n 0 false false (by omega) (by omega), List.drop_zero]
  cases thRun xs false false with
  | none => simp
  | some c =>
    have : decide ((xs.length : Int) ≤ 7) = decide (xs.length ≤ 7) := by by_cases h : xs.length ≤ 7 <;> simp [h] <;> omega
    cases c <;> simp [this]

/-- How many reads and writes. -/
def usesN : List D3 → Nat
  | [] => 0
  | d :: l => (if us d then 1 else 0) + usesN l

theorem L36_2_eq (n : Nat) (p : List (List D3)) (t : Nat) (ht : t < p.length) (hl : (p.getD t []).length ≤ 1048576) (a : Int) : ∀ (k m i : Nat) (u : Int), i + k = (p.getD t []).length → k < m → 0 ≤ u → u + k ≤ 2097152 →
    L36_2 n m (p, ()) a u (t : Int) (i : Int) = some (.inl ((p, ()), a, u + usesN ((p.getD t []).drop i), (t : Int), ()))
  | 0, m + 1, i, u, hi, hm, h0, h1 => by
    have : i = (p.getD t []).length := by omega
    unfold L36_2
    simp only [show (Ty.rs (59 : Go.TypeId) ((Ty.int Go.IntKind.i64).pair ((Ty.int Go.IntKind.i64).pair (Ty.int Go.IntKind.i64)))).dflt = ([] : List D3) from rfl, lt_ii, le_0i, ht, Int.toNat_natCast, if_true]
    rw [show decide (i < (p.getD t []).length) = false from decide_eq_false (by omega), cond_false, List.drop_eq_nil_of_le (by omega)]
    simp [usesN]
  | k + 1, m + 1, i, u, hi, hm, h0, h1 => by
    have hlt : i < (p.getD t []).length := by omega
    have ih := fun u => L36_2_eq n p t ht hl a k m (i + 1) u (by omega) (by omega)
    unfold L36_2
    simp only [show (Ty.rs (59 : Go.TypeId) ((Ty.int Go.IntKind.i64).pair ((Ty.int Go.IntKind.i64).pair (Ty.int Go.IntKind.i64)))).dflt = ([] : List D3) from rfl, lt_ii, le_0i, ht, hlt, Int.toNat_natCast, if_true, decide_true, cond_true, eta3, F79_eq, F80_eq, Option.bind_some]
    rw [getD_drop (p.getD t []) i ((0 : Int), (0 : Int), (0 : Int)) hlt]
    generalize (p.getD t []).getD i ((0 : Int), (0 : Int), (0 : Int)) = d
    have hw := w64s (show i + k ≤ 9223372036854775806 by omega)
    have hu : IntKind.i64.wrap (u + 1) = u + 1 := w64 (by omega) (by omega)
    revert ih hw
    generalize ((i + 1 : Nat) : Int) = j
    intro ih hw
    unfold J36_13 usesN us
    have ih1 := ih (u + 1) (by omega) (by omega)
    have ih2 := ih u (by omega) (by omega)
    cases rd d <;> cases wr d <;> simp [hw, hu, ih1, ih2, Int.add_assoc]

def lens : List (List D3) → Nat
  | [] => 0
  | t :: p => t.length + lens p
def usesAll : List (List D3) → Nat
  | [] => 0
  | t :: p => usesN t + usesAll p
theorem usesN_le : ∀ l : List D3, usesN l ≤ l.length
  | [] => Nat.le_refl _
  | d :: l => by have := usesN_le l; unfold usesN; simp; split <;> omega
theorem thOk_len {l : List D3} (h : thOk l = true) : l.length ≤ 7 := by
  unfold thOk at h; simp at h; exact h.1

/-- A program is ok. -/
def progOk (p : List (List D3)) : Bool := decide (p.length ≤ 3) && (p.all thOk && (decide (lens p ≤ 14) && decide (usesAll p ≤ 6)))

theorem L36_0_eq (n : Nat) (hn : 1048576 < n) (p : List (List D3)) (hp : p.length ≤ 3) : ∀ (k m i : Nat) (a u : Int), i + k = p.length → k < m → 0 ≤ a → a ≤ 7 * i → 0 ≤ u → u ≤ 7 * i →
    L36_0 n m (p, ()) a u (i : Int) = some (if (p.drop i).all thOk then .inr (.inl (a + lens (p.drop i), u + usesAll (p.drop i), ())) else .inl (false, ()))
  | 0, m + 1, i, a, u, hi, hm, _, _, _, _ => by
    have : i = p.length := by omega
    subst this
    unfold L36_0
    simp [lens, usesAll]
  | k + 1, m + 1, i, a, u, hi, hm, h0, h1, h2, h3 => by
    have hlt : i < p.length := by omega
    have ih := fun a u => L36_0_eq n hn p hp k m (i + 1) a u (by omega) (by omega)
    unfold L36_0
    simp only [show (Ty.rs (59 : Go.TypeId) ((Ty.int Go.IntKind.i64).pair ((Ty.int Go.IntKind.i64).pair (Ty.int Go.IntKind.i64)))).dflt = ([] : List D3) from rfl, lt_ii, le_0i, hlt, Int.toNat_natCast, if_true, decide_true, cond_true, F78_eq n _ hn, Option.bind_some]
    rw [getD_drop p i [] hlt]
    by_cases hok : thOk (p.getD i []) = true
    · have hlen := thOk_len hok
      have hus := usesN_le (p.getD i [])
      simp only [hok, Bool.not_true, cond_false]
      rw [w64 (by omega) (by omega), show ((0 : Int)) = ((0 : Nat) : Int) from rfl, L36_2_eq n p i hlt (by omega) _ (p.getD i []).length n 0 u (by omega) (by omega) h2 (by omega)]
      simp only [List.drop_zero]
      rw [w64s (show i + k ≤ 9223372036854775806 by omega), ih _ _ (by omega) (by omega) (by omega) (by omega)]
      simp only [List.all_cons, hok, Bool.true_and, lens, usesAll]
      split
      · simp only [Int.natCast_add, Int.add_assoc]
      · rfl
    · simp only [hok, Bool.not_false, cond_true, List.all_cons, Bool.false_and]
      rfl

theorem F36_eq (n : Nat) (hn : 1048576 < n) (p : List (List D3)) : F36 n p = some (progOk p, ()) := by
  unfold F36 progOk
  by_cases h : p.length ≤ 3
  · rw [show decide ((p.length : Int) > 3) = false by simp; omega, cond_false]
    have := L36_0_eq n hn p h p.length n 0 0 0 (by omega) (by omega) (by omega) (by omega) (by omega) (by omega)
    rw [show (((0 : Nat)) : Int) = 0 from rfl, List.drop_zero] at this
    rw [this]
    simp only [h, decide_true, Bool.true_and]
    by_cases ha : p.all thOk = true
    · simp only [ha, if_true, Bool.true_and, Int.zero_add]
      rw [show decide ((lens p : Int) ≤ 14) = decide (lens p ≤ 14) by by_cases hl : lens p ≤ 14 <;> simp [hl] <;> omega, show decide ((usesAll p : Int) ≤ 6) = decide (usesAll p ≤ 6) by by_cases hl : usesAll p ≤ 6 <;> simp [hl] <;> omega]
      cases decide (lens p ≤ 14) <;> rfl
    · simp [ha]
  · rw [show decide ((p.length : Int) > 3) = true by simp; omega]
    simp [h]

theorem L69_2_eq (n : Nat) (a : Int) (p : List (List D3)) (l t : Int) (xs : List D3) (hl : xs.length ≤ 1048576) : ∀ (k m i : Nat) (u : Int), i + k = xs.length → k < m → 0 ≤ u → u + k ≤ 2097152 →
    L69_2 n m a u p l t xs (xs.length : Int) (i : Int) = some (.inl (a, u + usesN (xs.drop i), p, l, t, ()))
  | 0, m + 1, i, u, hi, hm, h0, h1 => by
    have : i = xs.length := by omega
    subst this
    unfold L69_2
    simp [usesN]
  | k + 1, m + 1, i, u, hi, hm, h0, h1 => by
    have hlt : i < xs.length := by omega
    have ih := fun u => L69_2_eq n a p l t xs hl k m (i + 1) u (by omega) (by omega)
    unfold L69_2
    simp only [lt_ii, le_0i, hlt, Int.toNat_natCast, if_true, decide_true, cond_true, eta3, F110_eq, Option.bind_some]
    rw [getD_drop xs i ((0 : Int), (0 : Int), (0 : Int)) hlt]
    generalize xs.getD i ((0 : Int), (0 : Int), (0 : Int)) = d
    have hw := w64s (show i + k ≤ 9223372036854775806 by omega)
    have hu : IntKind.i64.wrap (u + 1) = u + 1 := w64 (by omega) (by omega)
    revert ih hw
    generalize ((i + 1 : Nat) : Int) = j
    intro ih hw
    unfold J69_15 usesN
    have ih1 := ih (u + 1) (by omega) (by omega)
    have ih2 := ih u (by omega) (by omega)
    cases us d <;> simp [hw, hu, ih1, ih2, Int.add_assoc]

theorem L69_0_eq (n : Nat) (hn : 1048576 < n) (p : List (List D3)) (hp : p.length ≤ 3) (hs : ∀ t ∈ p, t.length ≤ 1048576) : ∀ (k m i : Nat) (a u : Int), i + k = p.length → k < m → 0 ≤ a → a ≤ 7 * i → 0 ≤ u → u ≤ 7 * i →
    L69_0 n m a u p (p.length : Int) (i : Int) = some (if (p.drop i).all thOk then .inr (.inl (a + lens (p.drop i), u + usesAll (p.drop i), ())) else .inl (false, ()))
  | 0, m + 1, i, a, u, hi, hm, _, _, _, _ => by
    have : i = p.length := by omega
    subst this
    unfold L69_0
    simp [lens, usesAll]
  | k + 1, m + 1, i, a, u, hi, hm, h0, h1, h2, h3 => by
    have hlt : i < p.length := by omega
    have ih := fun a u => L69_0_eq n hn p hp hs k m (i + 1) a u (by omega) (by omega)
    have hsz := hs _ (getD_mem p i [] hlt)
    unfold L69_0
    simp only [show (Ty.rs (59 : Go.TypeId) ((Ty.int Go.IntKind.i64).pair ((Ty.int Go.IntKind.i64).pair (Ty.int Go.IntKind.i64)))).dflt = ([] : List D3) from rfl, lt_ii, le_0i, hlt, Int.toNat_natCast, if_true, decide_true, cond_true, F109_eq n _ hn hsz, Option.bind_some]
    rw [getD_drop p i [] hlt]
    by_cases hok : thOk (p.getD i []) = true
    · have hlen := thOk_len hok
      have hus := usesN_le (p.getD i [])
      simp only [hok, Bool.not_true, cond_false]
      rw [w64 (by omega) (by omega), show ((0 : Int)) = ((0 : Nat) : Int) from rfl, L69_2_eq n _ p _ _ (p.getD i []) (by omega) (p.getD i []).length n 0 u (by omega) (by omega) h2 (by omega)]
      simp only [List.drop_zero]
      rw [w64s (show i + k ≤ 9223372036854775806 by omega), ih _ _ (by omega) (by omega) (by omega) (by omega)]
      simp only [List.all_cons, hok, Bool.true_and, lens, usesAll]
      split
      · simp only [Int.natCast_add, Int.add_assoc]
      · rfl
    · simp only [hok, Bool.not_false, cond_true, List.all_cons, Bool.false_and]
      rfl

theorem F69_eq (n : Nat) (hn : 1048576 < n) (p : List (List D3)) (hs : ∀ t ∈ p, t.length ≤ 1048576) : F69 n p = some (progOk p, ()) := by
  unfold F69 progOk
  by_cases h : p.length ≤ 3
  · rw [show decide ((p.length : Int) > 3) = false by simp; omega, cond_false]
    have := L69_0_eq n hn p h hs p.length n 0 0 0 (by omega) (by omega) (by omega) (by omega) (by omega) (by omega)
    rw [show (((0 : Nat)) : Int) = 0 from rfl, List.drop_zero] at this
    rw [this]
    simp only [h, decide_true, Bool.true_and]
    by_cases ha : p.all thOk = true
    · simp only [ha, if_true, Bool.true_and, Int.zero_add]
      rw [show decide ((lens p : Int) ≤ 14) = decide (lens p ≤ 14) by by_cases hl : lens p ≤ 14 <;> simp [hl] <;> omega, show decide ((usesAll p : Int) ≤ 6) = decide (usesAll p ≤ 6) by by_cases hl : usesAll p ≤ 6 <;> simp [hl] <;> omega]
      cases decide (lens p ≤ 14) <;> rfl
    · simp [ha]
  · rw [show decide ((p.length : Int) > 3) = true by simp; omega]
    simp [h]

theorem progOkIff {p : List (List D3)} : progOk p = true ↔ p.length ≤ 3 ∧ (∀ t ∈ p, thOk t = true) ∧ lens p ≤ 14 ∧ usesAll p ≤ 6 := by
  unfold progOk
  simp only [Bool.and_eq_true, decide_eq_true_eq, List.all_eq_true]

end Go.Proofs.Ytdacfaincamliaa.Ev
