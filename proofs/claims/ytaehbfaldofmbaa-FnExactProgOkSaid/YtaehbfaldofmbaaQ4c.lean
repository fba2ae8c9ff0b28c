/- What the printed functions of ProgOk come to: the reference's and the program's are the same. Conditions: none. -/
import Derived.Test.YtaehbfaldofmbaaQ4b
namespace Go.Proofs.Ytaehbfaldofmbaa.Ev
open Go

theorem J85_6_eq (n : Nat) (x1 : List D3) (r b : Bool) (d : D3) (w : Bool) (xs : List D3) (l i : Int) : J85_6 n x1 r b (d, ()) w xs l i =
    some (if (!formed d || w) = true then .inl (false, ()) else .inr (.inl (x1, r || rd d, decide (d.1 = 7) || (b && !decide (d.1 = 8)), xs, l, i, ()))) := by
  unfold J85_6 J85_8 J85_9
  simp only [F119_eq, F120_eq, eta3, Option.bind_some, beq_int, bne_int]
  generalize formed d = f
  generalize rd d = q
  generalize decide (d.1 = 7) = b7
  generalize decide (d.1 = 8) = b8
  cases f <;> cases w <;> cases r <;> cases b <;> cases b7 <;> rfl

theorem L85_eq (n : Nat) (x1 xs : List D3) (hx : xs.length ≤ 9223372036854775806) : ∀ (k m i : Nat) (r b : Bool), i + k = xs.length → k < m →
    L85_0 n m x1 r b xs (xs.length : Int) (i : Int) = some (match thRun (xs.drop i) r b with | none => .inl (false, ()) | some c => .inr (.inl (x1, c, ())))
  | 0, m + 1, i, r, b, hi, hm => by
    have : i = xs.length := by omega
    subst this
    unfold L85_0
    simp [thRun]
  | k + 1, m + 1, i, r, b, hi, hm => by
    have hlt : i < xs.length := by omega
    unfold L85_0
    simp only [lt_ii, le_0i, hlt, Int.toNat_natCast, if_true, decide_true, cond_true, eta3]
    rw [getD_drop xs i ((0 : Int), (0 : Int), (0 : Int)) hlt]
    generalize xs.getD i ((0 : Int), (0 : Int), (0 : Int)) = d
    simp only [beq_int, J85_6_eq, J85_10]
    have ih := fun r b => L85_eq n x1 xs hx k m (i + 1) r b (by omega) (by omega)
    have hw := w64s (show i + k ≤ 9223372036854775806 by omega)
    revert ih hw
    generalize ((i + 1 : Nat) : Int) = j
    intro ih hw
    have hk : ∀ a b : Int, a ≠ b → decide (d.1 = a) = true → decide (d.1 = b) = false := by
      intro a b hab h; simp at h; simp [h, hab]
    have h1 := hk 3 7 (by decide)
    have h2 := hk 3 8 (by decide)
    have h3 := hk 7 8 (by decide)
    have h4 := hk 3 9 (by decide)
    have h5 := hk 7 9 (by decide)
    have h6 := hk 8 9 (by decide)
    clear hk
    unfold thRun thStep
    generalize formed d = f at *
    generalize rd d = q at *
    generalize decide (d.1 = 3) = b3 at *
    generalize decide (d.1 = 7) = b7 at *
    generalize decide (d.1 = 8) = b8 at *
    generalize decide (d.1 = 9) = b9 at *
    cases f <;> cases b3 <;> cases b7 <;> cases b8 <;> cases b9 <;> first | (cases h1 rfl; done) | (cases h2 rfl; done) | (cases h3 rfl; done) | (cases h4 rfl; done) | (cases h5 rfl; done) | (cases h6 rfl; done) | (cases r <;> cases b <;> simp [hw, ih])

theorem F85_eq (n : Nat) (xs : List D3) (hn : 1048576 < n) (hx : xs.length ≤ 1048576) : F85 n xs = some (thOk xs, ()) := by
  unfold F85 thOk
  rw [show ((0 : Int)) = ((0 : Nat) : Int) from rfl, L85_eq n xs xs (by omega) xs.length n 0 false false (by omega) (by omega), List.drop_zero]
  cases thRun xs false false with
  | none => simp
  | some c =>
    have : decide ((xs.length : Int) ≤ 7) = decide (xs.length ≤ 7) := by by_cases h : xs.length ≤ 7 <;> simp [h] <;> omega
    cases c <;> simp [this]

/-- How many reads and writes. -/
def usesN : List D3 → Nat
  | [] => 0
  | d :: l => (if us d then 1 else 0) + usesN l

theorem L35_2_eq (n : Nat) (p : List (List D3)) (t : Nat) (ht : t < p.length) (hl : (p.getD t []).length ≤ 1048576) (a : Int) : ∀ (k m i : Nat) (u : Int), i + k = (p.getD t []).length → k < m → 0 ≤ u → u + k ≤ 2097152 →
    L35_2 n m (p, ()) a u (t : Int) (i : Int) = some (.inl ((p, ()), a, u + usesN ((p.getD t []).drop i), (t : Int), ()))
  | 0, m + 1, i, u, hi, hm, h0, h1 => by
    have : i = (p.getD t []).length := by omega
    unfold L35_2
    simp only [show (Ty.rs (52 : Go.TypeId) ((Ty.int Go.IntKind.i64).pair ((Ty.int Go.IntKind.i64).pair (Ty.int Go.IntKind.i64)))).dflt = ([] : List D3) from rfl, lt_ii, le_0i, ht, Int.toNat_natCast, if_true]
    rw [show decide (i < (p.getD t []).length) = false from decide_eq_false (by omega), cond_false, List.drop_eq_nil_of_le (by omega)]
    simp [usesN]
  | k + 1, m + 1, i, u, hi, hm, h0, h1 => by
    have hlt : i < (p.getD t []).length := by omega
    have ih := fun u => L35_2_eq n p t ht hl a k m (i + 1) u (by omega) (by omega)
    unfold L35_2
    simp only [show (Ty.rs (52 : Go.TypeId) ((Ty.int Go.IntKind.i64).pair ((Ty.int Go.IntKind.i64).pair (Ty.int Go.IntKind.i64)))).dflt = ([] : List D3) from rfl, lt_ii, le_0i, ht, hlt, Int.toNat_natCast, if_true, decide_true, cond_true, eta3, F82_eq, F83_eq, Option.bind_some]
    rw [getD_drop (p.getD t []) i ((0 : Int), (0 : Int), (0 : Int)) hlt]
    generalize (p.getD t []).getD i ((0 : Int), (0 : Int), (0 : Int)) = d
    have hw := w64s (show i + k ≤ 9223372036854775806 by omega)
    have hu : IntKind.i64.wrap (u + 1) = u + 1 := w64 (by omega) (by omega)
    revert ih hw
    generalize ((i + 1 : Nat) : Int) = j
    intro ih hw
    unfold J35_13 usesN us
    have ih1 := ih (u + 1) (by omega) (by omega)
    have ih2 := ih u (by omega) (by omega)
    cases rd d <;> cases wr d <;> simp [hw, hu, ih1, ih2, Int.add_assoc]

def lens : List (List D3) → Nat
  | [] => 0
  | t :: p => t.length + lens p
def usesAll : List (List D3) → Nat
  | [] => 0
  | t :: p => usesN t + usesAll p
theorem usesN_le : ∀ l : List D3, usesN l ≤ l.length
  | [] => Nat.le_refl _
  | d :: l => by have := usesN_le l; unfold usesN; simp; split <;> omega
theorem thOk_len {l : List D3} (h : thOk l = true) : l.length ≤ 7 := by
  unfold thOk at h; simp at h; exact h.1

/-- A program is ok. -/
def progOk (p : List (List D3)) : Bool := decide (p.length ≤ 3) && (p.all thOk && (decide (lens p ≤ 14) && decide (usesAll p ≤ 6)))

theorem L35_0_eq (n : Nat) (hn : 1048576 < n) (p : List (List D3)) (hp : p.length ≤ 3) : ∀ (k m i : Nat) (a u : Int), i + k = p.length → k < m → 0 ≤ a → a ≤ 7 * i → 0 ≤ u → u ≤ 7 * i →
    L35_0 n m (p, ()) a u (i : Int) = some (if (p.drop i).all thOk then .inr (.inl (a + lens (p.drop i), u + usesAll (p.drop i), ())) else .inl (false, ()))
  | 0, m + 1, i, a, u, hi, hm, _, _, _, _ => by
    have : i = p.length := by omega
    subst this
    unfold L35_0
    simp [lens, usesAll]
  | k + 1, m + 1, i, a, u, hi, hm, h0, h1, h2, h3 => by
    have hlt : i < p.length := by omega
    have ih := fun a u => L35_0_eq n hn p hp k m (i + 1) a u (by omega) (by omega)
    unfold L35_0
    simp only [show (Ty.rs (52 : Go.TypeId) ((Ty.int Go.IntKind.i64).pair ((Ty.int Go.IntKind.i64).pair (Ty.int Go.IntKind.i64)))).dflt = ([] : List D3) from rfl, lt_ii, le_0i, hlt, Int.toNat_natCast, if_true, decide_true, cond_true, F81_eq n _ hn, Option.bind_some]
    rw [getD_drop p i [] hlt]
    by_cases hok : thOk (p.getD i []) = true
    · have hlen := thOk_len hok
      have hus := usesN_le (p.getD i [])
      simp only [hok, Bool.not_true, cond_false]
      rw [w64 (by omega) (by omega), show ((0 : Int)) = ((0 : Nat) : Int) from rfl, L35_2_eq n p i hlt (by omega) _ (p.getD i []).length n 0 u (by omega) (by omega) h2 (by omega)]
      simp only [List.drop_zero]
      rw [w64s (show i + k ≤ 9223372036854775806 by omega), ih _ _ (by omega) (by omega) (by omega) (by omega)]
      simp only [List.all_cons, hok, Bool.true_and, lens, usesAll]
      split
      · simp only [Int.natCast_add, Int.add_assoc]
      · rfl
    · simp only [hok, Bool.not_false, cond_true, List.all_cons, Bool.false_and]
      rfl

theorem F35_eq (n : Nat) (hn : 1048576 < n) (p : List (List D3)) : F35 n p = some (progOk p, ()) := by
  unfold F35 progOk
  by_cases h : p.length ≤ 3
  · rw [show decide ((p.length : Int) > 3) = false by simp; omega, cond_false]
    have := L35_0_eq n hn p h p.length n 0 0 0 (by omega) (by omega) (by omega) (by omega) (by omega) (by omega)
    rw [show (((0 : Nat)) : Int) = 0 from rfl, List.drop_zero] at this
    rw [this]
    simp only [h, decide_true, Bool.true_and]
    by_cases ha : p.all thOk = true
    · simp only [ha, if_true, Bool.true_and, Int.zero_add]
      rw [show decide ((lens p : Int) ≤ 14) = decide (lens p ≤ 14) by by_cases hl : lens p ≤ 14 <;> simp [hl] <;> omega, show decide ((usesAll p : Int) ≤ 6) = decide (usesAll p ≤ 6) by by_cases hl : usesAll p ≤ 6 <;> simp [hl] <;> omega]
      cases decide (lens p ≤ 14) <;> rfl
    · simp [ha]
  · rw [show decide ((p.length : Int) > 3) = true by simp; omega]
    simp [h]
end Go.Proofs.Ytaehbfaldofmbaa.Ev
