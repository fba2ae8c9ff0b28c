/- What the printed functions of ProgOk come to: programs that are ok. Conditions: none. -/
import Derived.Test.YtaehbfaldofmbaaQ4
namespace Go.Proofs.Ytaehbfaldofmbaa.Ev
open Go

def rd (d : D3) : Bool := decide (d.1 = 2) || decide (d.1 = 5)
def wr (d : D3) : Bool := decide (d.1 = 1) || (decide (d.1 = 3) || decide (d.1 = 6))
def us (d : D3) : Bool := rd d || wr d
def vd (d : D3) : Bool := decide (d.1 = 1) || decide (d.1 = 6)
def formed (d : D3) : Bool := (decide (d.1 ≥ 1) && decide (d.1 ≤ 9)) && (decide (d.2.1 = 0) || us d && (decide (d.2.1 ≥ 0) && decide (d.2.1 ≤ 2))) && (if vd d then decide (d.2.2 ≥ 1) && decide (d.2.2 ≤ 3) else decide (d.2.2 = 0))

theorem F82_eq (n : Nat) (d : D3) : F82 n d = some (rd d, ()) := by
  unfold F82 rd; simp only [beq_int]; cases decide (d.1 = 2) <;> rfl
theorem F83_eq (n : Nat) (d : D3) : F83 n d = some (wr d, ()) := by
  unfold F83 wr; simp only [beq_int]; cases decide (d.1 = 1) <;> cases decide (d.1 = 3) <;> rfl
theorem F129_eq (n : Nat) (x a b : Int) : F129 n x a b = some (decide (x ≥ a) && decide (x ≤ b), ()) := by
  unfold F129; cases decide (x ≥ a) <;> rfl
theorem F102_eq (n : Nat) (x a b : Int) : F102 n x a b = some (decide (x ≥ a) && decide (x ≤ b), ()) := by
  unfold F102; cases decide (x ≥ a) <;> rfl
theorem F120_eq (n : Nat) (d : D3) : F120 n d = some (rd d, ()) := by
  unfold F120 rd; simp only [beq_int]; cases decide (d.1 = 2) <;> rfl
theorem F121_eq (n : Nat) (d : D3) : F121 n d = some (wr d, ()) := by
  unfold F121 wr; simp only [beq_int]; cases decide (d.1 = 1) <;> cases decide (d.1 = 3) <;> rfl
theorem F86_eq (n : Nat) (d : D3) : F86 n d = some (us d, ()) := by
  unfold F86 us; simp only [F120_eq, F121_eq, eta3, Option.bind_some]; cases rd d <;> rfl
theorem F139_eq (n : Nat) (d : D3) : F139 n d = some (vd d, ()) := by
  unfold F139 vd; simp only [beq_int]; cases decide (d.1 = 1) <;> rfl

theorem F117_eq (n : Nat) (d : D3) : F117 n d = some (formed d, ()) := by
  unfold F117 J117_2 J117_3
  simp only [F82_eq, F83_eq, F129_eq, eta3, Option.bind_some, beq_int]
  unfold formed us rd wr vd
  have h0 : decide (d.2.1 = 0) = true → (decide (d.2.1 ≥ 0) && decide (d.2.1 ≤ 2)) = true := by
    intro h; simp at h; simp [h]
  revert h0
  generalize (decide (d.2.1 ≥ 0) && decide (d.2.1 ≤ 2)) = b1
  generalize (decide (d.2.2 ≥ 1) && decide (d.2.2 ≤ 3)) = b2
  generalize (decide (d.1 ≥ 1) && decide (d.1 ≤ 9)) = b3
  generalize decide (d.2.1 = 0) = b4
  generalize decide (d.2.2 = 0) = b5
  generalize decide (d.1 = 1) = b6
  generalize decide (d.1 = 2) = b7
  generalize decide (d.1 = 3) = b8
  generalize decide (d.1 = 5) = b9
  generalize decide (d.1 = 6) = b10
  revert b1 b2 b3 b4 b5 b6 b7 b8 b9 b10
  decide +kernel

theorem F119_eq (n : Nat) (d : D3) : F119 n d = some (formed d, ()) := by
  unfold F119 J119_2 J119_5
  simp only [F86_eq, F139_eq, F102_eq, eta3, Option.bind_some, beq_int]
  unfold formed us rd wr vd
  generalize (decide (d.2.1 ≥ 0) && decide (d.2.1 ≤ 2)) = b1
  generalize (decide (d.2.2 ≥ 1) && decide (d.2.2 ≤ 3)) = b2
  generalize (decide (d.1 ≥ 1) && decide (d.1 ≤ 9)) = b3
  generalize decide (d.2.1 = 0) = b4
  generalize decide (d.2.2 = 0) = b5
  generalize decide (d.1 = 1) = b6
  generalize decide (d.1 = 2) = b7
  generalize decide (d.1 = 3) = b8
  generalize decide (d.1 = 5) = b9
  generalize decide (d.1 = 6) = b10
  revert b1 b2 b3 b4 b5 b6 b7 b8 b9 b10
  decide +kernel

/-- One step of a thread, from whether something was read, and whether a reader is in. -/
def thStep (d : D3) (r i : Bool) : Option (Bool × Bool) :=
  if !formed d || ((decide (d.1 = 3) && !r) || ((i && (decide (d.1 = 7) || decide (d.1 = 9))) || (!i && decide (d.1 = 8)))) then none else some (r || rd d, decide (d.1 = 7) || (i && !decide (d.1 = 8)))
def thRun : List D3 → Bool → Bool → Option Bool
  | [], _, i => some i
  | d :: l, r, i => match thStep d r i with | none => none | some p => thRun l p.1 p.2
def thOk (l : List D3) : Bool := decide (l.length ≤ 7) && match thRun l false false with | some b => !b | none => false

theorem L81_eq (n : Nat) (xs : List D3) (hx : xs.length ≤ 9223372036854775806) : ∀ (k m i : Nat) (r b : Bool), i + k = xs.length → k < m →
    L81_0 n m xs r b (i : Int) = some (match thRun (xs.drop i) r b with | none => .inl (false, ()) | some c => .inr (.inl (c, ())))
  | 0, m + 1, i, r, b, hi, hm => by
    have : i = xs.length := by omega
    subst this
    unfold L81_0
    simp [thRun]
  | k + 1, m + 1, i, r, b, hi, hm => by
    have hlt : i < xs.length := by omega
    unfold L81_0
    simp only [lt_ii, le_0i, hlt, Int.toNat_natCast, if_true, decide_true, cond_true, eta3, F117_eq, Option.bind_some]
    rw [getD_drop xs i ((0 : Int), (0 : Int), (0 : Int)) hlt]
    generalize xs.getD i ((0 : Int), (0 : Int), (0 : Int)) = d
    unfold J81_11 J81_12 J81_7
    simp only [F82_eq, eta3, Option.bind_some, beq_int]
    have ih := fun r b => L81_eq n xs hx k m (i + 1) r b (by omega) (by omega)
    have hw := w64s (show i + k ≤ 9223372036854775806 by omega)
    revert ih hw
    generalize ((i + 1 : Nat) : Int) = j
    intro ih hw
    have hk : ∀ a b : Int, a ≠ b → decide (d.1 = a) = true → decide (d.1 = b) = false := by
      intro a b hab h; simp at h; simp [h, hab]
    have h1 := hk 3 7 (by decide)
    have h2 := hk 3 8 (by decide)
    have h3 := hk 7 8 (by decide)
    have h4 := hk 3 9 (by decide)
    have h5 := hk 7 9 (by decide)
    have h6 := hk 8 9 (by decide)
    clear hk
    unfold thRun thStep
    generalize formed d = f at *
    generalize rd d = q at *
    generalize decide (d.1 = 3) = b3 at *
    generalize decide (d.1 = 7) = b7 at *
    generalize decide (d.1 = 8) = b8 at *
    generalize decide (d.1 = 9) = b9 at *
    cases f <;> cases b3 <;> cases b7 <;> cases b8 <;> cases b9 <;> cases r <;> cases b <;> first | (cases h1 rfl; done) | (cases h2 rfl; done) | (cases h3 rfl; done) | (cases h4 rfl; done) | (cases h5 rfl; done) | (cases h6 rfl; done) | simp [hw, ih]

theorem F81_eq (n : Nat) (xs : List D3) (hn : 1048576 < n) : F81 n xs = some (thOk xs, ()) := by
  unfold F81 thOk
  by_cases h : xs.length ≤ 7
  · rw [show decide ((xs.length : Int) > 7) = false by simp; omega, cond_false, show ((0 : Int)) = ((0 : Nat) : Int) from rfl, L81_eq n xs (by omega) xs.length n 0 false false (by omega) (by omega)]
    simp only [h, decide_true, Bool.true_and, List.drop_zero]
    cases thRun xs false false <;> rfl
  · rw [show decide ((xs.length : Int) > 7) = true by simp; omega]
    simp [h]
end Go.Proofs.Ytaehbfaldofmbaa.Ev
