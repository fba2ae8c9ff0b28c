/- Small plain laws for the printed functions. Conditions: none. -/
import Derived.Test.YtdacfaincamliaaEvRow
namespace Go.Proofs.Ytdacfaincamliaa.Ev
open Go

theorem w64 {x : Int} (h1 : -9223372036854775808 ≤ x) (h2 : x ≤ 9223372036854775807) : IntKind.i64.wrap x = x := by
  simp only [IntKind.wrap, IntKind.bits, IntKind.signed, Bool.true_and, decide_eq_true_eq, show (2 : Int) ^ 64 = 18446744073709551616 from rfl, show (2 : Int) ^ (64 - 1) = 9223372036854775808 from rfl]
  split <;> omega
/-- A loop's next number. -/
theorem w64s {i k : Nat} (h : i + k ≤ 9223372036854775806) : IntKind.i64.wrap ((i : Int) + 1) = ((i + 1 : Nat) : Int) := by
  rw [w64 (by omega) (by omega)]; rfl

theorem getD_drop {α : Type} (xs : List α) (i : Nat) (d : α) (h : i < xs.length) : xs.drop i = xs.getD i d :: xs.drop (i + 1) := by
  rw [List.drop_eq_getElem_cons h, List.getD_eq_getElem?_getD, List.getElem?_eq_getElem h]; rfl
theorem getD_mem {α : Type} (xs : List α) (i : Nat) (d : α) (h : i < xs.length) : xs.getD i d ∈ xs := by
  rw [List.getD_eq_getElem?_getD, List.getElem?_eq_getElem h]; exact List.getElem_mem h
theorem take_set {α : Type} (xs ys : List α) (i : Nat) (d : α) (h : i < xs.length) (hl : ys.length = xs.length) (ht : ys.take i = xs.take i) : (ys.set i (xs.getD i d)).take (i + 1) = xs.take (i + 1) := by
  apply List.ext_getElem?
  intro j
  by_cases hj : j < i + 1
  · rw [List.getElem?_take_of_lt hj, List.getElem?_take_of_lt hj, List.getElem?_set]
    by_cases hij : i = j
    · subst hij
      rw [if_pos rfl, if_pos (by omega), List.getD_eq_getElem?_getD, List.getElem?_eq_getElem h]; rfl
    · rw [if_neg hij]
      have := congrArg (fun l => l[j]?) ht
      simp only [List.getElem?_take_of_lt (show j < i by omega)] at this
      exact this
  · rw [List.getElem?_eq_none (by simp; omega), List.getElem?_eq_none (by simp; omega)]

theorem take_put {α : Type} {ys : List α} {i : Nat} (y : α) (h : i < ys.length) : ys.take i ++ y :: ys.drop (i + 1) = ys.set i y := by
  rw [List.set_eq_take_append_cons_drop, if_pos h]
theorem bne_int (x y : Int) : (x != y) = !decide (x = y) := by by_cases h : x = y <;> simp [h]
theorem beq_int (x y : Int) : (x == y) = decide (x = y) := by by_cases h : x = y <;> simp [h]
theorem lt_ii {a b : Nat} : ((a : Int) < (b : Int)) = (a < b) := by simp
theorem le_0i {a : Nat} : ((0 : Int) ≤ (a : Int)) = True := by simp
theorem lt_0i {a : Nat} : ((a : Int) < (0 : Int)) = False := by simp
end Go.Proofs.Ytdacfaincamliaa.Ev
