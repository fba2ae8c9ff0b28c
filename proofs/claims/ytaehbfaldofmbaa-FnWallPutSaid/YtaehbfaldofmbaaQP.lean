/- Small laws of programs and of bytes. Conditions: none. -/
import Derived.Test.YtaehbfaldofmbaaQD
namespace Go.Proofs.Ytaehbfaldofmbaa.Ev
open Go

theorem goodBytes {c : List Int} (h1 : c.length ≤ 1048576) (h : ∀ x ∈ c, Good (.int .u8) x) : Bytes c := by
  refine ⟨h1, fun x hx => ?_⟩
  have := h x hx
  simp only [Good, Lit.wf, Bool.and_eq_true, decide_eq_true_eq] at this
  have e1 : IntKind.u8.min = 0 := by decide
  have e2 : IntKind.u8.max = 255 := by decide
  rw [e1, e2] at this
  exact this

theorem progOkIff {p : List (List D3)} : progOk p = true ↔ p.length ≤ 3 ∧ (∀ t ∈ p, thOk t = true) ∧ lens p ≤ 14 ∧ usesAll p ≤ 6 := by
  unfold progOk
  simp only [Bool.and_eq_true, decide_eq_true_eq, List.all_eq_true]

/-- A program that any draw gives. -/
theorem any_ok (n : Nat) (hn : 1048576 < n) (c : List Int) (hc : Bytes c) {α : Type} (K : List (List D3) → Option α) :
    ∃ (b : List Int) (q : List (List D3)) (p' : Int), F88 n c = some (((b, (0 : Int)), ()), ()) ∧ F93 n ((b, (0 : Int)), ()) = some (q, ((b, p'), ()), ()) ∧ Rd 800 b p' ∧ b.length ≤ 1000000 ∧ Pl 12 q := by
  obtain ⟨b, h1, h2, h3⟩ := F88_ok n c hc
  obtain ⟨q, p1, g1, g2, g3⟩ := F93_ok n hn b 0 0 h2 (by omega) h3
  exact ⟨b, q, p1, h1, g1, g2.mono (by omega), h3, g3⟩
end Go.Proofs.Ytaehbfaldofmbaa.Ev
