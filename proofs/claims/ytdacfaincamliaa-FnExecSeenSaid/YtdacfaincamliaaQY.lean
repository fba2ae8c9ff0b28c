/- Seen twice, it is the same; writers and their values. Conditions: none. -/
import Derived.Test.YtdacfaincamliaaGL
import Derived.Test.YtdacfaincamliaaQN
import Derived.Test.YtdacfaincamliaaQV
namespace Go.Proofs.Ytdacfaincamliaa.Ev
open Go

theorem goodBytes {c : List Int} (h1 : c.length ≤ 1048576) (h : ∀ x ∈ c, Good (.int .u8) x) : Bytes c := by
  refine ⟨h1, fun x hx => ?_⟩
  have := h x hx
  simp only [Good, Lit.wf, Bool.and_eq_true, decide_eq_true_eq] at this
  have e1 : IntKind.u8.min = 0 := by decide
  have e2 : IntKind.u8.max = 255 := by decide
  rw [e1, e2] at this
  exact this
/-- What a law begins with. -/
theorem seen_two (n : Nat) (hn : 1048576 + 2000 < n) {q : List (List D3)} {e : Xn} (hq : Pl 12 q) (hs : SmallX e) : F39 n q (e.1, e.2) = some (seenA q e, execOk q e, ()) ∧ F40 n q (e.1, e.2) = some (seenA q e, execOk q e, ()) :=
  ⟨F39_eq n (by omega) q e hs.toI, F40_eq n (by omega) q (fun t ht => by have := hq.2.2 t ht; omega) e hs.toI⟩
theorem L81_eq (n : Nat) (xs : List Int) (hx : xs.length ≤ 1048576) : ∀ (k m i : Nat), i + k = xs.length → k < m → L81_0 n m xs xs (i : Int) = some (.inr (.inl ()))
  | 0, m + 1, i, hi, hm => by
    have : i = xs.length := by omega
    subst this
    unfold L81_0
    simp
  | k + 1, m + 1, i, hi, hm => by
    have hlt : i < xs.length := by omega
    unfold L81_0
    simp only [lt_ii, le_0i, hlt, Int.toNat_natCast, if_true, decide_true, cond_true, bne_self_eq_false, cond_false]
    rw [w64s (k := k) (by omega)]
    exact L81_eq n xs hx k m (i + 1) (by omega) (by omega)
theorem F81_eq (n : Nat) (hn : 1048576 < n) (xs : List Int) (hx : xs.length ≤ 1048576) : F81 n xs xs = some (true, ()) := by
  unfold F81
  have h := L81_eq n xs hx xs.length n 0 (by omega) (by omega)
  rw [show ((0 : Nat) : Int) = 0 from rfl] at h
  rw [bne_self_eq_false, cond_false, h]
theorem F41_eq (n : Nat) (hn : 1048576 < n) (s : List Int × List Int) (h1 : s.1.length ≤ 1048576) (h2 : s.2.length ≤ 1048576) : F41 n s s = some (true, ()) := by
  unfold F41
  rw [F81_eq n hn s.1 h1, Option.bind_some, cond_true, F81_eq n hn s.2 h2]
  rfl

theorem lastsF_get (ds : List D3) (fr : List Int) (ord : List (List Int)) : ∀ (k c j : Nat), j < k → (lastsF ds fr ord k c).getD j 0 = lastV ds fr (ord.getD (c + j) [])
  | k + 1, c, 0, _ => rfl
  | k + 1, c, j + 1, h => by
    have := lastsF_get ds fr ord k (c + 1) j (by omega)
    rw [show c + (j + 1) = c + 1 + j by omega, ← this]
    rfl
theorem valA_set {ds : List D3} {fr : List Int} {a : Nat} (ha : a < ds.length) (hw : wr (ds.getD a D0) = true) (h3 : (ds.getD a D0).1 ≠ 3) : valA ds fr a = (ds.getD a D0).2.2 := by
  have hr : rd (ds.getD a D0) = false := by
    cases h : rd (ds.getD a D0) with
    | false => rfl
    | true => rw [rd_wr h] at hw; cases hw
  unfold valA
  obtain ⟨m, hm⟩ : ∃ m, ds.length = m + 1 := ⟨ds.length - 1, by omega⟩
  rw [hm]
  have : gS ds fr a = .inl (ds.getD a D0).2.2 := by
    unfold gS
    rw [hr, if_neg (by simp), if_neg h3]
  unfold chn
  rw [this]
  rfl
section
variable {p : List (List D3)} (hp : progOk p = true) {x : Xn} (hb : formB (dsP p) x = true)
include hp hb
theorem row_wr (c : Nat) (hc : c < 3) (v : Int) (hv : v ∈ x.2.getD c []) : ∃ b : Nat, v = b ∧ b < (dsP p).length ∧ wr ((dsP p).getD b D0) = true := by
  rw [formB_eq (evs_ok hp).frm] at hb
  simp only [Bool.and_eq_true, decide_eq_true_eq] at hb
  have h := (rowsB_mem 3 0 hb.2.2.2 c (by omega) (by omega) v).mpr hv
  obtain ⟨k, h1, h2, h3, _⟩ := wsF_ge _ _ _ _ h
  exact ⟨k, by rw [h1]; congr 1; omega, h2, h3⟩
end
end Go.Proofs.Ytdacfaincamliaa.Ev
