/- The law of SeenLess over its plain functions. Conditions: none. -/
import Derived.Test.YtaehbfaldofmbaaG3
import Derived.Test.YtaehbfaldofmbaaQB
namespace Go.Proofs.Ytaehbfaldofmbaa.Ev
open Go
theorem pure_FnExactSeenLess (xs : pdens [.val true true (.pair (.rs 3 (.int .i64)) (.rs 3 (.int .i64))), .val true true (.pair (.rs 3 (.int .i64)) (.rs 3 (.int .i64)))]) (hg : GoodP [.val true true (.pair (.rs 3 (.int .i64)) (.rs 3 (.int .i64))), .val true true (.pair (.rs 3 (.int .i64)) (.rs 3 (.int .i64)))] xs) :
    ∃ n, F3 n xs.1 xs.2.1 = some (true, ()) := by
  obtain ⟨a, b, _⟩ := xs
  obtain ⟨⟨⟨h1, _⟩, ⟨h2, _⟩⟩, ⟨⟨h3, _⟩, ⟨h4, _⟩⟩, _⟩ := hg
  refine ⟨1048577, ?_⟩
  have hn : 1048576 < 1048577 := by omega
  generalize 1048577 = n at *
  show F3 n a b = _
  unfold F3
  obtain ⟨r, e1, k1⟩ := F24_eq n (a.1, a.2) 1048576 (by omega) (by omega) h1 h2
  rw [e1, Option.bind_some]
  rcases k1 with k1 | ⟨k1, k2, sa⟩
  · rw [decide_eq_true k1]; rfl
  · rw [show decide (r < 0) = false from decide_eq_false (by omega), cond_false]
    obtain ⟨q, e2, k3⟩ := F24_eq n (b.1, b.2) r k1 (by omega) h3 h4
    rw [e2, Option.bind_some]
    rcases k3 with k3 | ⟨k3, k4, sb⟩
    · rw [decide_eq_true k3]; rfl
    · rw [show decide (q < 0) = false from decide_eq_false (by omega), cond_false]
      simp only [F26_eq n (a.1, a.2) sa hn, F26_eq n (b.1, b.2) sb hn, Option.bind_some, F25_eq n (a.1, a.2) (b.1, b.2) sa hn, F27_eq n (a.1, a.2) (b.1, b.2) sa hn, F28_eq n (a.1, a.2) (a.1, a.2) sa hn, F28_eq n (b.1, b.2) (b.1, b.2) sb hn, decide_true]
      cases decide (cmpS (a.1, a.2) (b.1, b.2) < 0) <;> rfl
end Go.Proofs.Ytaehbfaldofmbaa.Ev
