/- The law of WallGaps over its plain functions. Conditions: none. -/
import Derived.Test.YtaehbfaldofmbaaG7
import Derived.Test.YtaehbfaldofmbaaQW
namespace Go.Proofs.Ytaehbfaldofmbaa.Ev
open Go
theorem pure_FnExactWallGaps (xs : pdens [.c true (.v true (.rs 115 (.rs 130 (.pair (.int .i64) (.pair (.int .i64) (.int .i64))))))]) (hg : GoodP 0 [.c true (.v true (.rs 115 (.rs 130 (.pair (.int .i64) (.pair (.int .i64) (.int .i64))))))] xs) :
    ∃ n, F7 n xs.1 = some (true, ()) := by
  obtain ⟨p, _⟩ := xs
  obtain ⟨⟨h1, h2⟩, _⟩ := hg
  refine ⟨1048577, ?_⟩
  have hn : 1048576 < 1048577 := by omega
  generalize 1048577 = n at *
  obtain ⟨r, h3, h4⟩ := F34_eq n hn p h1 (fun t ht => (h2 t ht).1)
  unfold F7
  rw [h3, Option.bind_some]
  rcases h4 with h4 | h4
  · rw [decide_eq_true h4]; rfl
  · have e := F36_eq n hn p h4
    simp only [e, F40_eq n hn p, F41_eq n hn p h4.2, F38_eq n hn p p h4, Option.bind_some, decide_true, bne_self_eq_false]
    cases decide (r < 0) <;> simp
end Go.Proofs.Ytaehbfaldofmbaa.Ev
