/- The law of ExecEvents over its plain functions. Conditions: none. -/
import Derived.Test.YtaehbfaldofmbaaG14
import Derived.Test.YtaehbfaldofmbaaQK
namespace Go.Proofs.Ytaehbfaldofmbaa.Ev
open Go
theorem pure_FnExactExecEvents (xs : pdens [.c true (.v true (.rs 115 (.rs 130 (.pair (.int .i64) (.pair (.int .i64) (.int .i64))))))]) (hg : GoodP 0 [.c true (.v true (.rs 115 (.rs 130 (.pair (.int .i64) (.pair (.int .i64) (.int .i64))))))] xs) :
    ∃ n, F14 n xs.1 = some (true, ()) := by
  obtain ⟨p, _⟩ := xs
  obtain ⟨⟨h1, h2⟩, _⟩ := hg
  refine ⟨1048577, ?_⟩
  have hn : 1048576 < 1048577 := by omega
  generalize 1048577 = n at *
  obtain ⟨r, h3, h4⟩ := F34_eq n hn p h1 (fun t ht => (h2 t ht).1)
  unfold F14
  rw [h3, Option.bind_some]
  rcases h4 with h4 | h4
  · rw [decide_eq_true h4]; rfl
  · have e := F36_eq n hn p h4
    by_cases hr : r < 0
    · rw [decide_eq_true hr]; rfl
    rw [decide_eq_false hr, cond_false]
    have hes : ∃ es : List E3, F48 n p = some (es, ()) ∧ F50 n p = some (es, ()) ∧ es.length ≤ 1000 := by
      refine ⟨_, F48_eq n hn p h4.2, F50_eq n hn p, ?_⟩
      split
      · rename_i hok
        have hL : lens p ≤ 14 := (progOkIff.mp hok).2.2.1
        have hlen := evP_len p 0
        omega
      · simp
    obtain ⟨es, e1, e2, e3⟩ := hes
    have e4 := F52_self n es hn (by omega)
    have e5 := F53_eq n hn p h4 1 (by omega) (by omega)
    have e6 := F54_eq n es 1 hn (by omega) (by omega) (by omega)
    have e7 := F55_eq n es.length 1 hn (by omega) (by omega) (by omega)
    have hk := mkK_ge p 1
    unfold J14_16
    simp only [e, e1, e2, e4, e5, e6, e7, F38_eq n hn p p h4, Option.bind_some, decide_true, Bool.not_true, cond_false, bne_self_eq_false]
    have d1 : decide (mkK p 1 < 0) = false := decide_eq_false (by omega)
    have d2 : decide ((1 : Int) + 3 * (es.length : Int) < 0) = false := decide_eq_false (by omega)
    simp only [d1, d2, cond_false]
end Go.Proofs.Ytaehbfaldofmbaa.Ev
