/- The law of WallPut over its plain functions. Conditions: none. -/
import Derived.Test.YtaehbfaldofmbaaG19
import Derived.Test.YtaehbfaldofmbaaQX
import Derived.Test.YtaehbfaldofmbaaQI
namespace Go.Proofs.Ytaehbfaldofmbaa.Ev
open Go
theorem pure_FnExactWallPut (xs : pdens [.c true (.v true (.rs 115 (.rs 130 (.pair (.int .i64) (.pair (.int .i64) (.int .i64)))))), .c false (.v true (.rs 3 (.int .i64)))]) (hg : GoodP 0 [.c true (.v true (.rs 115 (.rs 130 (.pair (.int .i64) (.pair (.int .i64) (.int .i64)))))), .c false (.v true (.rs 3 (.int .i64)))] xs) :
    ∃ n, F19 n xs.1 xs.2.1 = some (true, ()) := by
  obtain ⟨p, gaps, _⟩ := xs
  obtain ⟨⟨h1, h2⟩, ⟨h1g, _⟩, _⟩ := hg
  refine ⟨1048577, ?_⟩
  have hn : 1048576 < 1048577 := by omega
  generalize 1048577 = n at *
  obtain ⟨r, h3, h4⟩ := F34_eq n hn p h1 (fun t ht => (h2 t ht).1)
  unfold F19
  by_cases hgl : (gaps.length : Int) > 1048576
  · rw [decide_eq_true hgl, cond_true]
  rw [decide_eq_false hgl, cond_false]
  have hgl : gaps.length ≤ 1048576 := by omega
  rw [h3, Option.bind_some]
  rcases h4 with h4 | h4
  · rw [decide_eq_true h4]; rfl
  · have e := F36_eq n hn p h4
    by_cases hr : r < 0
    · rw [decide_eq_true hr]; rfl
    rw [decide_eq_false hr, cond_false]
    have hw := wallPut_sm p gaps
    have e1 := F59_eq n hn p gaps hgl
    have e2 := F60_eq n hn p h4.2 gaps hgl
    have e3 := F65_eq n gaps hgl hn
    have e4 := F66_eq n gaps gaps hgl hn
    have e5 := F53_eq n hn p h4 1 (by omega) (by omega)
    have hkp := mkK_ge p 1
    have hkp2 := mkK_le p h4 1
    obtain ⟨ys, e6⟩ := F67_eq n gaps (mkK p 1) hn hgl (by omega) (by omega)
    generalize (wallPut p gaps).1 = w at *
    generalize (wallPut p gaps).2 = b at *
    have e7 := F53_eq n hn w hw 1 (by omega) (by omega)
    have e8 := F64_eq n hn w hw 1 (by omega) (by omega)
    have hkw := mkK_ge w 1
    have d1 : decide (mkK p 1 + (gaps.length : Int) < 0) = false := decide_eq_false (by omega)
    have d2 : decide (mkK w 1 < 0) = false := decide_eq_false (by omega)
    unfold J19_13 J19_22 J19_33
    cases b <;> simp only [e, e1, e2, e3, e4, e5, e6, e7, e8, F38_eq n hn p p h4, F38_eq n hn w w hw, Option.bind_some, decide_true, Bool.not_true, Bool.not_false, cond_false, bne_self_eq_false, d1, d2] <;> rfl
end Go.Proofs.Ytaehbfaldofmbaa.Ev
