/- The law that without walls a program is as it was, over its plain functions. Conditions: none. -/
import Derived.Test.YtaehbfaldofmbaaG16
import Derived.Test.YtaehbfaldofmbaaQH
namespace Go.Proofs.Ytaehbfaldofmbaa.Ev
open Go

theorem pure_FnWallNone (xs : pdens [.c false (.v true (.rs 5 (.int .u8)))]) (hg : GoodP 0 [.c false (.v true (.rs 5 (.int .u8)))] xs) :
    ∃ n, F16 n xs.1 = some (true, ()) := by
  obtain ⟨c, _⟩ := xs
  obtain ⟨⟨h1, h2⟩, _⟩ := hg
  refine ⟨1048577, ?_⟩
  have hn : 1048576 < 1048577 := by omega
  generalize 1048577 = n at *
  unfold F16
  by_cases hc : (c.length : Int) > 1048576
  · simp only [hc, decide_true, cond_true]
  · simp only [hc, decide_false, cond_false]
    obtain ⟨q, gaps, k1, k2, k3⟩ := F58_ok n hn c (goodBytes (by omega) h2)
    have hs : ∀ t ∈ q, t.length ≤ 1048576 := fun t ht => by have := k2.2.2 t ht; omega
    have sm := wallPut_small q gaps
    have nl := wallPut_nil q
    have e1 := F59_eq n hn q gaps (by omega)
    have e2 := F60_eq n hn q hs gaps (by omega)
    have e3 := F60_eq n hn q hs [] (by simp)
    have e4 := F61_self n hn _ sm.1 sm.2
    simp only [k1, e1, e2, e3, e4, Option.bind_some, beq_self_eq_true, cond_true, F35_eq n hn, nl.1]
    cases hok : progOk q
    · rfl
    · have e5 := F61_self n hn q (by have := k2.2.1; omega) (fun t ht => by have := k2.2.2 t ht; omega)
      simp only [nl.2 hok, e5, Bool.not_true, cond_false, Option.bind_some]
end Go.Proofs.Ytaehbfaldofmbaa.Ev
