/- The law that what stands ahead of what stands ahead stands ahead, over its plain functions. Conditions: none. -/
import Derived.Test.YtaehbfaldofmbaaG11
import Derived.Test.YtaehbfaldofmbaaQS
namespace Go.Proofs.Ytaehbfaldofmbaa.Ev
open Go

theorem pure_FnSeenThree (xs : pdens [.c false (.v true (.rs 5 (.int .u8))), .c false (.v true (.rs 5 (.int .u8)))]) (hg : GoodP 0 [.c false (.v true (.rs 5 (.int .u8))), .c false (.v true (.rs 5 (.int .u8)))] xs) :
    ∃ n, F11 n xs.1 xs.2.1 = some (true, ()) := by
  obtain ⟨c, e, _⟩ := xs
  obtain ⟨⟨h1, h2⟩, ⟨h3, h4⟩, _⟩ := hg
  refine ⟨1048577, ?_⟩
  have hn : 1048576 < 1048577 := by omega
  generalize 1048577 = n at *
  unfold F11
  by_cases hc : (c.length : Int) > 1048576
  · simp only [hc, decide_true, cond_true]
  · simp only [hc, decide_false, cond_false]
    by_cases he : (e.length : Int) > 1048576
    · simp only [he, decide_true, cond_true]
    · simp only [he, decide_false, cond_false]
      obtain ⟨s, t, k1, k2, k3⟩ := F46_ok n hn c (goodBytes (by omega) h2)
      obtain ⟨u, v, l1, l2, l3⟩ := F46_ok n hn e (goodBytes (by omega) h4)
      unfold J11_3
      have st := cmpS_trans
      have e1 := fun x (hx : SmallS x) y => F27_eq n x y hx hn
      have e2 := F25_eq n s t k2 hn
      obtain ⟨s1, s2⟩ := s
      obtain ⟨t1, t2⟩ := t
      obtain ⟨u1, u2⟩ := u
      obtain ⟨v1, v2⟩ := v
      simp only [k1, l1, e1 _ k2, e1 _ k3, e1 _ l3, e2, Option.bind_some]
      by_cases a1 : cmpS (s1, s2) (t1, t2) < 0
      · have a2 : cmpS (t1, t2) (u1, u2) < 0 → cmpS (s1, s2) (u1, u2) < 0 := st _ _ _ a1
        have a3 : cmpS (v1, v2) (s1, s2) < 0 → cmpS (v1, v2) (t1, t2) < 0 := fun h => st _ _ _ h a1
        by_cases b1 : cmpS (t1, t2) (u1, u2) < 0
        · by_cases b2 : cmpS (v1, v2) (s1, s2) < 0
          · simp [a1, a2 b1, a3 b2, b1, b2]
          · simp [a1, a2 b1, b1, b2]
        · by_cases b2 : cmpS (v1, v2) (s1, s2) < 0
          · simp [a1, a3 b2, b1, b2]
          · simp [a1, b1, b2]
      · simp [a1]
end Go.Proofs.Ytaehbfaldofmbaa.Ev
