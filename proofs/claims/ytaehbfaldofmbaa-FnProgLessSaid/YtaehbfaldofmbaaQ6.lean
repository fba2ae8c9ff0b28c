/- The law of programs without their last thread, over its plain functions. Conditions: none. -/
import Derived.Test.YtaehbfaldofmbaaG6
import Derived.Test.YtaehbfaldofmbaaQD
namespace Go.Proofs.Ytaehbfaldofmbaa.Ev
open Go

theorem good_bytes {c : List Int} (h1 : c.length ≤ 1048576) (h : ∀ x ∈ c, Good (.int .u8) x) : Bytes c := by
  refine ⟨h1, fun x hx => ?_⟩
  have := h x hx
  simp only [Good, Lit.wf, Bool.and_eq_true, decide_eq_true_eq] at this
  have e1 : IntKind.u8.min = 0 := by decide
  have e2 : IntKind.u8.max = 255 := by decide
  rw [e1, e2] at this
  exact this

theorem lens_append : ∀ p q : List (List D3), lens (p ++ q) = lens p + lens q
  | [], q => by simp [lens]
  | t :: p, q => by simp only [List.cons_append, lens, lens_append p q]; omega
theorem usesAll_append : ∀ p q : List (List D3), usesAll (p ++ q) = usesAll p + usesAll q
  | [], q => by simp [usesAll]
  | t :: p, q => by simp only [List.cons_append, usesAll, usesAll_append p q]; omega
theorem usesN_append : ∀ p q : List D3, usesN (p ++ q) = usesN p + usesN q
  | [], q => by simp [usesN]
  | t :: p, q => by simp only [List.cons_append, usesN, usesN_append p q]; omega

theorem progOk_iff {p : List (List D3)} : progOk p = true ↔ p.length ≤ 3 ∧ (∀ t ∈ p, thOk t = true) ∧ lens p ≤ 14 ∧ usesAll p ≤ 6 := by
  unfold progOk
  simp only [Bool.and_eq_true, decide_eq_true_eq, List.all_eq_true]

theorem progOk_front {p q : List (List D3)} (h : progOk (p ++ q) = true) : progOk p = true := by
  rw [progOk_iff] at h ⊢
  rw [lens_append, usesAll_append, List.length_append] at h
  exact ⟨by omega, fun t ht => h.2.1 t (by simp [ht]), by omega, by omega⟩

theorem thRun_front (d : D3) (hd : d.1 ≠ 8) : ∀ (l : List D3) (r i : Bool), thRun (l ++ [d]) r i = some false → thRun l r i = some false
  | [], r, i, h => by
    simp only [List.nil_append, thRun] at h ⊢
    split at h
    · cases h
    · rename_i p hp
      unfold thStep at hp
      split at hp
      · cases hp
      · injection hp with hp
        subst hp
        simp only [thRun, hd, decide_false, Bool.not_false, Bool.and_true] at h
        injection h with h
        cases i
        · rfl
        · simp at h
  | e :: l, r, i, h => by
    simp only [List.cons_append, thRun] at h ⊢
    split at h
    · cases h
    · exact thRun_front d hd l _ _ h

theorem thOk_front {l : List D3} {d : D3} (hd : d.1 ≠ 8) (h : thOk (l ++ [d]) = true) : thOk l = true := by
  unfold thOk at h ⊢
  simp only [Bool.and_eq_true, decide_eq_true_eq, List.length_append, List.length_cons, List.length_nil] at h ⊢
  refine ⟨by omega, ?_⟩
  have : thRun (l ++ [d]) false false = some false := by
    revert h
    cases thRun (l ++ [d]) false false with
    | none => simp
    | some b => cases b <;> simp
  rw [thRun_front d hd l _ _ this]
  rfl

theorem progOk_less {p : List (List D3)} {l : List D3} {d : D3} (hd : d.1 ≠ 8) (h : progOk (p ++ [l ++ [d]]) = true) : progOk (p ++ [l]) = true := by
  rw [progOk_iff] at h ⊢
  rw [lens_append, usesAll_append] at h ⊢
  simp only [lens, usesAll, usesN_append, List.length_append, List.length_cons, List.length_nil] at h ⊢
  refine ⟨by omega, fun t ht => ?_, by omega, by omega⟩
  rcases List.mem_append.mp ht with h9 | h9
  · exact h.2.1 t (by simp [h9])
  · have : t = l := by simpa using h9
    subst this
    exact thOk_front hd (h.2.1 _ (by simp))

theorem F39_ok (n : Nat) (hn : 1048576 < n) (c : List Int) (hc : Bytes c) : ∃ q : List (List D3), F39 n c = some (q, ()) ∧ Pl 12 q := by
  unfold F39
  obtain ⟨b, h1, h2, h3⟩ := F88_ok n c hc
  obtain ⟨q, p1, g1, g2, g3⟩ := F89_ok n hn b 0 0 h2 (by omega) h3
  obtain ⟨y, i1, i2, _⟩ := F90_ok n b _ _ 2 g2 (by omega) h3
  simp only [h1, g1, i1, Option.bind_some]
  cases y == (0 : Int)
  · exact ⟨q, rfl, g3.mono (by omega)⟩
  · obtain ⟨q', p2, j1, _, j3⟩ := F91_ok n hn b _ _ q g3 i2 (by omega) h3
    simp only [cond_true, j1, Option.bind_some]
    exact ⟨q', rfl, j3⟩

theorem pure_FnProgLess (xs : pdens [.c false (.v true (.rs 5 (.int .u8)))]) (hg : GoodP 0 [.c false (.v true (.rs 5 (.int .u8)))] xs) :
    ∃ n, F6 n xs.1 = some (true, ()) := by
  obtain ⟨c, _⟩ := xs
  obtain ⟨⟨h1, h2⟩, _⟩ := hg
  refine ⟨1048577, ?_⟩
  have hn : 1048576 < 1048577 := by omega
  generalize 1048577 = n at *
  unfold F6
  by_cases hc : (c.length : Int) > 1048576
  · simp only [hc, decide_true, cond_true]
  · simp only [hc, decide_false, cond_false]
    obtain ⟨q, k1, k2⟩ := F39_ok n hn c (good_bytes (by omega) h2)
    obtain ⟨l1, l2, l3⟩ := k2
    simp only [k1, F37_eq n hn q (fun t ht => by have := l3 t ht; omega), F35_eq n hn, Option.bind_some]
    cases hok : progOk q
    · rfl
    · simp only [Bool.not_true, cond_false, Bool.not_false, beq_self_eq_true]
      have hne : ((q.length : Int) == 0) = false := by simp; intro h; rw [h] at l1; simp at l1
      simp only [hne, cond_false]
      obtain ⟨q0, t, rfl⟩ : ∃ q0 t, q = q0 ++ [t] := ⟨q.dropLast, q.getLast (by intro h; rw [h] at l1; simp at l1), (List.dropLast_concat_getLast _).symm⟩
      have hfr := progOk_front hok
      have ht : t.length ≤ 12 := l3 t (by simp)
      have hq0 : ∀ x ∈ q0, x.length ≤ 12 := fun x hx => l3 x (by simp [hx])
      have hlen : (q0 ++ [t]).length = q0.length + 1 := by simp
      have e1 : IntKind.i64.wrap (((q0 ++ [t]).length : Int) - 1) = (q0.length : Int) := by rw [hlen, w64 (by omega) (by omega)]; omega
      have e2 : (q0 ++ [t]).getD q0.length [] = t := by simp
      have e3 : List.drop 0 (List.take q0.length (q0 ++ [t])) = q0 := by simp
      unfold J6_7
      simp only [e1, Int.toNat_natCast, e2, e3, F37_eq n hn q0 (fun t ht => by have := hq0 t ht; omega), hfr, Option.bind_some, Bool.not_true, cond_false]
      rw [if_pos (by omega), if_pos (by omega), if_pos (by omega), if_pos (by omega), if_pos (by omega)]
      cases hz : ((t.length : Int) == 0)
      · simp only [cond_false]
        have hne2 : t ≠ [] := by intro h; rw [h] at hz; simp at hz
        obtain ⟨l, d, rfl⟩ : ∃ l d, t = l ++ [d] := ⟨t.dropLast, t.getLast hne2, (List.dropLast_concat_getLast _).symm⟩
        have hlen2 : (l ++ [d]).length = l.length + 1 := by simp
        have f1 : IntKind.i64.wrap (((l ++ [d]).length : Int) - 1) = (l.length : Int) := by rw [hlen2, w64 (by omega) (by omega)]; omega
        have f2 : (l ++ [d]).getD l.length ((0 : Int), (0 : Int), (0 : Int)) = d := by simp
        have f3 : List.drop 0 (List.take l.length (l ++ [d])) = l := by simp
        simp only [f1, Int.toNat_natCast, f2]
        rw [if_pos (by omega), if_pos (by omega)]
        cases hd : (d.1 == (8 : Int))
        · simp only [cond_false]
          have hd' : d.1 ≠ 8 := by simpa using hd
          unfold J6_14
          have hl2 : l.length ≤ 12 := by omega
          simp only [f1, Int.toNat_natCast, f3]
          rw [if_pos (by omega), if_pos (by omega), if_pos (by simp; omega), F37_eq n hn (q0 ++ [l]) (fun x hx => by
            rcases List.mem_append.mp hx with h9 | h9
            · have := hq0 x h9; omega
            · have : x = l := by simpa using h9
              subst this; omega), progOk_less hd' hok]
          rfl
        · rfl
      · rfl
end Go.Proofs.Ytaehbfaldofmbaa.Ev
