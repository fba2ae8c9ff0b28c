/- The law that walls that are put are there, and nothing else, over its plain functions. Conditions: none. -/
import Derived.Test.YtaehbfaldofmbaaG18
import Derived.Test.YtaehbfaldofmbaaQH
import Derived.Test.YtaehbfaldofmbaaQC
namespace Go.Proofs.Ytaehbfaldofmbaa.Ev
open Go

/-- The first is the second with walls put in. -/
def Ins : List D3 → List D3 → Prop
  | [], S => S = []
  | d :: R, S => (d = W3 ∧ Ins R S) ∨ ∃ S', S = d :: S' ∧ Ins R S'
theorem ins_I (gaps : List Int) : ∀ (l : List D3) (a : Nat), Ins (wallI gaps a l) l
  | [], _ => rfl
  | d :: l, a => by
    have ih := ins_I gaps l (a + 1)
    simp only [wallI]
    split
    · exact .inl ⟨rfl, .inr ⟨l, rfl, ih⟩⟩
    · exact .inr ⟨l, rfl, ih⟩
theorem ins_T (gaps : List Int) (l : List D3) (a : Nat) : Ins (wallT gaps a l) l := by
  cases l with
  | nil => rfl
  | cons d l => exact .inr ⟨l, rfl, ins_I gaps l a⟩

theorem eq3 (d e : D3) : (d.1 == e.1 && (d.2.1 == e.2.1 && d.2.2 == e.2.2)) = decide (d = e) := by
  obtain ⟨a, b, c⟩ := d
  obtain ⟨a', b', c'⟩ := e
  by_cases h1 : a = a' <;> by_cases h2 : b = b' <;> by_cases h3 : c = c' <;> simp [h1, h2, h3]

theorem getD_drop_cons {α : Type} {xs ys : List α} {x d : α} {j : Nat} (h : xs.drop j = x :: ys) : xs.getD j d = x ∧ j < xs.length ∧ xs.drop (j + 1) = ys := by
  have hj : j < xs.length := by
    by_cases hj : j < xs.length
    · exact hj
    · rw [List.drop_eq_nil_of_le (by omega)] at h; cases h
  rw [getD_drop xs j d hj] at h
  injection h with h1 h2
  exact ⟨h1, hj, h2⟩

theorem L18_2_eq (n : Nat) (p q : List (List D3)) (gaps : List Int) (u v : Int) (t : Nat) (hp : t < p.length) (hq : t < q.length) (hps : (p.getD t []).length ≤ 1000) (hqs : (q.getD t []).length ≤ 1000) :
    ∀ (R : List D3) (m i k j : Nat), (q.getD t []).drop i = R → R.length < m → i ≤ (q.getD t []).length → Ins R ((p.getD t []).drop j) → j ≤ k → k ≤ (p.getD t []).length → (∀ x, j ≤ x → x < k → (p.getD t []).getD x (0, 0, 0) = W3) →
    L18_2 n m (p, ()) gaps (q, ()) u v (t : Int) (k : Int) (i : Int) = some (.inr (.inl ((p, ()), gaps, (q, ()), u, v, (t : Int), ((p.getD t []).length : Int), ())))
  | [], m + 1, i, k, j, hR, hm, hi, hI, hjk, hk, hW => by
    have h1 : (q.getD t []).length ≤ i := List.drop_eq_nil_iff.mp hR
    have h2 : (p.getD t []).length ≤ j := List.drop_eq_nil_iff.mp hI
    have : k = (p.getD t []).length := by omega
    subst this
    unfold L18_2
    simp only [lt_ii, le_0i, hq, Int.toNat_natCast, if_true]
    rw [show decide (i < (q.getD t []).length) = false from decide_eq_false (by omega), cond_false]
  | d :: R, m + 1, i, k, j, hR, hm, hi, hI, hjk, hk, hW => by
    obtain ⟨e1, hlt, hR'⟩ := getD_drop_cons (d := ((0 : Int), (0 : Int), (0 : Int))) hR
    have ih := fun k j => L18_2_eq n p q gaps u v t hp hq hps hqs R m (i + 1) k j hR' (by simp at hm; omega) (by omega)
    have wi : IntKind.i64.wrap ((i : Int) + 1) = ((i + 1 : Nat) : Int) := w64s (k := 0) (by omega)
    have wk : IntKind.i64.wrap ((k : Int) + 1) = ((k + 1 : Nat) : Int) := w64s (k := 0) (by omega)
    -- what stands when it is passed over
    have pass : ¬ (k < (p.getD t []).length ∧ d = (p.getD t []).getD k (0, 0, 0)) → d.1 = 4 ∧ L18_2 n m (p, ()) gaps (q, ()) u v (t : Int) (k : Int) ((i + 1 : Nat) : Int) = some (.inr (.inl ((p, ()), gaps, (q, ()), u, v, (t : Int), ((p.getD t []).length : Int), ()))) := by
      intro hne
      rcases hI with ⟨rfl, hI⟩ | ⟨S', hS, hI⟩
      · exact ⟨rfl, ih k j hI hjk hk hW⟩
      · obtain ⟨e2, hj, hS'⟩ := getD_drop_cons (d := ((0 : Int), (0 : Int), (0 : Int))) hS
        have hlt2 : j < k := by
          rcases Nat.lt_or_ge j k with h | h
          · exact h
          · have : j = k := by omega
            subst this
            exact absurd ⟨hj, e2.symm⟩ hne
        have hd : d = W3 := by rw [← e2]; exact hW j (Nat.le_refl _) hlt2
        exact ⟨by rw [hd]; rfl, ih k (j + 1) (by rw [hS']; exact hI) hlt2 hk (fun x h1 h2 => hW x (by omega) h2)⟩
    unfold L18_2
    simp only [lt_ii, le_0i, hp, hq, hlt, Int.toNat_natCast, if_true, decide_true, cond_true, e1, J18_16, wi, wk, eq3]
    by_cases hkl : k < (p.getD t []).length
    · simp only [hkl, decide_true, cond_true, if_true]
      by_cases hd : d = (p.getD t []).getD k (0, 0, 0)
      · rw [decide_eq_true hd, cond_true]
        rcases hI with ⟨hd2, hI⟩ | ⟨S', hS, hI⟩
        · exact ih (k + 1) j hI (by omega) (by omega) fun x h1 h2 => by
            by_cases hx : x < k
            · exact hW x h1 hx
            · have : x = k := by omega
              subst this
              rw [← hd]; exact hd2
        · obtain ⟨e2, hj, hS'⟩ := getD_drop_cons (d := ((0 : Int), (0 : Int), (0 : Int))) hS
          exact ih (k + 1) (j + 1) (by rw [hS']; exact hI) (by omega) (by omega) fun x h1 h2 => by
            by_cases hx : x < k
            · exact hW x (by omega) hx
            · have : x = k := by omega
              subst this
              rw [← hd, ← e2]
              exact hW j (Nat.le_refl _) (by omega)
      · obtain ⟨h4, e⟩ := pass fun h => hd h.2
        rw [decide_eq_false hd, cond_false, h4, bne_self_eq_false, cond_false]
        exact e
    · simp only [hkl, decide_false, cond_false]
      obtain ⟨h4, e⟩ := pass fun h => hkl h.1
      rw [h4, bne_self_eq_false, cond_false]
      exact e

theorem L18_0_eq (n : Nat) (hn : 1048576 < n) (p q : List (List D3)) (gaps : List Int) (hl : q.length = p.length) (hp : p.length ≤ 100) (hps : ∀ t ∈ p, t.length ≤ 1000) (hqs : ∀ t ∈ q, t.length ≤ 1000) (hI : ∀ t, t < p.length → Ins (q.getD t []) (p.getD t [])) :
    ∀ (k m i : Nat) (u v : Int), i + k = p.length → k < m → 0 ≤ u → u ≤ 1000 * i → 0 ≤ v → v ≤ 1000 * i →
    L18_0 n m (p, ()) gaps (q, ()) u v (i : Int) = some (.inr (.inl ((p, ()), gaps, (q, ()), u + lens (p.drop i), v + lens (q.drop i), ())))
  | 0, m + 1, i, u, v, hi, hm, _, _, _, _ => by
    have : i = p.length := by omega
    subst this
    unfold L18_0
    rw [show q.drop p.length = [] from List.drop_eq_nil_of_le (by omega)]
    simp [lens]
  | k + 1, m + 1, i, u, v, hi, hm, h0, h1, h2, h3 => by
    have hlt : i < p.length := by omega
    have hltq : i < q.length := by omega
    have hsz := hps _ (getD_mem p i [] hlt)
    have hszq := hqs _ (getD_mem q i [] hltq)
    have e := L18_2_eq n p q gaps u v i hlt hltq hsz hszq (q.getD i []) n 0 0 0 rfl (by omega) (by omega) (by rw [List.drop_zero]; exact hI i hlt) (by omega) (by omega) (fun x _ h => by omega)
    have e : L18_2 n n (p, ()) gaps (q, ()) u v (i : Int) (0 : Int) (0 : Int) = _ := e
    unfold L18_0
    simp only [lt_ii, le_0i, hlt, hltq, Int.toNat_natCast, if_true, decide_true, cond_true, e, bne_self_eq_false, cond_false]
    rw [w64s (i := i) (k := k) (by omega), w64 (x := u + _) (by omega) (by omega), w64 (x := v + _) (by omega) (by omega),
      L18_0_eq n hn p q gaps hl hp hps hqs hI k m (i + 1) _ _ (by omega) (by omega) (by omega) (by omega) (by omega) (by omega), getD_drop p i [] hlt, getD_drop q i [] hltq]
    simp only [lens, Int.natCast_add, Int.add_assoc]

/-- How many rooms of so many, from one on, have walls. -/
def cnt (gaps : List Int) : Nat → Nat → Nat
  | _, 0 => 0
  | a, c + 1 => (if (a : Int) ∈ gaps then 1 else 0) + cnt gaps (a + 1) c
theorem cnt_add (gaps : List Int) : ∀ (c d a : Nat), cnt gaps a (c + d) = cnt gaps a c + cnt gaps (a + c) d
  | 0, d, a => by simp [cnt]
  | c + 1, d, a => by
    rw [show c + 1 + d = (c + d) + 1 by omega]
    simp only [cnt, cnt_add gaps c d (a + 1)]
    rw [show a + 1 + c = a + (c + 1) by omega]
    omega
theorem wallI_cnt (gaps : List Int) : ∀ (l : List D3) (a : Nat), (wallI gaps a l).length = l.length + cnt gaps a l.length
  | [], _ => rfl
  | d :: l, a => by
    simp only [wallI, List.length_append, List.length_cons, wallI_cnt gaps l (a + 1), cnt]
    split <;> simp <;> omega
theorem wallT_cnt (gaps : List Int) (l : List D3) (a : Nat) : (wallT gaps a l).length = l.length + cnt gaps a (l.length - 1) := by
  cases l with
  | nil => rfl
  | cons d l => simp only [wallT, List.length_cons, wallI_cnt, Nat.add_sub_cancel]; omega
theorem wallP_cnt (gaps : List Int) : ∀ (p : List (List D3)) (a : Nat), lens (wallP gaps a p) = lens p + cnt gaps a (gapsAll p)
  | [], _ => rfl
  | t :: p, a => by
    simp only [wallP, lens, gapsAll, wallP_cnt gaps p, wallT_cnt, cnt_add]
    omega

theorem gOk_asc {many : Int} : ∀ {gaps : List Int} {pv : Option Int}, gOk many pv gaps = true → (∀ g ∈ gaps, 0 ≤ g ∧ g ≤ many - 1) ∧ (∀ p, pv = some p → ∀ g ∈ gaps, p < g) ∧ gaps.Pairwise (· < ·)
  | [], _, _ => ⟨by simp, by simp, List.Pairwise.nil⟩
  | g :: l, pv, h => by
    simp only [gOk, Bool.and_eq_true, decide_eq_true_eq] at h
    obtain ⟨⟨h1, h2⟩, h3, h4⟩ := h
    obtain ⟨i1, i2, i3⟩ := gOk_asc h4
    refine ⟨fun x hx => ?_, fun p hp x hx => ?_, List.Pairwise.cons (fun x hx => i2 g rfl x hx) i3⟩
    · rcases List.mem_cons.mp hx with rfl | hx
      · exact ⟨h1, h2⟩
      · exact i1 x hx
    · subst hp
      have h3 : p < g := by simpa using h3
      rcases List.mem_cons.mp hx with rfl | hx
      · exact h3
      · have := i2 g rfl x hx; omega

theorem cnt_less (g : Int) (l : List Int) : ∀ (c a : Nat), g < a → cnt (g :: l) a c = cnt l a c
  | 0, _, _ => rfl
  | c + 1, a, h => by
    simp only [cnt, cnt_less g l c (a + 1) (by omega), List.mem_cons]
    have : ¬ (a : Int) = g := by omega
    simp [this]
theorem cnt_all : ∀ (c a : Nat) (gaps : List Int), gaps.Pairwise (· < ·) → (∀ g ∈ gaps, (a : Int) ≤ g ∧ g < a + c) → cnt gaps a c = gaps.length
  | 0, a, gaps, _, h => by
    cases gaps with
    | nil => rfl
    | cons g l => have := h g (by simp); omega
  | c + 1, a, gaps, hp, h => by
    cases gaps with
    | nil => simpa [cnt] using cnt_all c (a + 1) [] List.Pairwise.nil (by simp)
    | cons g l =>
      have hg := h g (by simp)
      have hp' := List.pairwise_cons.mp hp
      by_cases hga : g = a
      · subst hga
        simp only [cnt, List.mem_cons, true_or, if_true, List.length_cons]
        rw [cnt_less _ l c (a + 1) (by omega), cnt_all c (a + 1) l hp'.2 fun x hx => by
          have := hp'.1 x hx
          have := h x (by simp [hx])
          omega]
        omega
      · have : ¬ (a : Int) ∈ g :: l := by
          intro hm
          rcases List.mem_cons.mp hm with h9 | h9
          · exact hga h9.symm
          · have := hp'.1 _ h9; omega
        simp only [cnt, this, if_false, Nat.zero_add]
        exact cnt_all c (a + 1) (g :: l) hp fun x hx => by
          have h8 := h x hx
          rcases List.mem_cons.mp hx with rfl | h9
          · omega
          · have := hp'.1 x h9; omega

theorem readsI (gaps : List Int) : ∀ (l : List D3) (a : Nat), readsN (wallI gaps a l) = readsN l
  | [], _ => rfl
  | d :: l, a => by
    simp only [wallI]
    split
    · simp only [List.cons_append, List.nil_append, readsN, readsI gaps l (a + 1)]
      simp [rd, W3]
    · simp only [List.nil_append, readsN, readsI gaps l (a + 1)]
theorem readsP (gaps : List Int) : ∀ (p : List (List D3)) (a : Nat), readsAll (wallP gaps a p) = readsAll p
  | [], _ => rfl
  | t :: p, a => by
    simp only [wallP, readsAll, readsP gaps p]
    cases t with
    | nil => rfl
    | cons d l => simp only [wallT, readsN, readsI]

theorem wallP_get (gaps : List Int) : ∀ (p : List (List D3)) (a t : Nat), t < p.length → Ins ((wallP gaps a p).getD t []) (p.getD t [])
  | [], _, _, h => by simp at h
  | s :: p, a, 0, h => by simp only [wallP, List.getD_cons_zero]; exact ins_T gaps s a
  | s :: p, a, t + 1, h => by
    simp only [wallP, List.getD_cons_succ]
    exact wallP_get gaps p _ t (by simpa using h)

theorem pure_FnWallPut (xs : pdens [.c false (.v true (.rs 5 (.int .u8)))]) (hg : GoodP 0 [.c false (.v true (.rs 5 (.int .u8)))] xs) :
    ∃ n, F18 n xs.1 = some (true, ()) := by
  obtain ⟨c, _⟩ := xs
  obtain ⟨⟨h1, h2⟩, _⟩ := hg
  refine ⟨1048577, ?_⟩
  have hn : 1048576 < 1048577 := by omega
  generalize 1048577 = n at *
  unfold F18
  by_cases hc : (c.length : Int) > 1048576
  · simp only [hc, decide_true, cond_true]
  · simp only [hc, decide_false, cond_false]
    obtain ⟨q, gaps, k1, k2, k3⟩ := F58_ok n hn c (goodBytes (by omega) h2)
    have hs : ∀ t ∈ q, t.length ≤ 1048576 := fun t ht => by have := k2.2.2 t ht; omega
    have sm := wallPut_small q gaps
    have e1 := F59_eq n hn q gaps (by omega)
    have e2 := F60_eq n hn q hs gaps (by omega)
    have e4 := F61_self n hn _ sm.1 sm.2
    simp only [k1, e1, e2, e4, Option.bind_some, Bool.not_true, cond_false]
    unfold wallPut
    cases hok : (progOk q && (gOk (gapsAll q) none gaps && progOk (wallP gaps 0 q)))
    · rfl
    · simp only [Bool.and_eq_true] at hok
      obtain ⟨o1, o2, o3⟩ := hok
      simp only [if_true, Bool.not_true, cond_false, beq_self_eq_true]
      unfold J18_8
      have hl := progOk_len2 o3
      have hlq := progOk_len2 o1
      obtain ⟨a1, _, a3⟩ := gOk_asc o2
      have hc := wallP_cnt gaps q 0
      rw [cnt_all _ _ gaps a3 (fun g hg => by have := a1 g hg; omega)] at hc
      have e := L18_0_eq n hn q (wallP gaps 0 q) gaps (wallP_len gaps q 0) (by omega) (fun t ht => by have := hlq.2 t ht; omega) (fun t ht => by have := hl.2 t ht; omega) (wallP_get gaps q 0) q.length n 0 0 0 (by omega) (by omega) (by omega) (by omega) (by omega) (by omega)
      have e : L18_0 n n (q, ()) gaps (wallP gaps 0 q, ()) (0 : Int) (0 : Int) (0 : Int) = _ := e
      have hL : lens q ≤ 14 := (progOkIff.mp o1).2.2.1
      simp only [e, List.drop_zero, hc]
      rw [w64 (by omega) (by omega), show ((0 : Int) + ((lens q + gaps.length : Nat) : Int) == 0 + (lens q : Int) + (gaps.length : Int)) = true by simp]
      simp only [cond_true, F43_eq n hn q hs, F43_eq n hn (wallP gaps 0 q) (fun t ht => by have := hl.2 t ht; omega), o1, o3, if_true, readsP, Option.bind_some, beq_self_eq_true]
end Go.Proofs.Ytaehbfaldofmbaa.Ev
