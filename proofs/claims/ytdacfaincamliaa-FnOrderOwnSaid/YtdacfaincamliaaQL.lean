/- Plain facts about the events of a program, the last read, and what a use gives. Conditions: those of each theorem. -/
import Derived.Test.YtdacfaincamliaaQE
import Derived.Test.YtdacfaincamliaaPE
namespace Go.Proofs.Ytdacfaincamliaa.Ev
open Go
abbrev Q4 := E3 × D3
abbrev D0 : D3 := ((0 : Int), (0 : Int), (0 : Int))
abbrev E0 : E3 := ((0 : Int), (0 : Int), false)
def evqT (t : Nat) : Nat → List D3 → List Q4
  | _, [] => []
  | i, d :: l => (((t : Int), (i : Int), false), d) :: ((if d.1 = 9 then [(((t : Int), (i : Int), true), d)] else []) ++ evqT t (i + 1) l)
def evqP : Nat → List (List D3) → List Q4
  | _, [] => []
  | t, s :: p => evqT t 0 s ++ evqP (t + 1) p
theorem evqT_fst (t : Nat) : ∀ (l : List D3) (i : Nat), (evqT t i l).map Prod.fst = evT t i l
  | [], i => rfl
  | d :: l, i => by
    simp only [evqT, evT, List.map_cons, List.map_append, evqT_fst t l]
    split <;> rfl
theorem evqP_fst : ∀ (p : List (List D3)) (t : Nat), (evqP t p).map Prod.fst = evP t p
  | [], t => rfl
  | s :: p, t => by simp only [evqP, evP, List.map_append, evqT_fst, evqP_fst p]
def dsP (p : List (List D3)) : List D3 := (evqP 0 p).map Prod.snd
theorem dsP_len (p : List (List D3)) : (dsP p).length = (evP 0 p).length := by rw [← evqP_fst, dsP, List.length_map, List.length_map]

def Is (P : List (List D3)) (x : Q4) : Prop := ∃ t i : Nat, x.1.1 = t ∧ x.1.2.1 = i ∧ t < P.length ∧ i < (P.getD t []).length ∧ x.2 = (P.getD t []).getD i D0
theorem evqT_is (P : List (List D3)) (t : Nat) (ht : t < P.length) : ∀ (l : List D3) (i : Nat), (P.getD t []).drop i = l → ∀ x, x ∈ evqT t i l → Is P x
  | [], i, _, x, hx => by cases hx
  | d :: l, i, h, x, hx => by
    have hlt : i < (P.getD t []).length := by
      rcases Nat.lt_or_ge i (P.getD t []).length with h1 | h1
      · exact h1
      · rw [List.drop_eq_nil_of_le h1] at h; cases h
    rw [getD_drop _ i D0 hlt] at h
    injection h with h1 h2
    rcases List.mem_cons.mp hx with rfl | hx
    · exact ⟨t, i, rfl, rfl, ht, hlt, h1.symm⟩
    · rcases List.mem_append.mp hx with hx | hx
      · by_cases h9 : d.1 = 9
        · rw [if_pos h9] at hx
          have := List.mem_singleton.mp hx
          subst this
          exact ⟨t, i, rfl, rfl, ht, hlt, h1.symm⟩
        · rw [if_neg h9] at hx; cases hx
      · exact evqT_is P t ht l (i + 1) h2 x hx
theorem evqP_is (P : List (List D3)) : ∀ (p : List (List D3)) (t : Nat), P.drop t = p → ∀ x, x ∈ evqP t p → Is P x
  | [], t, _, x, hx => by cases hx
  | s :: p, t, h, x, hx => by
    have hlt : t < P.length := by
      rcases Nat.lt_or_ge t P.length with h1 | h1
      · exact h1
      · rw [List.drop_eq_nil_of_le h1] at h; cases h
    rw [getD_drop _ t [] hlt] at h
    injection h with h1 h2
    rcases List.mem_append.mp hx with hx | hx
    · exact evqT_is P t hlt s 0 (by rw [h1]; rfl) x hx
    · exact evqP_is P p (t + 1) h2 x hx

theorem thRun_formed : ∀ (l : List D3) (r b : Bool) (c : Bool), thRun l r b = some c → ∀ d, d ∈ l → formed d = true
  | [], _, _, _, _, d, hd => by cases hd
  | e :: l, r, b, c, h, d, hd => by
    unfold thRun at h
    cases hs : thStep e r b with
    | none => rw [hs] at h; cases h
    | some q =>
      rw [hs] at h
      rcases List.mem_cons.mp hd with rfl | hd
      · unfold thStep at hs
        cases hf : formed d
        · rw [hf] at hs; simp at hs
        · rfl
      · exact thRun_formed l _ _ _ h d hd
theorem thOk_run {l : List D3} (h : thOk l = true) : ∃ c, thRun l false false = some c := by
  unfold thOk at h
  simp only [Bool.and_eq_true] at h
  cases hr : thRun l false false with
  | none => rw [hr] at h; exact absurd h.2 (by decide)
  | some c => exact ⟨c, rfl⟩

theorem evqT_src (t : Nat) : ∀ (l : List D3) (i : Nat) (r b c : Bool), thRun l r b = some c → ∀ A x B, evqT t i l = A ++ x :: B → x.2.1 = 3 → r = true ∨ ∃ y, y ∈ A ∧ rd y.2 = true
  | [], i, r, b, c, _, A, x, B, h, _ => by cases A <;> cases h
  | d :: l, i, r, b, c, hr, A, x, B, h, h3 => by
    unfold thRun at hr
    cases hs : thStep d r b with
    | none => rw [hs] at hr; cases hr
    | some q =>
      rw [hs] at hr
      have hq : q.1 = (r || rd d) ∧ (d.1 = 3 → r = true) := by
        unfold thStep at hs
        by_cases hc : (!formed d || ((decide (d.1 = 3) && !r) || ((b && (decide (d.1 = 7) || decide (d.1 = 9))) || (!b && decide (d.1 = 8))))) = true
        · rw [if_pos hc] at hs; cases hs
        · rw [if_neg hc] at hs
          injection hs with hs
          refine ⟨by rw [← hs], fun h => ?_⟩
          cases r
          · exact absurd (by rw [decide_eq_true h]; simp) hc
          · rfl
      simp only [evqT] at h
      cases A with
      | nil =>
        injection h with h1 _
        rw [← h1] at h3
        exact .inl (hq.2 h3)
      | cons a0 A' =>
        injection h with h0 h1
        have rest : ∀ A'', evqT t (i + 1) l = A'' ++ x :: B → (∀ y, y ∈ A'' → y ∈ A') → r = true ∨ ∃ y, y ∈ a0 :: A' ∧ rd y.2 = true := by
          intro A'' e hsub
          rcases evqT_src t l (i + 1) q.1 q.2 c hr A'' x B e h3 with h | ⟨y, hy, h⟩
          · rw [hq.1] at h
            cases r
            · right
              exact ⟨a0, by simp, by rw [← h0]; simpa using h⟩
            · exact .inl rfl
          · exact .inr ⟨y, by simp [hsub y hy], h⟩
        by_cases h9 : d.1 = 9
        · rw [if_pos h9] at h1
          cases A' with
          | nil =>
            injection h1 with h1 _
            rw [← h1] at h3
            have : d.1 = 3 := h3
            omega
          | cons a1 A'' =>
            injection h1 with _ h1
            exact rest A'' h1 fun y hy => by simp [hy]
        · rw [if_neg h9] at h1
          exact rest A' h1 fun y hy => hy
theorem evqT_thr (t : Nat) : ∀ (l : List D3) (i : Nat), ∀ x, x ∈ evqT t i l → x.1.1 = t
  | [], i, x, hx => by cases hx
  | d :: l, i, x, hx => by
    rcases List.mem_cons.mp hx with rfl | hx
    · rfl
    · rcases List.mem_append.mp hx with hx | hx
      · by_cases h9 : d.1 = 9
        · rw [if_pos h9] at hx
          have := List.mem_singleton.mp hx
          subst this
          rfl
        · rw [if_neg h9] at hx; cases hx
      · exact evqT_thr t l (i + 1) x hx
theorem evqP_src : ∀ (p : List (List D3)) (t : Nat), (∀ s, s ∈ p → thOk s = true) → ∀ A x B, evqP t p = A ++ x :: B → x.2.1 = 3 → ∃ A1 A2, A = A1 ++ A2 ∧ (∀ y, y ∈ A2 → y.1.1 = x.1.1) ∧ ∃ y, y ∈ A2 ∧ rd y.2 = true
  | [], t, _, A, x, B, h, _ => by cases A <;> cases h
  | s :: p, t, hs, A, x, B, h, h3 => by
    have ih := fun A' e => evqP_src p (t + 1) (fun s hm => hs s (by simp [hm])) A' x B e h3
    rcases List.append_eq_append_iff.mp (show evqT t 0 s ++ evqP (t + 1) p = A ++ x :: B from h) with ⟨A', h1, h2⟩ | ⟨c', h1, h2⟩
    · obtain ⟨A1, A2, e, h4, h5⟩ := ih A' h2
      exact ⟨evqT t 0 s ++ A1, A2, by rw [h1, e, List.append_assoc], h4, h5⟩
    · cases c' with
      | nil =>
        obtain ⟨A1, A2, e, h4, h5⟩ := ih [] (by simpa using h2.symm)
        cases A1
        · cases A2
          · obtain ⟨y, hy, _⟩ := h5; cases hy
          · cases e
        · cases e
      | cons c0 c' =>
        injection h2 with h2 _
        subst h2
        obtain ⟨c, hc⟩ := thOk_run (hs s (by simp))
        rcases evqT_src t s 0 false false c hc A x c' h1 h3 with h | h
        · cases h
        · have hx := evqT_thr t s 0 x (by rw [h1]; simp)
          exact ⟨[], A, rfl, fun y hy => by rw [hx, evqT_thr t s 0 y (by rw [h1]; simp [hy])], h⟩

theorem getD_map {α β : Type} (f : α → β) (l : List α) (i : Nat) (a : α) (b : β) (h : i < l.length) : (l.map f).getD i b = f (l.getD i a) := by
  simp [List.getD_eq_getElem?_getD, List.getElem?_map, List.getElem?_eq_getElem h]

/-- A copy's source: a read before it, with only its own thread between. -/
theorem dsP_src {p : List (List D3)} (hs : ∀ s, s ∈ p → thOk s = true) (a : Nat) (ha : a < (dsP p).length) (h3 : ((dsP p).getD a D0).1 = 3) :
    ∃ j, j < a ∧ rd ((dsP p).getD j D0) = true ∧ ∀ k, j ≤ k → k < a → ((evP 0 p).getD k E0).1 = ((evP 0 p).getD a E0).1 := by
  have hq : a < (evqP 0 p).length := by simpa [dsP] using ha
  have e : evqP 0 p = (evqP 0 p).take a ++ (evqP 0 p).getD a (E0, D0) :: (evqP 0 p).drop (a + 1) := by
    rw [← getD_drop _ a _ hq, List.take_append_drop]
  rw [dsP, getD_map _ _ a (E0, D0) _ hq] at h3
  obtain ⟨A1, A2, e1, h4, y, hy, h5⟩ := evqP_src p 0 hs _ _ _ e h3
  obtain ⟨m, hm, e2⟩ := List.getElem_of_mem hy
  have hl : A1.length + A2.length = a := by
    have := congrArg List.length e1
    rw [List.length_take, List.length_append] at this
    omega
  have hg : ∀ k, A1.length ≤ k → k < a → ∃ h : k - A1.length < A2.length, (evqP 0 p).getD k (E0, D0) = A2[k - A1.length] := by
    intro k h1 h2
    refine ⟨by omega, ?_⟩
    rw [e, e1]
    rw [List.getD_eq_getElem?_getD, List.getElem?_append_left (by rw [List.length_append]; omega), List.getElem?_append_right h1, List.getElem?_eq_getElem (by omega)]
    rfl
  refine ⟨A1.length + m, by omega, ?_, fun k h1 h2 => ?_⟩
  · obtain ⟨h, e3⟩ := hg (A1.length + m) (by omega) (by omega)
    rw [dsP, getD_map _ _ _ (E0, D0) _ (by omega), e3]
    have : A2[A1.length + m - A1.length] = y := by rw [← e2]; congr 1; omega
    rw [this]; exact h5
  · obtain ⟨h, e3⟩ := hg k (by omega) h2
    rw [← evqP_fst, getD_map _ _ _ (E0, D0) _ (by omega), getD_map _ _ _ (E0, D0) _ hq, e3]
    exact h4 _ (List.getElem_mem _)

def lastRd (ds : List D3) : Nat → Nat
  | 0 => 0
  | a + 1 => if rd (ds.getD a D0) then a else lastRd ds a
theorem lastRd_is (ds : List D3) : ∀ (a j : Nat), j < a → rd (ds.getD j D0) = true → rd (ds.getD (lastRd ds a) D0) = true ∧ lastRd ds a < a ∧ j ≤ lastRd ds a
  | 0, j, h, _ => by omega
  | a + 1, j, h, hj => by
    unfold lastRd
    cases hr : rd (ds.getD a D0)
    · rw [if_neg (by decide)]
      have : j ≠ a := fun e => by rw [e, hr] at hj; cases hj
      have := lastRd_is ds a j (by omega) hj
      exact ⟨this.1, by omega, this.2.2⟩
    · rw [if_pos rfl]
      exact ⟨hr, by omega, by omega⟩

/-- The events that write to a place, in ascending order. -/
def wsF (c : Int) : Nat → List D3 → List Int
  | _, [] => []
  | i, d :: l => (if wr d = true ∧ d.2.1 = c then [(i : Int)] else []) ++ wsF c (i + 1) l
theorem wsF_ge (c : Int) : ∀ (l : List D3) (i : Nat) (x : Int), x ∈ wsF c i l → ∃ k : Nat, x = ((i + k : Nat) : Int) ∧ k < l.length ∧ wr (l.getD k D0) = true ∧ (l.getD k D0).2.1 = c
  | [], i, x, hx => by cases hx
  | d :: l, i, x, hx => by
    rcases List.mem_append.mp hx with hx | hx
    · by_cases h : wr d = true ∧ d.2.1 = c
      · rw [if_pos h] at hx
        have := List.mem_singleton.mp hx
        exact ⟨0, by simpa using this, by simp, h.1, h.2⟩
      · rw [if_neg h] at hx; cases hx
    · obtain ⟨k, h1, h2, h3, h4⟩ := wsF_ge c l (i + 1) x hx
      exact ⟨k + 1, by rw [h1]; congr 1; omega, by simp; omega, h3, h4⟩
theorem wsF_len (c : Int) : ∀ (l : List D3) (i : Nat), (wsF c i l).length ≤ l.length
  | [], i => by simp [wsF]
  | d :: l, i => by
    have := wsF_len c l (i + 1)
    simp only [wsF, List.length_append, List.length_cons]
    split <;> simp <;> omega
theorem wsF_lt (c : Int) : ∀ (l : List D3) (i : Nat), (wsF c i l).Pairwise (· < ·)
  | [], i => by simp [wsF]
  | d :: l, i => by
    refine List.pairwise_append.mpr ⟨?_, wsF_lt c l (i + 1), fun x hx y hy => ?_⟩
    · split <;> simp
    · obtain ⟨k, h1, _⟩ := wsF_ge c l (i + 1) y hy
      by_cases h : wr d = true ∧ d.2.1 = c
      · rw [if_pos h] at hx
        have := List.mem_singleton.mp hx
        omega
      · rw [if_neg h] at hx; cases hx

/-- What a step gives, or where it is to be looked for. -/
def gS (ds : List D3) (fr : List Int) (a : Nat) : Sum Int Nat :=
  if rd (ds.getD a D0) then (if fr.getD a 0 = -1 then .inl 0 else .inr (fr.getD a 0).toNat)
  else if (ds.getD a D0).1 = 3 then .inr (lastRd ds a) else .inl (ds.getD a D0).2.2

/-- The sources are fit: none, or a write. -/
def Fit (ds : List D3) (fr : List Int) : Prop := fr.length = ds.length ∧ ∀ a, a < ds.length → rd (ds.getD a D0) = true → fr.getD a 0 = -1 ∨ ∃ b : Nat, b < ds.length ∧ fr.getD a 0 = b ∧ wr (ds.getD b D0) = true
theorem gS_lt {p : List (List D3)} {fr : List Int} (hs : ∀ s, s ∈ p → thOk s = true) (hf : Fit (dsP p) fr) : ∀ a, a < (dsP p).length → ∀ b, gS (dsP p) fr a = .inr b → b < (dsP p).length ∧ us ((dsP p).getD b D0) = true := by
  intro a ha b h
  unfold gS at h
  by_cases hr : rd ((dsP p).getD a D0) = true
  · rw [if_pos hr] at h
    rcases hf.2 a ha hr with h1 | ⟨c, h1, h2, h3⟩
    · rw [if_pos h1] at h; cases h
    · rw [h2, if_neg (by omega)] at h
      injection h with h
      have h : c = b := by simpa using h
      subst h
      exact ⟨h1, by unfold us; rw [h3, Bool.or_true]⟩
  · rw [if_neg hr] at h
    by_cases h3 : ((dsP p).getD a D0).1 = 3
    · rw [if_pos h3] at h
      injection h with h
      obtain ⟨j, hj, hj2, _⟩ := dsP_src hs a ha h3
      have := lastRd_is _ a j hj hj2
      rw [h] at this
      exact ⟨by omega, by unfold us; rw [this.1, Bool.true_or]⟩
    · rw [if_neg h3] at h; cases h
theorem dsP_formed {p : List (List D3)} (hs : ∀ s, s ∈ p → thOk s = true) (d : D3) (hd : d ∈ dsP p) : formed d = true := by
  obtain ⟨x, hx, rfl⟩ := List.mem_map.mp hd
  obtain ⟨t, i, _, _, ht, hi, e⟩ := evqP_is p p 0 rfl x hx
  obtain ⟨c, hc⟩ := thOk_run (hs _ (getD_mem p t [] ht))
  rw [e]
  exact thRun_formed _ _ _ c hc _ (getD_mem _ i D0 hi)
theorem gS_nn {p : List (List D3)} {fr : List Int} (hs : ∀ s, s ∈ p → thOk s = true) : ∀ a, a < (dsP p).length → ∀ v, gS (dsP p) fr a = .inl v → 0 ≤ v := by
  intro a ha v h
  unfold gS at h
  by_cases hr : rd ((dsP p).getD a D0) = true
  · rw [if_pos hr] at h
    by_cases h1 : fr.getD a 0 = -1
    · rw [if_pos h1] at h; injection h with h; omega
    · rw [if_neg h1] at h; cases h
  · rw [if_neg hr] at h
    by_cases h3 : ((dsP p).getD a D0).1 = 3
    · rw [if_pos h3] at h; cases h
    · rw [if_neg h3] at h
      injection h with h
      have := dsP_formed hs _ (getD_mem (dsP p) a D0 ha)
      unfold formed at this
      simp only [Bool.and_eq_true] at this
      have := this.2
      split at this
      · simp only [Bool.and_eq_true, decide_eq_true_eq] at this; omega
      · simp only [decide_eq_true_eq] at this; omega
theorem chn_nn {f : Nat → Sum Int Nat} {n : Nat} (hf : ∀ a, a < n → ∀ b, f a = .inr b → b < n) (hv : ∀ a, a < n → ∀ v, f a = .inl v → 0 ≤ v) : ∀ (m a : Nat) (v : Int), a < n → chn f m a = some v → 0 ≤ v
  | 0, a, v, _, h => by cases h
  | m + 1, a, v, ha, h => by
    unfold chn at h
    cases hg : f a with
    | inl w => rw [hg] at h; injection h with h; rw [← h]; exact hv a ha w hg
    | inr b => rw [hg] at h; exact chn_nn hf hv m b v (hf a ha b hg) h
end Go.Proofs.Ytdacfaincamliaa.Ev
