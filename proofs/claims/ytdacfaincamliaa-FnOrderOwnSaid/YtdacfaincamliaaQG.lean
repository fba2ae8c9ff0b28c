/- What the printed functions of ExecOk's two forms come to. Conditions: none. -/
import Derived.Test.YtdacfaincamliaaGF
import Derived.Test.YtdacfaincamliaaGI
import Derived.Test.YtdacfaincamliaaQL
import Derived.Test.YtdacfaincamliaaQX0
namespace Go.Proofs.Ytdacfaincamliaa.Ev
open Go

/-- What holds of the events and the steps that the walk works on. -/
structure Evs (p : List (List D3)) (evs : List E3) (ds : List D3) : Prop where
  len : ds.length = evs.length
  small : evs.length ≤ 1000
  isv : ∀ a, a < evs.length → ∃ t i : Nat, (evs.getD a E0).1 = t ∧ (evs.getD a E0).2.1 = i ∧ t < p.length ∧ i < (p.getD t []).length ∧ ds.getD a D0 = (p.getD t []).getD i D0
  frm : ∀ d, d ∈ ds → formed d = true
  src : ∀ a, a < ds.length → (ds.getD a D0).1 = 3 → ∃ j, j < a ∧ rd (ds.getD j D0) = true ∧ ∀ k, j ≤ k → k < a → (evs.getD k E0).1 = (evs.getD a E0).1
theorem evs_ok {p : List (List D3)} (h : progOk p = true) : Evs p (evP 0 p) (dsP p) := by
  have h' := progOkIff.mp h
  have hl := evP_len p 0
  refine ⟨dsP_len p, by omega, fun a ha => ?_, dsP_formed h'.2.1, dsP_src h'.2.1⟩
  have hq : a < (evqP 0 p).length := by rw [← dsP_len, dsP, List.length_map] at ha; exact ha
  obtain ⟨t, i, h1, h2, h3, h4, h5⟩ := evqP_is p p 0 rfl _ (getD_mem (evqP 0 p) a (E0, D0) hq)
  refine ⟨t, i, ?_, ?_, h3, h4, ?_⟩
  · rw [← evqP_fst, getD_map _ _ _ (E0, D0) _ hq]; exact h1
  · rw [← evqP_fst, getD_map _ _ _ (E0, D0) _ hq]; exact h2
  · rw [dsP, getD_map _ _ _ (E0, D0) _ hq]; exact h5

section
variable {p : List (List D3)} {evs : List E3} {ds : List D3} (W : Evs p evs ds)
include W
theorem F107_eq (n a : Nat) (ha : a < evs.length) : F107 n p (evs.getD a E0) = some (ds.getD a D0, ()) := by
  obtain ⟨t, i, h1, h2, h3, h4, h5⟩ := W.isv a ha
  unfold F107
  rw [h1, h2]
  simp only [le_0i, lt_ii, Int.toNat_natCast, if_true, h3, h4]
  rw [h5]
theorem F107_eq' (n a : Nat) (ha : a < evs.length) : F107 n p ((evs.getD a E0).fst, (evs.getD a E0).snd.fst, (evs.getD a E0).snd.snd) = some (ds.getD a D0, ()) := F107_eq W n a ha

theorem L70_eq (n : Nat) (y : List (List D3) × List E3 × List D3 × Unit) : ∀ (k m a : Nat) (acc : List D3), a + k = evs.length → k < m → acc = ds.take a →
    L70_0 n m (p, ()) y (p, evs, acc, ()) evs (evs.length : Int) (a : Int) = some (.inl (y, (p, evs, ds, ()), ()))
  | 0, m + 1, a, acc, hi, hm, he => by
    have : a = evs.length := by omega
    subst this
    have hl := W.len
    rw [he, List.take_of_length_le (by omega)]
    unfold L70_0
    simp
  | k + 1, m + 1, a, acc, hi, hm, he => by
    have hlt : a < evs.length := by omega
    have hs := W.small
    have hl := W.len
    obtain ⟨t, i, h1, h2, h3, h4, h5⟩ := W.isv a hlt
    have hal : acc.length = a := by rw [he, List.length_take]; omega
    unfold L70_0
    simp only [lt_ii, le_0i, hlt, Int.toNat_natCast, if_true, decide_true, cond_true]
    rw [h1, h2]
    simp only [lt_ii, le_0i, h3, h4, Int.toNat_natCast, if_true]
    rw [if_pos (by rw [hal]; simp; omega), w64s (k := k) (by omega)]
    refine L70_eq n y k m (a + 1) _ (by omega) (by omega) ?_
    rw [he]
    have e : ds.getD a D0 = (p.getD t []).getD i D0 := h5
    rw [show (((p.getD t []).getD i D0).fst, ((p.getD t []).getD i D0).snd.fst, ((p.getD t []).getD i D0).snd.snd) = ds.getD a D0 from e.symm, List.take_succ_eq_append_getElem (by omega)]
    congr 1
    rw [List.getD_eq_getElem?_getD, List.getElem?_eq_getElem (by omega)]
    rfl

/-! ### Writers -/
theorem L136_eq (n : Nat) (c : Int) : ∀ (k m a : Nat) (acc : List Int), a + k = ds.length → k < m → acc.length ≤ a → L136_0 n m c acc ds (ds.length : Int) (a : Int) = some (.inl (acc ++ wsF c a (ds.drop a), ()))
  | 0, m + 1, a, acc, hi, hm, he => by
    have : a = ds.length := by omega
    subst this
    unfold L136_0
    simp [wsF]
  | k + 1, m + 1, a, acc, hi, hm, he => by
    have hlt : a < ds.length := by omega
    have hs := W.small
    have hl := W.len
    unfold L136_0
    simp only [lt_ii, le_0i, hlt, Int.toNat_natCast, if_true, decide_true, cond_true, eta3, F124_eq, Option.bind_some, J136_7, beq_int]
    rw [w64s (k := k) (by omega), getD_drop ds a D0 hlt]
    simp only [wsF]
    by_cases h1 : wr (ds.getD a D0) = true
    · by_cases h2 : (ds.getD a D0).2.1 = c
      · rw [h1, cond_true, decide_eq_true h2, cond_true, if_pos (by simp; omega), if_pos ⟨rfl, h2⟩]
        rw [L136_eq n c k m (a + 1) _ (by omega) (by omega) (by simp; omega), List.append_assoc]
      · rw [h1, cond_true, decide_eq_false h2, cond_false, if_neg (fun h => h2 h.2), List.nil_append]
        rw [L136_eq n c k m (a + 1) _ (by omega) (by omega) (by omega)]
    · have h1' : wr (ds.getD a D0) = false := by simpa using h1
      rw [h1', cond_false, if_neg (fun h => by cases h.1), List.nil_append]
      rw [L136_eq n c k m (a + 1) _ (by omega) (by omega) (by omega)]
theorem F136_eq (n : Nat) (hn : 1048576 < n) (x : List (List D3)) (y : List E3) (c : Int) : F136 n (x, y, ds) c = some (wsF c 0 ds, ()) := by
  have hs := W.small
  have hl := W.len
  unfold F136
  rw [show L136_0 n n c [] ds (ds.length : Int) (0 : Int) = _ from L136_eq W n c ds.length n 0 [] (by omega) (by omega) (by simp)]
  simp
theorem L105_eq (n : Nat) (c : Int) : ∀ (k m a : Nat) (acc : List Int), a + k = ds.length → k < m → acc.length ≤ a → L105_0 n m evs c (p, ()) acc (a : Int) = some (.inl (acc ++ wsF c a (ds.drop a), ()))
  | 0, m + 1, a, acc, hi, hm, he => by
    have hl := W.len
    have : a = evs.length := by omega
    subst this
    unfold L105_0
    rw [List.drop_of_length_le (by omega)]
    simp [wsF]
  | k + 1, m + 1, a, acc, hi, hm, he => by
    have hs := W.small
    have hl := W.len
    have hlt : a < ds.length := by omega
    have hlt2 : a < evs.length := by omega
    unfold L105_0
    simp only [lt_ii, le_0i, hlt2, Int.toNat_natCast, if_true, decide_true, cond_true]
    rw [F107_eq' W n a hlt2, Option.bind_some]
    simp only [eta3, F80_eq, Option.bind_some, J105_4, beq_int]
    rw [w64s (k := k) (by omega), getD_drop ds a D0 hlt]
    simp only [wsF]
    by_cases h1 : wr (ds.getD a D0) = true
    · by_cases h2 : (ds.getD a D0).2.1 = c
      · rw [h1, cond_true, decide_eq_true h2, cond_true, if_pos (by simp; omega), if_pos ⟨rfl, h2⟩]
        rw [L105_eq n c k m (a + 1) _ (by omega) (by omega) (by simp; omega), List.append_assoc]
      · rw [h1, cond_true, decide_eq_false h2, cond_false, if_neg (fun h => h2 h.2), List.nil_append]
        rw [L105_eq n c k m (a + 1) _ (by omega) (by omega) (by omega)]
    · have h1' : wr (ds.getD a D0) = false := by simpa using h1
      rw [h1', cond_false, if_neg (fun h => by cases h.1), List.nil_append]
      rw [L105_eq n c k m (a + 1) _ (by omega) (by omega) (by omega)]
theorem F105_eq (n : Nat) (hn : 1048576 < n) (c : Int) : F105 n p evs c = some (wsF c 0 ds, ()) := by
  have hs := W.small
  have hl := W.len
  unfold F105
  rw [show L105_0 n n evs c (p, ()) [] (0 : Int) = _ from L105_eq W n c ds.length n 0 [] (by omega) (by omega) (by simp)]
  simp

/-! ### The last read -/
theorem L141_eq (n : Nat) (x : List (List D3)) (y : List E3) : ∀ (a m : Nat), a < m → a ≤ ds.length → (∃ j, j < a ∧ rd (ds.getD j D0) = true) → L141_0 n m ((a : Int) - 1) ((x, y, ds), ()) = some (.inl (((lastRd ds a : Nat) : Int), ()))
  | 0, m, hm, ha, h => by obtain ⟨j, h, _⟩ := h; omega
  | a + 1, m + 1, hm, ha, h => by
    have hs := W.small
    have hl := W.len
    have hlt : a < ds.length := by omega
    unfold L141_0
    rw [show ((a + 1 : Nat) : Int) - 1 = (a : Int) by omega]
    simp only [lt_ii, le_0i, hlt, Int.toNat_natCast, if_true, eta3, F121_eq, Option.bind_some, lastRd]
    cases hr : rd (ds.getD a D0)
    · rw [Bool.not_false, cond_true, w64 (by omega) (by omega), if_neg (by decide)]
      refine L141_eq n x y a m (by omega) (by omega) ?_
      obtain ⟨j, h1, h2⟩ := h
      have : j ≠ a := fun e => by rw [e, hr] at h2; cases h2
      exact ⟨j, by omega, h2⟩
    · rw [Bool.not_true, cond_false, if_pos rfl]
theorem F141_eq (n : Nat) (hn : 1048576 < n) (x : List (List D3)) (y : List E3) (a : Nat) (ha : a < ds.length) (h3 : (ds.getD a D0).1 = 3) : F141 n (x, y, ds) (a : Int) = some (((lastRd ds a : Nat) : Int), ()) := by
  have hs := W.small
  have hl := W.len
  obtain ⟨j, h1, h2, _⟩ := W.src a ha h3
  unfold F141
  rw [w64 (by omega) (by omega), L141_eq W n x y a n (by omega) (by omega) ⟨j, h1, h2⟩]
theorem L133_eq (n w : Nat) (hw : w < evs.length) : ∀ (a m : Nat), a < m → a ≤ ds.length → (∃ j, j < a ∧ rd (ds.getD j D0) = true ∧ ∀ k, j ≤ k → k < a → (evs.getD k E0).1 = (evs.getD w E0).1) → L133_0 n m evs (w : Int) (p, ()) ((a : Int) - 1) = some (.inl (((lastRd ds a : Nat) : Int), ()))
  | 0, m, hm, ha, h => by obtain ⟨j, h, _⟩ := h; omega
  | a + 1, m + 1, hm, ha, h => by
    have hs := W.small
    have hl := W.len
    have hlt : a < evs.length := by omega
    obtain ⟨j, h1, h2, h3⟩ := h
    unfold L133_0
    rw [show ((a + 1 : Nat) : Int) - 1 = (a : Int) by omega, show decide ((a : Int) ≥ 0) = true from decide_eq_true (by omega), cond_true]
    simp only [lt_ii, le_0i, hlt, hw, Int.toNat_natCast, if_true]
    rw [show ((evs.getD a E0).1 == (evs.getD w E0).1) = true by rw [beq_int]; exact decide_eq_true (h3 a (by omega) (by omega)), cond_true, F107_eq' W n a hlt]
    simp only [eta3, F79_eq, Option.bind_some, lastRd, J133_3]
    cases hr : rd (ds.getD a D0)
    · rw [cond_false, w64 (by omega) (by omega), if_neg (by decide)]
      have : j ≠ a := fun e => by rw [e, hr] at h2; cases h2
      exact L133_eq n w hw a m (by omega) (by omega) ⟨j, by omega, h2, fun k h4 h5 => h3 k h4 (by omega)⟩
    · rw [cond_true, if_pos rfl]
theorem F133_eq (n : Nat) (hn : 1000 < n) (a : Nat) (ha : a < ds.length) (h3 : (ds.getD a D0).1 = 3) : F133 n p evs (a : Int) = some (((lastRd ds a : Nat) : Int), ()) := by
  have hs := W.small
  have hl := W.len
  obtain ⟨j, h1, h2, h4⟩ := W.src a ha h3
  unfold F133
  rw [w64 (by omega) (by omega), L133_eq W n a (by omega) a n (by omega) (by omega) ⟨j, h1, h2, h4⟩]
end

/-! ### Rows -/
theorem L106_eq (n : Nat) (xs : List Int) (x : Int) (hx : xs.length ≤ 1048576) : ∀ (k m i : Nat), i + k = xs.length → k < m → L106_0 n m xs x (i : Int) = some (if x ∈ xs.drop i then .inl (true, ()) else .inr (.inl ()))
  | 0, m + 1, i, hi, hm => by
    have : i = xs.length := by omega
    subst this
    unfold L106_0
    simp
  | k + 1, m + 1, i, hi, hm => by
    have hlt : i < xs.length := by omega
    unfold L106_0
    simp only [lt_ii, le_0i, hlt, Int.toNat_natCast, if_true, decide_true, cond_true, beq_int]
    rw [w64s (k := k) (by omega), L106_eq n xs x hx k m (i + 1) (by omega) (by omega), getD_drop xs i 0 hlt]
    by_cases h : xs.getD i 0 = x
    · rw [decide_eq_true h, cond_true, if_pos (by rw [h]; exact List.mem_cons_self)]
    · rw [decide_eq_false h, cond_false]
      congr 1
      by_cases h2 : x ∈ xs.drop (i + 1)
      · rw [if_pos h2, if_pos (by simp [h2])]
      · rw [if_neg h2, if_neg (by simp only [List.mem_cons, not_or]; exact ⟨fun e => h e.symm, h2⟩)]
theorem F106_eq (n : Nat) (hn : 1048576 < n) (xs : List Int) (x : Int) (hx : xs.length ≤ 1048576) : F106 n xs x = some (decide (x ∈ xs), ()) := by
  have e : L106_0 n n xs x (0 : Int) = _ := L106_eq n xs x hx xs.length n 0 (by omega) (by omega)
  unfold F106
  rw [e, List.drop_zero]
  by_cases h : x ∈ xs
  · rw [if_pos h, decide_eq_true h]
  · rw [if_neg h, decide_eq_false h]
theorem L149_eq (n : Nat) (xs : List Int) (x : Int) (hx : xs.length ≤ 1048576) : ∀ (k m i : Nat), i + k = xs.length → k < m → (x ∈ xs.drop i → ∃ r : Nat, L149_0 n m xs x (xs.length : Int) (i : Int) = some (.inl ((r : Int), ()))) ∧ (x ∉ xs.drop i → L149_0 n m xs x (xs.length : Int) (i : Int) = some (.inr (.inl ())))
  | 0, m + 1, i, hi, hm => by
    have : i = xs.length := by omega
    subst this
    unfold L149_0
    simp
  | k + 1, m + 1, i, hi, hm => by
    have hlt : i < xs.length := by omega
    have ih := L149_eq n xs x hx k m (i + 1) (by omega) (by omega)
    unfold L149_0
    simp only [lt_ii, le_0i, hlt, Int.toNat_natCast, if_true, decide_true, cond_true, beq_int]
    rw [w64s (k := k) (by omega), getD_drop xs i 0 hlt]
    by_cases h : x = xs.getD i 0
    · rw [decide_eq_true h, cond_true]
      exact ⟨fun _ => ⟨i, rfl⟩, fun h2 => absurd (by simp [h]) h2⟩
    · rw [decide_eq_false h, cond_false]
      refine ⟨fun h2 => ih.1 ?_, fun h2 => ih.2 fun h3 => h2 (by simp [h3])⟩
      rcases List.mem_cons.mp h2 with h2 | h2
      · exact absurd h2 h
      · exact h2
theorem F135_eq (n : Nat) (hn : 1048576 < n) (xs : List Int) (x : Int) (hx : xs.length ≤ 1048576) : F135 n xs x = some (decide (x ∈ xs), ()) := by
  have e := L149_eq n xs x hx xs.length n 0 (by omega) (by omega)
  rw [List.drop_zero] at e
  unfold F135 F149
  by_cases h : x ∈ xs
  · obtain ⟨r, e⟩ := e.1 h
    have e : L149_0 n n xs x (xs.length : Int) (0 : Int) = _ := e
    rw [e, decide_eq_true h]
    simp
  · have e : L149_0 n n xs x (xs.length : Int) (0 : Int) = _ := e.2 h
    rw [e, decide_eq_false h]
    rfl
theorem L137_eq (n : Nat) (xs ys : List Int) (hx : xs.length ≤ 1048576) (hl : ys.length = xs.length) : ∀ (k m i : Nat), i + k = xs.length → k < m →
    L137_0 n m xs ys (xs.length : Int) (i : Int) = some (if xs.drop i = ys.drop i then .inr (.inl ()) else .inl (false, ()))
  | 0, m + 1, i, hi, hm => by
    have : i = xs.length := by omega
    subst this
    unfold L137_0
    simp [← hl]
  | k + 1, m + 1, i, hi, hm => by
    have hlt : i < xs.length := by omega
    have hlt2 : i < ys.length := by omega
    unfold L137_0
    simp only [lt_ii, le_0i, hlt, hlt2, Int.toNat_natCast, if_true, decide_true, cond_true, bne_int]
    rw [w64s (k := k) (by omega), L137_eq n xs ys hx hl k m (i + 1) (by omega) (by omega), getD_drop xs i 0 hlt, getD_drop ys i 0 hlt2]
    by_cases h : xs.getD i 0 = ys.getD i 0
    · rw [decide_eq_true h, Bool.not_true, cond_false]
      simp only [List.cons.injEq, h, true_and]
    · rw [decide_eq_false h, Bool.not_false, cond_true]
      simp only [List.cons.injEq, h, false_and, if_false]
theorem F137_eq (n : Nat) (hn : 1048576 < n) (xs ys : List Int) (hx : xs.length ≤ 1048576) : F137 n xs ys = some (decide (xs = ys), ()) := by
  unfold F137
  by_cases hl : ys.length = xs.length
  · have e : L137_0 n n xs ys (xs.length : Int) (0 : Int) = _ := L137_eq n xs ys hx hl xs.length n 0 (by omega) (by omega)
    rw [show ((xs.length : Int) != (ys.length : Int)) = false by simp [hl], cond_false, e]
    by_cases h : xs = ys <;> simp [h]
  · rw [show ((xs.length : Int) != (ys.length : Int)) = true by simp; omega, cond_true]
    have : xs ≠ ys := fun h => hl (by rw [h])
    simp [this]
end Go.Proofs.Ytdacfaincamliaa.Ev
