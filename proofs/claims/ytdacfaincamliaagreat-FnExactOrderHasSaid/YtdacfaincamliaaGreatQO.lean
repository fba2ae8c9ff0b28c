/- What the printed functions of the written OrderHas come to. Conditions: none. -/
import Derived.Test.YtdacfaincamliaaGreatGO
import Derived.Test.YtdacfaincamliaaGreatQP
namespace Go.Proofs.YtdacfaincamliaaGreat.Ev
open Go

abbrev O6 := List (List D3) × List E3 × List Bool × List Bool × List Int × List Int
theorem getD_map' {α β : Type} (f : α → β) (l : List α) (i : Nat) (a : α) (b : β) (h : i < l.length) : (l.map f).getD i b = f (l.getD i a) := getD_map f l i a b h

theorem idxF_cons (x : Int) (i : Nat) (y : Int) (l : List Int) : idxF x i (y :: l) = if y = x then (i : Int) else idxF x (i + 1) l := rfl
theorem insB_succ (kd : Nat → Int) (fr to : Bool) (m k : Nat) : insB kd fr to (m + 1) k = (!(fr && decide (kd k = 8) || to && decide (kd k = 7)) && insB kd fr to m (k + 1)) := rfl
theorem L40_eq (n : Nat) (xs : List Int) (x : Int) (hx : xs.length ≤ 1048576) : ∀ (k m i : Nat), i + k = xs.length → k < m → L40_0 n m xs x (i : Int) = some (if 0 ≤ idxF x i (xs.drop i) then .inl (idxF x i (xs.drop i), ()) else .inr (.inl ())) ∧ (idxF x i (xs.drop i) = -1 ∨ 0 ≤ idxF x i (xs.drop i))
  | 0, m + 1, i, hi, hm => by
    have : i = xs.length := by omega
    subst this
    unfold L40_0
    simp [idxF]
  | k + 1, m + 1, i, hi, hm => by
    have hlt : i < xs.length := by omega
    obtain ⟨ih, ih2⟩ := L40_eq n xs x hx k m (i + 1) (by omega) (by omega)
    unfold L40_0
    simp only [lt_ii, le_0i, hlt, Int.toNat_natCast, if_true, decide_true, cond_true, beq_int]
    rw [w64s (k := k) (by omega), ih, getD_drop xs i 0 hlt, idxF_cons]
    by_cases h : xs.getD i 0 = x
    · rw [decide_eq_true h, cond_true, if_pos h, if_pos (by omega)]
      exact ⟨rfl, .inr (by omega)⟩
    · rw [decide_eq_false h, cond_false, if_neg h]
      exact ⟨rfl, ih2⟩
theorem F40_eq (n : Nat) (hn : 1048576 < n) (xs : List Int) (x : Int) (hx : xs.length ≤ 1048576) : F40 n xs x = some (idxF x 0 xs, ()) := by
  have e := L40_eq n xs x hx xs.length n 0 (by omega) (by omega)
  rw [List.drop_zero] at e
  have e1 : L40_0 n n xs x (0 : Int) = _ := e.1
  unfold F40
  rw [e1]
  by_cases h : 0 ≤ idxF x 0 xs
  · rw [if_pos h]
  · rw [if_neg h]
    have : idxF x 0 xs = -1 := by
      rcases e.2 with h2 | h2
      · exact h2
      · exact absurd h2 h
    rw [this]
theorem F61_eq (n : Nat) (d : D3) : F61 n d = some (wallB d, ()) := by
  unfold F61 wallB
  simp only [beq_int]
  cases decide (d.1 = 4) <;> rfl

section
variable {p : List (List D3)} {evs : List E3} {ds : List D3} (W : Evs p evs ds)
include W
theorem F38_eq (n a : Nat) (ha : a < evs.length) (y : List Bool × List Bool × List Int × List Int) : F38 n (p, evs, y) (a : Int) = some (ds.getD a D0, ()) := by
  have e := F59_eq' W n a ha
  unfold F38
  simp only [le_0i, lt_ii, ha, Int.toNat_natCast, if_true]
  rw [e, Option.bind_some]
theorem L17_eq (n : Nat) : ∀ (k m i : Nat) (rs ws : List Bool), i + k = evs.length → k < m → rs = (ds.take i).map rd → ws = (ds.take i).map wr →
    L17_0 n m (p, evs, rs, ws, [], [], ()) (i : Int) = some (.inl ((p, evs, ds.map rd, ds.map wr, [], [], ()), ()))
  | 0, m + 1, i, rs, ws, hi, hm, h1, h2 => by
    have hl := W.len
    have : i = evs.length := by omega
    subst this
    unfold L17_0
    rw [h1, h2, List.take_of_length_le (by omega)]
    simp
  | k + 1, m + 1, i, rs, ws, hi, hm, h1, h2 => by
    have hl := W.len
    have hs := W.small
    have hlt : i < evs.length := by omega
    have hrl : rs.length = i := by rw [h1, List.length_map, List.length_take]; omega
    have hwl : ws.length = i := by rw [h2, List.length_map, List.length_take]; omega
    have hd : ds.take (i + 1) = ds.take i ++ [ds.getD i D0] := by
      rw [List.take_succ_eq_append_getElem (by omega), List.getD_eq_getElem?_getD, List.getElem?_eq_getElem (by omega)]; rfl
    unfold L17_0
    simp only [lt_ii, hlt, decide_true, cond_true]
    rw [F38_eq W n i hlt, Option.bind_some]
    simp only [eta3, F37_eq, Option.bind_some]
    rw [if_pos (by simp [hrl]; omega), F38_eq W n i hlt, Option.bind_some]
    simp only [eta3, F39_eq, Option.bind_some]
    rw [if_pos (by simp [hwl]; omega), w64s (k := k) (by omega)]
    exact L17_eq n k m (i + 1) _ _ (by omega) (by omega) (by rw [h1, hd, List.map_append]; rfl) (by rw [h2, hd, List.map_append]; rfl)
end

theorem F17_eq (n : Nat) (hn : 1048576 < n) (p : List (List D3)) (h : progOk p = true) : F17 n p = some (((p, evP 0 p, (dsP p).map rd, (dsP p).map wr, [], []), ()), ()) := by
  have W := evs_ok h
  have hs := W.small
  unfold F17
  rw [F34_eq n hn p, Option.bind_some, h, if_pos rfl]
  have e : L17_0 n n (p, evP 0 p, [], [], [], [], ()) (0 : Int) = _ := L17_eq W n (evP 0 p).length n 0 [] [] (by omega) (by omega) rfl rfl
  simp only [e]

/-! ### Ranks -/
def rkA (ds : List D3) (x : Xn) (i : Nat) : List Int := (List.range ds.length).map fun k => if k < i then rkS ds x k else 0
theorem rkA_len (ds : List D3) (x : Xn) (i : Nat) : (rkA ds x i).length = ds.length := by unfold rkA; rw [List.length_map, List.length_range]
theorem rkA_zero (ds : List D3) (x : Xn) : rkA ds x 0 = List.replicate ds.length 0 := by
  unfold rkA
  apply List.ext_getElem?
  intro k
  by_cases hk : k < ds.length
  · simp [List.getElem?_map, List.getElem?_replicate, hk]
  · simp [List.getElem?_map, List.getElem?_replicate, hk]
theorem rkA_set (ds : List D3) (x : Xn) (i : Nat) : (rkA ds x i).set i (rkS ds x i) = rkA ds x (i + 1) := by
  unfold rkA
  apply List.ext_getElem?
  intro k
  rw [List.getElem?_set]
  by_cases hk : k < ds.length
  · by_cases e : i = k
    · subst e
      simp [hk]
    · have : (k < i) ↔ (k < i + 1) := by omega
      simp [List.getElem?_map, hk, e, this]
  · by_cases e : i = k
    · subst e
      simp [hk]
    · simp [List.getElem?_map, hk, e]
theorem rkA_skip (ds : List D3) (x : Xn) (i : Nat) (h : rkS ds x i = 0) : rkA ds x i = rkA ds x (i + 1) := by
  unfold rkA
  refine List.map_congr_left fun k _ => ?_
  by_cases e : k = i
  · subst e
    simp [h]
  · have : (k < i) ↔ (k < i + 1) := by omega
    simp only [this]
theorem rkA_get (ds : List D3) (x : Xn) (k : Nat) (h : k < ds.length) : (rkA ds x ds.length).getD k 0 = rkS ds x k := by
  unfold rkA
  rw [List.getD_eq_getElem?_getD, List.getElem?_map]
  simp [h]

section
variable {p : List (List D3)} (hp : progOk p = true) {x : Xn} (hx : SmallI x.2) (hb : formB (dsP p) x = true)
include hp hx hb
theorem L18_eq (n : Nat) (hn : 1048576 < n) : ∀ (k m i : Nat), i + k = (dsP p).length → k < m →
    L18_0 n m (p, evP 0 p, (dsP p).map rd, (dsP p).map wr, x.1, rkA (dsP p) x i, ()) (x, ()) (i : Int) = some (.inl ((p, evP 0 p, (dsP p).map rd, (dsP p).map wr, x.1, rkA (dsP p) x (dsP p).length, ()), ()))
  | 0, m + 1, i, hi, hm => by
    have hl := (evs_ok hp).len
    have : i = (evP 0 p).length := by omega
    unfold L18_0
    rw [show (i : Nat) = (dsP p).length by omega]
    simp [hl]
  | k + 1, m + 1, i, hi, hm => by
    have W := evs_ok hp
    have hl := W.len
    have hs := W.small
    have hlt : i < (evP 0 p).length := by omega
    have hlt2 : i < (dsP p).length := by omega
    have hfit := formB_fit W.frm hb
    have hlt3 : i < x.1.length := by have := hfit.1; omega
    have h3 : x.2.length = 3 := by
      unfold formB at hb
      simp only [Bool.and_eq_true, decide_eq_true_eq] at hb
      exact hb.2.1
    obtain ⟨c, c1, c2⟩ := formed_loc (W.frm _ (getD_mem (dsP p) i D0 hlt2))
    have hc : c < x.2.length := by omega
    have hrow : x.2.getD c [] = rowOf x.2 ((dsP p).getD i D0) := by unfold rowOf; rw [c1, Int.toNat_natCast]
    have hrs : (x.2.getD c []).length ≤ 1048576 := hx.2 _ (getD_mem x.2 c [] hc)
    have ih := L18_eq n hn k m (i + 1) (by omega) (by omega)
    have ih : L18_0 n m (p, evP 0 p, (dsP p).map rd, (dsP p).map wr, x.1, rkA (dsP p) x (i + 1), ()) ((x.1, x.2), ()) ((i + 1 : Nat) : Int) = _ := ih
    have hrl := rkA_len (dsP p) x i
    unfold L18_0
    simp only [lt_ii, le_0i, hlt, hlt2, hlt3, hrl, Int.toNat_natCast, if_true, decide_true, cond_true, List.length_map, J18_5]
    rw [getD_map rd (dsP p) i D0 false hlt2, getD_map wr (dsP p) i D0 false hlt2]
    simp only [F38_eq W n i hlt, Option.bind_some, c1, lt_ii, le_0i, hc, Int.toNat_natCast, if_true, F40_eq n hn _ _ hrs]
    rw [w64s (k := k) (by omega)]
    cases hw : wr ((dsP p).getD i D0)
    · cases hr : rd ((dsP p).getD i D0)
      · have e : rkS (dsP p) x i = 0 := by unfold rkS; rw [hw, hr]; rfl
        rw [rkA_skip _ _ _ e]
        exact ih
      · have e : idxF (x.1.getD i 0) 0 (x.2.getD c []) = rkS (dsP p) x i := by unfold rkS; rw [hw, hr, hrow]; rfl
        rw [e, rkA_set]
        exact ih
    · have e : idxF (i : Int) 0 (x.2.getD c []) = rkS (dsP p) x i := by unfold rkS; rw [hw, hrow]; rfl
      rw [e, rkA_set]
      exact ih
theorem F18_eq (n : Nat) (hn : 1048576 < n) (fr rk : List Int) : F18 n ((p, evP 0 p, (dsP p).map rd, (dsP p).map wr, fr, rk), ()) x = some (((p, evP 0 p, (dsP p).map rd, (dsP p).map wr, x.1, rkA (dsP p) x (dsP p).length), ()), ()) := by
  have W := evs_ok hp
  have hl := W.len
  have hs := W.small
  unfold F18
  simp only [Int.toNat_natCast, if_true]
  rw [if_pos (by omega)]
  have e : L18_0 n n (p, evP 0 p, (dsP p).map rd, (dsP p).map wr, x.1, rkA (dsP p) x 0, ()) ((x.1, x.2), ()) (0 : Int) = _ := L18_eq hp hx hb n hn (dsP p).length n 0 (by omega) (by omega)
  rw [rkA_zero, hl] at e
  simp only [e]
  rw [hl]
end

/-! ### What is asked of two events -/
def oS (p : List (List D3)) (x : Xn) : O6 := (p, evP 0 p, (dsP p).map rd, (dsP p).map wr, x.1, rkA (dsP p) x (dsP p).length)
section
variable {p : List (List D3)} (hp : progOk p = true) {x : Xn} (n a b : Nat) (hn : 1048576 < n) (ha : a < (dsP p).length) (hb : b < (dsP p).length)
include hp ha hb
theorem F41_eq : F41 n (oS p x) (a : Int) (b : Int) = some (ownB (evP 0 p) a b, ()) := by
  have hl := (evs_ok hp).len
  have h1 : a < (evP 0 p).length := by omega
  have h2 : b < (evP 0 p).length := by omega
  unfold F41 oS ownB
  simp only [lt_ii, le_0i, h1, h2, Int.toNat_natCast, if_true, beq_int]
  cases decide (a < b) <;> rfl
omit hb in
theorem F38_a : F38 n (oS p x) (a : Int) = some ((dsP p).getD a D0, ()) := by
  have W := evs_ok hp
  have hl := W.len
  exact F38_eq W n a (by omega) _
omit hp ha in
theorem L62_eq (hp : progOk p = true) (fr to : Bool) : ∀ (k m i : Nat), i + k = b → k < m → L62_0 n m (oS p x) (b : Int) fr to (i : Int) = some (if insB (fun k => ((dsP p).getD k D0).1) fr to k i then .inr (.inl ()) else .inl (false, ()))
  | 0, m + 1, i, hi, hm => by
    have : i = b := by omega
    subst this
    unfold L62_0
    simp [insB]
  | k + 1, m + 1, i, hi, hm => by
    have W := evs_ok hp
    have hl := W.len
    have hs := W.small
    have hlt : i < b := by omega
    have ih := L62_eq hp fr to k m (i + 1) (by omega) (by omega)
    have e : F38 n (oS p x) (i : Int) = some ((dsP p).getD i D0, ()) := F38_eq W n i (by omega) _
    unfold L62_0
    simp only [lt_ii, hlt, decide_true, cond_true, e, Option.bind_some, J62_7, beq_int]
    rw [w64s (k := k) (by omega), ih, insB_succ]
    cases fr <;> cases to <;> cases decide (((dsP p).getD i D0).1 = 8) <;> cases decide (((dsP p).getD i D0).1 = 7) <;> rfl
theorem F62_eq (hn : 1048576 < n) : F62 n (oS p x) (a : Int) (b : Int) = some (ownB (evP 0 p) a b && insS (dsP p) a b, ()) := by
  have W := evs_ok hp
  have hl := W.len
  have hs := W.small
  unfold F62
  rw [F38_a hp n a ha, Option.bind_some, F38_a hp n b hb, Option.bind_some, F41_eq hp n a b ha hb, Option.bind_some]
  cases ho : ownB (evP 0 p) a b
  · rfl
  · have hab : a < b := by
      unfold ownB at ho
      simp only [Bool.and_eq_true, decide_eq_true_eq] at ho
      exact ho.1
    have e : ∀ fr to, J62_5 n (oS p x) (a : Int) (b : Int) fr to = some (.inl (insB (fun k => ((dsP p).getD k D0).1) fr to (b - a - 1) (a + 1), ())) := fun fr to => by
      have e := L62_eq (x := x) n b hb hp fr to (b - a - 1) n (a + 1) (by omega) (by omega)
      unfold J62_5
      rw [w64s (k := 0) (by omega), e]
      cases insB (fun k => ((dsP p).getD k D0).1) fr to (b - a - 1) (a + 1) <;> rfl
    simp only [e, beq_int]
    unfold insS
    cases decide (((dsP p).getD a D0).1 = 7) <;> cases decide (((dsP p).getD b D0).1 = 8) <;> rfl
theorem F42_eq (hn : 1048576 < n) : F42 n (oS p x) (a : Int) (b : Int) = some (ownB (evP 0 p) a b && looseS (dsP p) a b, ()) := by
  have W := evs_ok hp
  have hl := W.len
  have hs := W.small
  unfold F42
  rw [F41_eq hp n a b ha hb, Option.bind_some]
  cases ho : ownB (evP 0 p) a b
  · rfl
  · rw [F38_a hp n a ha, F38_a hp n b hb, F62_eq hp n a b ha hb hn, ho]
    simp only [Bool.not_true, cond_false, Option.bind_some, eta3, F61_eq, beq_int, Bool.true_and]
    unfold looseS J42_7
    cases wallB ((dsP p).getD a D0)
    · cases wallB ((dsP p).getD b D0)
      · cases decide (((dsP p).getD a D0).1 = 5)
        · cases decide (((dsP p).getD b D0).1 = 6)
          · cases insS (dsP p) a b
            · simp only [cond_false, Bool.false_or, beq_int]
              by_cases h3 : ((dsP p).getD b D0).1 = 3
              · have e : F63 n (oS p x).1 (oS p x).2.1 (b : Int) = _ := F63_eq W n (by omega) b hb h3
                rw [decide_eq_true h3, cond_true, e, Option.bind_some]
                simp only [beq_int, Int.natCast_inj, Bool.true_and]
              · rw [decide_eq_false h3]; rfl
            · rfl
          · rfl
        · rfl
      · rfl
    · rfl
omit hp in
theorem F44_eq (hf : b < x.1.length) : F44 n (oS p x) (a : Int) (b : Int) = some (readS (dsP p) x a b, ()) := by
  unfold F44 oS readS readI
  simp only [lt_ii, le_0i, ha, hb, hf, Int.toNat_natCast, if_true, List.length_map, beq_int]
  rw [getD_map wr (dsP p) a D0 false ha, getD_map rd (dsP p) b D0 false hb]
  cases wr ((dsP p).getD a D0) <;> cases rd ((dsP p).getD b D0) <;> rfl
theorem F43_eq : F43 n (oS p x) (a : Int) (b : Int) = some (sameS (dsP p) a b, ()) := by
  unfold F43
  rw [F38_a hp n a ha, F38_a hp n b hb]
  unfold sameS us
  simp only [oS, lt_ii, le_0i, ha, hb, Int.toNat_natCast, if_true, List.length_map, Option.bind_some, beq_int]
  rw [getD_map wr (dsP p) a D0 false ha, getD_map rd (dsP p) b D0 false hb, getD_map rd (dsP p) a D0 false ha, getD_map wr (dsP p) b D0 false hb]
  cases rd ((dsP p).getD a D0) <;> cases wr ((dsP p).getD a D0) <;> cases rd ((dsP p).getD b D0) <;> cases wr ((dsP p).getD b D0) <;> rfl
theorem F45_eq : F45 n (oS p x) (a : Int) (b : Int) = some (overS (dsP p) x a b, ()) := by
  unfold F45
  rw [F43_eq hp n a b ha hb]
  unfold overS
  simp only [oS, lt_ii, le_0i, ha, hb, Int.toNat_natCast, if_true, List.length_map, Option.bind_some, bne_int, Int.natCast_inj, rkA_len]
  simp only [getD_map wr (dsP p) b D0 false hb, rkA_get _ _ a ha, rkA_get _ _ b hb]
  cases wr ((dsP p).getD b D0) <;> cases decide (a = b) <;> cases sameS (dsP p) a b <;> rfl
theorem F19_eq (hn : 1048576 < n) (kind : Int) (hk : 1 ≤ kind ∧ kind ≤ 3) : F19 n (oS p x) kind (a : Int) (b : Int) = some (if kind = 1 then ownB (evP 0 p) a b else if kind = 2 then ownB (evP 0 p) a b && !(wr ((dsP p).getD a D0) && rd ((dsP p).getD b D0)) else ownB (evP 0 p) a b && looseS (dsP p) a b, ()) := by
  unfold F19
  rw [F41_eq hp n a b ha hb, F42_eq hp n a b ha hb hn]
  simp only [oS, lt_ii, le_0i, ha, hb, Int.toNat_natCast, if_true, List.length_map, Option.bind_some, beq_int]
  rw [getD_map wr (dsP p) a D0 false ha, getD_map rd (dsP p) b D0 false hb]
  by_cases h1 : kind = 1
  · rw [decide_eq_true h1, cond_true, if_pos h1]
  · rw [decide_eq_false h1, cond_false, if_neg h1]
    by_cases h2 : kind = 2
    · rw [decide_eq_true h2, cond_true, if_pos h2]
      cases ownB (evP 0 p) a b <;> cases wr ((dsP p).getD a D0) <;> rfl
    · have h3 : kind = 3 := by omega
      rw [decide_eq_false h2, cond_false, if_neg h2, decide_eq_true h3, cond_true]
theorem F20_eq (hf : b < x.1.length) (kind : Int) (hk : 1 ≤ kind ∧ kind ≤ 3) : F20 n (oS p x) kind (a : Int) (b : Int) = some (if kind = 1 then readS (dsP p) x a b || overS (dsP p) x a b else if kind = 2 then (apB (evP 0 p) a b && readS (dsP p) x a b) || overS (dsP p) x a b else apB (evP 0 p) a b && (readS (dsP p) x a b || overS (dsP p) x a b), ()) := by
  have hl := (evs_ok hp).len
  have h1 : a < (evP 0 p).length := by omega
  have h2 : b < (evP 0 p).length := by omega
  unfold F20
  rw [F44_eq n a b ha hb hf, F45_eq hp n a b ha hb]
  unfold apB
  simp only [oS, lt_ii, le_0i, h1, h2, Int.toNat_natCast, if_true, Option.bind_some, beq_int, bne_int]
  by_cases h1 : kind = 1
  · rw [if_pos h1, decide_eq_false (by omega), cond_false, decide_eq_false (by omega), cond_false]
    cases readS (dsP p) x a b <;> rfl
  · rw [if_neg h1]
    by_cases h2 : kind = 2
    · rw [decide_eq_true h2, cond_true, if_pos h2]
      cases decide (((evP 0 p).getD a E0).1 = ((evP 0 p).getD b E0).1) <;> cases readS (dsP p) x a b <;> rfl
    · have h3 : kind = 3 := by omega
      rw [decide_eq_false h2, cond_false, if_neg h2, decide_eq_true h3, cond_true]
      cases decide (((evP 0 p).getD a E0).1 = ((evP 0 p).getD b E0).1) <;> cases readS (dsP p) x a b <;> rfl
end

/-- What OrderHas answers. -/
def inB (v : Int) (ds : List D3) : Bool := decide (v ≥ 0) && decide (v ≤ (ds.length : Int) - 1)
def orderHas (p : List (List D3)) (x : Xn) (kind a b : Int) : Bool :=
  execOk p x && ((decide (kind ≥ 1) && decide (kind ≤ 3)) && (inB a (dsP p) && (inB b (dsP p) && hasS (evP 0 p) (dsP p) x kind a.toNat b.toNat)))
theorem inB_nat {v : Int} {ds : List D3} (h : inB v ds = true) : ∃ k : Nat, v = k ∧ k < ds.length := by
  unfold inB at h
  simp only [Bool.and_eq_true, decide_eq_true_eq] at h
  exact ⟨v.toNat, by omega, by omega⟩
theorem execOk_parts {p : List (List D3)} {x : Xn} (h : execOk p x = true) : progOk p = true ∧ formB (dsP p) x = true := by
  unfold execOk at h
  simp only [Bool.and_eq_true] at h
  exact ⟨h.1, h.2.1⟩
theorem F6_eq (n : Nat) (hn : 1048576 < n) (p : List (List D3)) (x : Xn) (hx : SmallI x.2) (kind a b : Int) : F6 n p x kind a b = some (orderHas p x kind a b, ()) := by
  unfold F6 orderHas
  rw [show F15 n p (x.1, x.2) = _ from F15_eq n hn p x hx, Option.bind_some]
  cases hok : execOk p x
  · rfl
  · obtain ⟨hp, hb⟩ := execOk_parts hok
    have W := evs_ok hp
    have hl := W.len
    have hs := W.small
    have hfit := formB_fit W.frm hb
    rw [F16_eq, Option.bind_some]
    simp only [Bool.not_true, cond_false, Bool.true_and]
    cases hk : decide (kind ≥ 1) && decide (kind ≤ 3)
    · rfl
    · simp only [Bool.and_eq_true, decide_eq_true_eq] at hk
      simp only [Bool.not_true, cond_false, Bool.true_and]
      unfold J6_3
      rw [F17_eq n hn p hp, Option.bind_some]
      have e : IntKind.i64.wrap (((evP 0 p).length : Int) - 1) = ((dsP p).length : Int) - 1 := by rw [w64 (by omega) (by omega), hl]
      simp only [e, F16_eq, Option.bind_some]
      rw [show (decide (a ≥ 0) && decide (a ≤ ((dsP p).length : Int) - 1)) = inB a (dsP p) from rfl, show (decide (b ≥ 0) && decide (b ≤ ((dsP p).length : Int) - 1)) = inB b (dsP p) from rfl]
      cases ha : inB a (dsP p)
      · rfl
      · cases hb2 : inB b (dsP p)
        · rfl
        · obtain ⟨i, rfl, hi⟩ := inB_nat ha
          obtain ⟨j, rfl, hj⟩ := inB_nat hb2
          simp only [Bool.not_true, cond_false, Bool.true_and, Int.toNat_natCast]
          unfold J6_6
          rw [show F18 n ((p, evP 0 p, (dsP p).map rd, (dsP p).map wr, [], []), ()) (x.1, x.2) = _ from F18_eq hp hx hb n hn [] [], Option.bind_some]
          have hfl := hfit.1
          have e1 := F19_eq hp (x := x) n i j hi hj hn kind ⟨by omega, by omega⟩
          have e2 := F20_eq hp (x := x) n i j hi hj (by omega) kind ⟨by omega, by omega⟩
          unfold oS at e1 e2
          simp only [e1, e2, Option.bind_some]
          unfold hasS
          by_cases h1 : kind = 1
          · simp only [if_pos h1]
            cases ownB (evP 0 p) i j <;> rfl
          · by_cases h2 : kind = 2
            · simp only [if_neg h1, if_pos h2]
              cases (ownB (evP 0 p) i j && !(wr ((dsP p).getD i D0) && rd ((dsP p).getD j D0))) <;> rfl
            · simp only [if_neg h1, if_neg h2]
              cases (ownB (evP 0 p) i j && looseS (dsP p) i j) <;> rfl
end Go.Proofs.YtdacfaincamliaaGreat.Ev
