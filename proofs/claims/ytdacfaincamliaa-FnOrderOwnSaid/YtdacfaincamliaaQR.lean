/- What the printed functions of the code's OrderHas come to. Conditions: none. -/
import Derived.Test.YtdacfaincamliaaGH
import Derived.Test.YtdacfaincamliaaQP
namespace Go.Proofs.Ytdacfaincamliaa.Ev
open Go

theorem getD_map' {α β : Type} (f : α → β) (l : List α) (i : Nat) (a : α) (b : β) (h : i < l.length) : (l.map f).getD i b = f (l.getD i a) := getD_map f l i a b h

theorem idxF_cons (x : Int) (i : Nat) (y : Int) (l : List Int) : idxF x i (y :: l) = if y = x then (i : Int) else idxF x (i + 1) l := rfl
theorem insB_succ (kd : Nat → Int) (fr to : Bool) (m k : Nat) : insB kd fr to (m + 1) k = (!(fr && decide (kd k = 8) || to && decide (kd k = 7)) && insB kd fr to m (k + 1)) := rfl
/-- What OrderHas answers. -/
def inB (v : Int) (ds : List D3) : Bool := decide (v ≥ 0) && decide (v ≤ (ds.length : Int) - 1)
def orderHas (p : List (List D3)) (x : Xn) (kind a b : Int) : Bool :=
  execOk p x && ((decide (kind ≥ 1) && decide (kind ≤ 3)) && (inB a (dsP p) && (inB b (dsP p) && hasS (evP 0 p) (dsP p) x kind a.toNat b.toNat)))
theorem inB_nat {v : Int} {ds : List D3} (h : inB v ds = true) : ∃ k : Nat, v = k ∧ k < ds.length := by
  unfold inB at h
  simp only [Bool.and_eq_true, decide_eq_true_eq] at h
  exact ⟨v.toNat, by omega, by omega⟩
theorem execOk_two {p : List (List D3)} {x : Xn} (h : execOk p x = true) : progOk p = true ∧ formB (dsP p) x = true := by
  unfold execOk at h
  simp only [Bool.and_eq_true] at h
  exact ⟨h.1, h.2.1⟩
theorem L69i_eq (n : Nat) (xs : List Int) (x : Int) (hx : xs.length ≤ 1048576) : ∀ (k m i : Nat), i + k = xs.length → k < m → L149_0 n m xs x (xs.length : Int) (i : Int) = some (if 0 ≤ idxF x i (xs.drop i) then .inl (idxF x i (xs.drop i), ()) else .inr (.inl ())) ∧ (idxF x i (xs.drop i) = -1 ∨ 0 ≤ idxF x i (xs.drop i))
  | 0, m + 1, i, hi, hm => by
    have : i = xs.length := by omega
    subst this
    unfold L149_0
    simp [idxF]
  | k + 1, m + 1, i, hi, hm => by
    have hlt : i < xs.length := by omega
    obtain ⟨ih, ih2⟩ := L69i_eq n xs x hx k m (i + 1) (by omega) (by omega)
    unfold L149_0
    simp only [lt_ii, le_0i, hlt, Int.toNat_natCast, if_true, decide_true, cond_true, beq_int]
    rw [w64s (k := k) (by omega), ih, getD_drop xs i 0 hlt, idxF_cons]
    by_cases h : xs.getD i 0 = x
    · have h' : x = xs.getD i 0 := h.symm
      rw [if_pos h, decide_eq_true h', cond_true, if_pos (show (0 : Int) ≤ (i : Int) by omega)]
      exact ⟨rfl, .inr (by omega)⟩
    · have h' : ¬ x = xs.getD i 0 := fun e => h e.symm
      rw [if_neg h, decide_eq_false h', cond_false]
      exact ⟨rfl, ih2⟩
theorem F149_eq (n : Nat) (hn : 1048576 < n) (xs : List Int) (x : Int) (hx : xs.length ≤ 1048576) : F149 n xs x = some (idxF x 0 xs, ()) := by
  have e := L69i_eq n xs x hx xs.length n 0 (by omega) (by omega)
  rw [List.drop_zero] at e
  have e1 : L149_0 n n xs x (xs.length : Int) (0 : Int) = _ := e.1
  unfold F149
  rw [e1]
  by_cases h : 0 ≤ idxF x 0 xs
  · rw [if_pos h]
  · rw [if_neg h]
    have : idxF x 0 xs = -1 := by
      rcases e.2 with h2 | h2
      · exact h2
      · exact absurd h2 h
    rw [this]

abbrev S3 := List (List D3) × List E3 × List D3
def sc (p : List (List D3)) : S3 := (p, evP 0 p, dsP p)
abbrev kdP (p : List (List D3)) : Nat → Int := fun k => ((dsP p).getD k D0).1
abbrev thP (p : List (List D3)) : Nat → Int := fun k => ((evP 0 p).getD k E0).1
theorem backL_succ (kd th : Nat → Int) (a f : Nat) : backL kd th a (f + 1) = if kd (f + 1) = 7 then some (f + 1) else if f + 1 ≠ a ∧ kd (f + 1) = 8 then none else if th f ≠ th a then none else backL kd th a f := rfl
theorem backL_zero (kd th : Nat → Int) (a : Nat) : backL kd th a 0 = if kd 0 = 7 then some 0 else none := rfl
theorem backL_is (kd th : Nat → Int) (a : Nat) : ∀ f g, backL kd th a f = some g → kd g = 7 ∧ g ≤ f
  | 0, g, h => by
    rw [backL_zero] at h
    by_cases h7 : kd 0 = 7
    · rw [if_pos h7] at h
      injection h with h
      exact ⟨by rw [← h]; exact h7, by omega⟩
    · rw [if_neg h7] at h; cases h
  | f + 1, g, h => by
    rw [backL_succ] at h
    by_cases h7 : kd (f + 1) = 7
    · rw [if_pos h7] at h
      injection h with h
      exact ⟨by rw [← h]; exact h7, by omega⟩
    · rw [if_neg h7] at h
      split at h
      · cases h
      · split at h
        · cases h
        · have := backL_is kd th a f g h
          exact ⟨this.1, by omega⟩

section
variable {p : List (List D3)} (hp : progOk p = true)
include hp
theorem F122_eq (n a b : Nat) (ha : a < (dsP p).length) (hb : b < (dsP p).length) : F122 n (sc p) (a : Int) (b : Int) = some (ownB (evP 0 p) a b, ()) := by
  have hl := (evs_ok hp).len
  have h1 : a < (evP 0 p).length := by omega
  have h2 : b < (evP 0 p).length := by omega
  unfold F122 sc ownB
  simp only [lt_ii, le_0i, h1, h2, Int.toNat_natCast, if_true, beq_int]
  cases decide (a < b) <;> rfl
theorem L150_eq (n a : Nat) (ha : a < (dsP p).length) : ∀ (f m : Nat), f < m → f ≤ a →
    L150_0 n m (a : Int) (sc p, ()) (f : Int) (thP p a) = some (match backL (kdP p) (thP p) a f with | none => .inl ((0 : Int), (0 : Int), false, ()) | some g => .inr (.inl ((a : Int), (sc p, ()), (g : Int), ())))
  | 0, m + 1, hm, hf => by
    have hl := (evs_ok hp).len
    have hlt : 0 < (dsP p).length := by omega
    unfold L150_0
    rw [backL_zero]
    simp only [sc, lt_ii, le_0i, hlt, Int.toNat_natCast, if_true, bne_int, beq_int, Int.natCast_inj, J150_6]
    have e : decide (IntKind.i64.wrap (((0 : Nat) : Int) - 1) < 0) = true := by rw [w64 (by omega) (by omega)]; rfl
    rw [e]
    by_cases h7 : ((dsP p).getD 0 D0).1 = 7
    · rw [decide_eq_true h7, if_pos h7]; rfl
    · rw [decide_eq_false h7, if_neg h7]
      by_cases h0 : 0 = a
      · rw [decide_eq_true h0]; rfl
      · rw [decide_eq_false h0]
        cases decide (((dsP p).getD 0 D0).1 = 8) <;> rfl
  | f + 1, m + 1, hm, hf => by
    have hl := (evs_ok hp).len
    have hs := (evs_ok hp).small
    have hlt : f + 1 < (dsP p).length := by omega
    have hlt2 : f < (evP 0 p).length := by omega
    have ih := L150_eq n a ha f m (by omega) (by omega)
    unfold sc at ih
    unfold L150_0
    rw [backL_succ]
    have e : IntKind.i64.wrap (((f + 1 : Nat) : Int) - 1) = (f : Int) := by rw [w64 (by omega) (by omega)]; omega
    simp only [sc, lt_ii, le_0i, hlt, hlt2, Int.toNat_natCast, if_true, bne_int, beq_int, Int.natCast_inj, J150_6, e]
    rw [show decide ((f : Int) < 0) = false from decide_eq_false (by omega)]
    by_cases h7 : ((dsP p).getD (f + 1) D0).1 = 7
    · rw [decide_eq_true h7, if_pos h7]; rfl
    · rw [decide_eq_false h7, if_neg h7]
      by_cases h0 : f + 1 = a
      · rw [decide_eq_true h0, if_neg (fun h => h.1 h0)]
        by_cases ht : ((evP 0 p).getD f E0).1 = ((evP 0 p).getD a E0).1
        · rw [decide_eq_true ht, if_neg (fun h => h ht)]
          exact ih
        · rw [decide_eq_false ht, if_pos ht]; rfl
      · rw [decide_eq_false h0]
        by_cases h8 : ((dsP p).getD (f + 1) D0).1 = 8
        · rw [decide_eq_true h8, if_pos ⟨h0, h8⟩]; rfl
        · rw [decide_eq_false h8, if_neg (fun h => h8 h.2)]
          by_cases ht : ((evP 0 p).getD f E0).1 = ((evP 0 p).getD a E0).1
          · rw [decide_eq_true ht, if_neg (fun h => h ht)]
            exact ih
          · rw [decide_eq_false ht, if_pos ht]; rfl
theorem L150_2_eq (n : Nat) (a f : Int) (g : Nat) (hg : g < (dsP p).length) (h8 : kdP p g = 8) : ∀ (k m i : Nat), i + k = g → k < m → (∀ j, i ≤ j → j < g → kdP p j ≠ 8) → L150_2 n m a (sc p, ()) f (i : Int) = some (.inl (a, f, (g : Int), ()))
  | 0, m + 1, i, hi, hm, _ => by
    have : i = g := by omega
    subst this
    unfold L150_2
    simp only [sc, lt_ii, le_0i, hg, Int.toNat_natCast, if_true, bne_int]
    have h8 : ((dsP p).getD i D0).1 = 8 := h8
    rw [decide_eq_true h8]; rfl
  | k + 1, m + 1, i, hi, hm, hno => by
    have hl := (evs_ok hp).len
    have hs := (evs_ok hp).small
    have hlt : i < (dsP p).length := by omega
    have ih := L150_2_eq n a f g hg h8 k m (i + 1) (by omega) (by omega) fun j h1 h2 => hno j (by omega) h2
    unfold sc at ih
    unfold L150_2
    simp only [sc, lt_ii, le_0i, hlt, Int.toNat_natCast, if_true, bne_int]
    have h8 : ¬ ((dsP p).getD i D0).1 = 8 := hno i (by omega) (by omega)
    rw [decide_eq_false h8, w64s (k := k) (by omega)]
    exact ih
theorem F150_eq' (n a : Nat) (hn : 1048576 < n) (ha : a < (dsP p).length) : F150 n (sc p) (a : Int) = some (match insI (evP 0 p) (dsP p) a with | none => ((0 : Int), (0 : Int), false, ()) | some g => ((g.1 : Int), (g.2 : Int), decide (a ≤ g.2), ())) := by
  have hl := (evs_ok hp).len
  have hs := (evs_ok hp).small
  have h1 : a < (evP 0 p).length := by omega
  have H := ins_ok (progOkIff.mp hp).2.1
  have e := L150_eq hp n a ha a n (by omega) (by omega)
  unfold sc at e
  unfold F150 insI
  simp only [sc, lt_ii, le_0i, h1, Int.toNat_natCast, if_true]
  rw [show L150_0 n n (a : Int) (((p, evP 0 p, dsP p) : S3), ()) (a : Int) ((evP 0 p).getD a E0).1 = _ from e]
  cases hbk : backL (kdP p) (thP p) a a with
  | none => rfl
  | some f =>
    obtain ⟨f1, f2⟩ := backL_is _ _ _ _ _ hbk
    have hB : ((dsP p).take (f + 1)).foldl nxtB false = true := by
      have := H.nx f (by omega)
      have f1 : ((dsP p).getD f D0).1 = 7 := f1
      rw [decide_eq_true f1] at this
      exact this
    obtain ⟨g, g1, g2, g3, g4⟩ := H.fst ((dsP p).length - (f + 1)) (f + 1) (by omega) hB
    have hno : ∀ j, f ≤ j → j < g → kdP p j ≠ 8 := fun j i1 i2 => by
      by_cases ej : j = f
      · rw [ej, f1]; decide
      · exact g4 j (by omega) i2
    have hfw : fwdL (kdP p) ((dsP p).length - f) f = g := fwdL_is _ _ _ _ (by omega) (by omega) g3 hno
    have e2 := L150_2_eq hp n (a : Int) (f : Int) g g2 g3 (g - f) n f (by omega) (by omega) hno
    unfold sc at e2
    subst hfw
    simp only [e2, Option.map_some]
    rw [show decide ((a : Int) ≤ ((fwdL (kdP p) ((dsP p).length - f) f : Nat) : Int)) = decide (a ≤ fwdL (kdP p) ((dsP p).length - f) f) from decide_eq_decide.mpr (by omega)]
theorem F125_eq (n a b : Nat) (hn : 1048576 < n) (ha : a < (dsP p).length) (hb : b < (dsP p).length) : F125 n (sc p) (a : Int) (b : Int) = some (looseI (evP 0 p) (dsP p) a b, ()) := by
  have W := evs_ok hp
  have hl := W.len
  have hs := W.small
  have e71 := F150_eq' hp n a hn ha
  have e10 : ∀ d : D3, J125_10 n (a : Int) (b : Int) (sc p, ()) (d, ()) = some (.inl ((match insI (evP 0 p) (dsP p) a with | none => false | some g => decide (a ≤ g.2) && (decide (g.1 ≤ a) && (decide (b ≤ g.2) && (decide (d.1 = 7) || decide (b = g.2))))), ())) := fun d => by
    unfold J125_10
    rw [show F150 n ((sc p).1, (sc p).2.1, (sc p).2.2) (a : Int) = _ from e71]
    cases insI (evP 0 p) (dsP p) a with
    | none => rfl
    | some g =>
      simp only [Option.bind_some, beq_int, Int.natCast_inj]
      rw [show decide ((g.1 : Int) ≤ (a : Int)) = decide (g.1 ≤ a) from decide_eq_decide.mpr (by omega), show decide ((b : Int) ≤ (g.2 : Int)) = decide (b ≤ g.2) from decide_eq_decide.mpr (by omega)]
      cases decide (a ≤ g.2) <;> cases decide (g.1 ≤ a) <;> cases decide (b ≤ g.2) <;> cases decide (d.1 = 7) <;> rfl
  have e8 : ∀ d d' : D3, J125_8 n (a : Int) (b : Int) (sc p, ()) (d, ()) (d', ()) = some (.inl ((if !decide (d.1 = 7) && !decide (d'.1 = 8) then false else match insI (evP 0 p) (dsP p) a with | none => false | some g => decide (a ≤ g.2) && (decide (g.1 ≤ a) && (decide (b ≤ g.2) && (decide (d.1 = 7) || decide (b = g.2))))), ())) := fun d d' => by
    have e := e10 d
    unfold J125_8
    simp only [bne_int]
    rw [show J125_10 n (a : Int) (b : Int) (((sc p).1, (sc p).2.1, (sc p).2.2), ()) ((d.1, d.2.1, d.2.2), ()) = _ from e]
    cases decide (d.1 = 7) <;> cases decide (d'.1 = 8) <;> rfl
  unfold sc at e8
  have e8' := e8 ((dsP p).getD a D0) ((dsP p).getD b D0)
  have e8' : J125_8 n (a : Int) (b : Int) ((p, evP 0 p, dsP p), ()) ((((dsP p).getD a D0).1, ((dsP p).getD a D0).2.1, ((dsP p).getD a D0).2.2), ()) ((((dsP p).getD b D0).1, ((dsP p).getD b D0).2.1, ((dsP p).getD b D0).2.2), ()) = _ := e8'
  unfold F125 looseI wallB
  simp only [sc, lt_ii, le_0i, ha, hb, Int.toNat_natCast, if_true, beq_int, e8']
  cases decide (((dsP p).getD a D0).1 = 4)
  · cases decide (((dsP p).getD a D0).1 = 9)
    · cases decide (((dsP p).getD b D0).1 = 4)
      · cases decide (((dsP p).getD b D0).1 = 9)
        · cases decide (((dsP p).getD a D0).1 = 5)
          · cases decide (((dsP p).getD b D0).1 = 6)
            · by_cases h3 : ((dsP p).getD b D0).1 = 3
              · rw [decide_eq_true h3, cond_true, F141_eq W n hn p (evP 0 p) b hb h3, Option.bind_some]
                simp only [Int.natCast_inj]
                cases decide (lastRd (dsP p) b = a) <;> rfl
              · rw [decide_eq_false h3]; rfl
            · rfl
          · rfl
        · rfl
      · rfl
    · rfl
  · rfl
theorem F123_eq (n a b : Nat) (hn : 1048576 < n) {x : Xn} (hx : SmallI x.2) (hb0 : formB (dsP p) x = true) (ha : a < (dsP p).length) (hb : b < (dsP p).length) : F123 n (sc p) x (a : Int) (b : Int) = some (overI (dsP p) x a b, ()) := by
  have W := evs_ok hp
  have hl := W.len
  have hs := W.small
  have hfit := formB_fit W.frm hb0
  have hfa : a < x.1.length := by have := hfit.1; omega
  have h3 : x.2.length = 3 := by
    unfold formB at hb0
    simp only [Bool.and_eq_true, decide_eq_true_eq] at hb0
    exact hb0.2.1
  obtain ⟨c, c1, c2⟩ := formed_loc (W.frm _ (getD_mem (dsP p) b D0 hb))
  have hc : c < x.2.length := by omega
  have hrow : x.2.getD c [] = rowOf x.2 ((dsP p).getD b D0) := by unfold rowOf; rw [c1, Int.toNat_natCast]
  have hrs : (x.2.getD c []).length ≤ 1048576 := hx.2 _ (getD_mem x.2 c [] hc)
  have e4 : J123_4 n (a : Int) (b : Int) (x, ()) ((dsP p).getD a D0, ()) ((dsP p).getD b D0, ()) = some (.inl (decide (idxF (if rd ((dsP p).getD a D0) then x.1.getD a 0 else (a : Int)) 0 (rowOf x.2 ((dsP p).getD b D0)) < idxF (b : Int) 0 (rowOf x.2 ((dsP p).getD b D0))), ())) := by
    unfold J123_4 J123_8
    simp only [c1, lt_ii, le_0i, hc, hfa, Int.toNat_natCast, if_true, eta3, F121_eq, Option.bind_some, F149_eq n hn _ _ hrs, ← hrow]
    cases rd ((dsP p).getD a D0) <;> rfl
  have e4 : J123_4 n (a : Int) (b : Int) ((x.1, x.2), ()) ((((dsP p).getD a D0).1, ((dsP p).getD a D0).2.1, ((dsP p).getD a D0).2.2), ()) ((((dsP p).getD b D0).1, ((dsP p).getD b D0).2.1, ((dsP p).getD b D0).2.2), ()) = _ := e4
  unfold F123 overI
  simp only [sc, lt_ii, le_0i, ha, hb, Int.toNat_natCast, if_true, e4]
  simp only [eta3, F110_eq, F124_eq, Option.bind_some, beq_int, bne_int, Int.natCast_inj]
  cases decide (a = b)
  · cases us ((dsP p).getD a D0)
    · rfl
    · cases wr ((dsP p).getD b D0)
      · rfl
      · cases decide (((dsP p).getD a D0).2.1 = ((dsP p).getD b D0).2.1) <;> rfl
  · rfl
theorem F87_eq (n a b : Nat) (hn : 1048576 < n) {x : Xn} (hx : SmallI x.2) (hb0 : formB (dsP p) x = true) (ha : a < (dsP p).length) (hb : b < (dsP p).length) (kind : Int) : F87 n (sc p) x kind (a : Int) (b : Int) = some (hasI (evP 0 p) (dsP p) x kind a b, ()) := by
  have W := evs_ok hp
  have hl := W.len
  have h1 : a < (evP 0 p).length := by omega
  have h2 : b < (evP 0 p).length := by omega
  have hfit := formB_fit W.frm hb0
  have hfb : b < x.1.length := by have := hfit.1; omega
  have e50 := F122_eq hp n a b ha hb
  have e51 := F123_eq hp n a b hn hx hb0 ha hb
  have e54 := F125_eq hp n a b hn ha hb
  unfold sc at e50 e51 e54
  have e51 : F123 n (p, evP 0 p, dsP p) (x.1, x.2) (a : Int) (b : Int) = _ := e51
  unfold F87 hasI readI apB
  simp only [sc, lt_ii, le_0i, ha, hb, h1, h2, hfb, Int.toNat_natCast, if_true, e50, e51, e54, Option.bind_some, eta3, F124_eq, F121_eq, beq_int, bne_int]
  by_cases k1 : kind = 1
  · rw [decide_eq_true k1, if_pos k1]
    cases ownB (evP 0 p) a b <;> cases decide (x.1.getD b 0 = (a : Int)) <;> rfl
  · rw [decide_eq_false k1, if_neg k1]
    by_cases k2 : kind = 2
    · rw [decide_eq_true k2, if_pos k2]
      cases ownB (evP 0 p) a b <;> cases decide (x.1.getD b 0 = (a : Int)) <;> cases wr ((dsP p).getD a D0) <;> cases rd ((dsP p).getD b D0) <;> cases decide (((evP 0 p).getD a E0).1 = ((evP 0 p).getD b E0).1) <;> rfl
    · rw [decide_eq_false k2, if_neg k2]
      cases ownB (evP 0 p) a b <;> cases decide (x.1.getD b 0 = (a : Int)) <;> cases looseI (evP 0 p) (dsP p) a b <;> cases overI (dsP p) x a b <;> cases decide (((evP 0 p).getD a E0).1 = ((evP 0 p).getD b E0).1) <;> rfl
end
theorem F46_eq (n : Nat) (hn : 1048576 < n) (p : List (List D3)) (hsm : ∀ t ∈ p, t.length ≤ 1048576) (x : Xn) (hx : SmallI x.2) (kind a b : Int) : F46 n p x kind a b = some (orderHas p x kind a b, ()) := by
  unfold F46 orderHas
  rw [show F31 n p (x.1, x.2) = _ from F31_eq n hn p hsm x hx, Option.bind_some]
  cases hok : execOk p x
  · rfl
  · obtain ⟨hp, hb⟩ := execOk_two hok
    have W := evs_ok hp
    have hl := W.len
    have hs := W.small
    unfold F85
    rw [F86_eq, Option.bind_some, Option.bind_some]
    simp only [Bool.not_true, cond_false, Bool.true_and]
    cases hk : decide (kind ≥ 1) && decide (kind ≤ 3)
    · rfl
    · simp only [Bool.not_true, cond_false, Bool.true_and]
      unfold J46_3
      rw [F70_eq n hn p hsm hp, Option.bind_some]
      have e : IntKind.i64.wrap (((evP 0 p).length : Int) - 1) = ((dsP p).length : Int) - 1 := by rw [w64 (by omega) (by omega), hl]
      simp only [e, F86_eq, Option.bind_some]
      rw [show (decide (a ≥ 0) && decide (a ≤ ((dsP p).length : Int) - 1)) = inB a (dsP p) from rfl, show (decide (b ≥ 0) && decide (b ≤ ((dsP p).length : Int) - 1)) = inB b (dsP p) from rfl]
      cases ha : inB a (dsP p)
      · rfl
      · cases hb2 : inB b (dsP p)
        · rfl
        · obtain ⟨i, rfl, hi⟩ := inB_nat ha
          obtain ⟨j, rfl, hj⟩ := inB_nat hb2
          have e28 : F87 n (p, evP 0 p, dsP p) (x.1, x.2) kind (i : Int) (j : Int) = _ := F87_eq hp n i j hn hx hb hi hj kind
          simp only [Bool.not_true, cond_true, Bool.true_and, Int.toNat_natCast, e28, Option.bind_some]
          rw [has_eq (progOkIff.mp hp).2.1 hb kind i j hj]
end Go.Proofs.Ytdacfaincamliaa.Ev
