/- What ExecOk answers, in the written form and in the code's. Conditions: none. -/
import Derived.Test.YtdacfaincamliaaQG
namespace Go.Proofs.Ytdacfaincamliaa.Ev
open Go

theorem formed_loc {d : D3} (h : formed d = true) : ∃ c : Nat, d.2.1 = c ∧ c < 3 := by
  unfold formed at h
  simp only [Bool.and_eq_true, Bool.or_eq_true, decide_eq_true_eq] at h
  have : 0 ≤ d.2.1 ∧ d.2.1 ≤ 2 := by
    rcases h.1.2 with h | h
    · omega
    · exact ⟨h.2.1, h.2.2⟩
  exact ⟨d.2.1.toNat, by omega, by omega⟩

/-! ### Orders -/
def rowB (ws row : List Int) : Bool := decide (ws.length = row.length) && ws.all fun x => decide (x ∈ row)
def sorted (row : List Int) : List Int := row.mergeSort fun a b => decide (a ≤ b)
theorem rowB_eq (ws row : List Int) (h : ws.Pairwise (· < ·)) : rowB ws row = decide (sorted row = ws) := by
  have := sort_eq (row := row) h
  unfold rowB
  by_cases h2 : sorted row = ws
  · rw [decide_eq_true h2]
    have := this.mp h2
    simp only [Bool.and_eq_true, decide_eq_true_eq, List.all_eq_true]
    exact this
  · rw [decide_eq_false h2]
    have := fun h3 => h2 (this.mpr h3)
    cases hb : (decide (ws.length = row.length) && ws.all fun x => decide (x ∈ row))
    · rfl
    · simp only [Bool.and_eq_true, decide_eq_true_eq, List.all_eq_true] at hb
      exact absurd hb this
def rowsB (ds : List D3) (ord : List (List Int)) : Nat → Nat → Bool
  | 0, _ => true
  | k + 1, c => rowB (wsF c 0 ds) (ord.getD c []) && rowsB ds ord k (c + 1)
theorem rowsB_succ (ds : List D3) (ord : List (List Int)) (k c : Nat) : rowsB ds ord (k + 1) c = (rowB (wsF c 0 ds) (ord.getD c []) && rowsB ds ord k (c + 1)) := rfl
theorem rowB_def (ws row : List Int) : rowB ws row = (decide (ws.length = row.length) && ws.all fun x => decide (x ∈ row)) := rfl
def frB (mem : Int → Int → Bool) : List D3 → List Int → Bool
  | d :: l, x :: r => (if rd d then decide (x = -1) || mem d.2.1 x else decide (x = -2)) && frB mem l r
  | _, _ => true
theorem frB_cons (mem : Int → Int → Bool) (d : D3) (l : List D3) (x : Int) (r : List Int) : frB mem (d :: l) (x :: r) = ((if rd d then decide (x = -1) || mem d.2.1 x else decide (x = -2)) && frB mem l r) := rfl
theorem frB_congr {f g : Int → Int → Bool} : ∀ (l : List D3) (r : List Int), (∀ d, d ∈ l → ∀ x, f d.2.1 x = g d.2.1 x) → frB f l r = frB g l r
  | [], _, _ => rfl
  | d :: l, [], _ => rfl
  | d :: l, x :: r, h => by
    simp only [frB]
    rw [h d (by simp), frB_congr l r fun d hd => h d (by simp [hd])]
theorem frB_at {f : Int → Int → Bool} : ∀ (l : List D3) (r : List Int), r.length = l.length → frB f l r = true → ∀ a, a < l.length → rd (l.getD a D0) = true → r.getD a 0 = -1 ∨ f (l.getD a D0).2.1 (r.getD a 0) = true
  | [], _, _, _, a, ha, _ => by simp at ha
  | d :: l, [], h, _, _, _, _ => by simp at h
  | d :: l, x :: r, hl, h, a, ha, hr => by
    simp only [frB, Bool.and_eq_true] at h
    cases a with
    | zero =>
      have hr : rd d = true := hr
      have h1 := h.1
      rw [hr, if_pos rfl, Bool.or_eq_true, decide_eq_true_eq] at h1
      exact h1
    | succ a => exact frB_at l r (by simpa using hl) h.2 a (by simpa using ha) hr
theorem rowsB_mem {ds : List D3} {ord : List (List Int)} : ∀ (k c : Nat), rowsB ds ord k c = true → ∀ c', c ≤ c' → c' < c + k → ∀ x, x ∈ wsF c' 0 ds ↔ x ∈ ord.getD c' []
  | 0, c, _, c', h1, h2, _ => by omega
  | k + 1, c, h, c', h1, h2, x => by
    simp only [rowsB, Bool.and_eq_true] at h
    by_cases e : c' = c
    · subst e
      have h3 := h.1
      rw [rowB_eq _ _ (wsF_lt _ _ _), decide_eq_true_eq] at h3
      rw [← h3]
      unfold sorted
      simp
    · exact rowsB_mem k (c + 1) h.2 c' (by omega) (by omega) x
def memO (ord : List (List Int)) (c x : Int) : Bool := decide (x ∈ ord.getD c.toNat [])
def memW (ds : List D3) (c x : Int) : Bool := decide (x ∈ wsF c 0 ds)
def formB (ds : List D3) (x : Xn) : Bool := decide (x.1.length = ds.length) && (decide (x.2.length = 3) && (rowsB ds x.2 3 0 && frB (memO x.2) ds x.1))
theorem formB_eq {ds : List D3} (hf : ∀ d, d ∈ ds → formed d = true) (x : Xn) : formB ds x = (decide (x.1.length = ds.length) && (decide (x.2.length = 3) && (frB (memW ds) ds x.1 && rowsB ds x.2 3 0))) := by
  unfold formB
  cases hr : rowsB ds x.2 3 0
  · simp
  · rw [frB_congr (f := memO x.2) (g := memW ds) ds x.1 fun d hd y => ?_]
    · simp
    · obtain ⟨c, h1, h2⟩ := formed_loc (hf d hd)
      unfold memO memW
      rw [h1, Int.toNat_natCast]
      exact decide_eq_decide.mpr (rowsB_mem 3 0 hr c (by omega) (by omega) y).symm
theorem formB_fit {ds : List D3} (hf : ∀ d, d ∈ ds → formed d = true) {x : Xn} (h : formB ds x = true) : Fit ds x.1 := by
  rw [formB_eq hf] at h
  simp only [Bool.and_eq_true, decide_eq_true_eq] at h
  refine ⟨h.1, fun a ha hr => ?_⟩
  rcases frB_at ds x.1 h.1 h.2.2.1 a ha hr with h1 | h1
  · exact .inl h1
  · unfold memW at h1
    obtain ⟨k, h2, h3, h4, _⟩ := wsF_ge _ _ _ _ (of_decide_eq_true h1)
    exact .inr ⟨k, h3, by rw [h2]; congr 1; omega, h4⟩

section
variable {p : List (List D3)} {evs : List E3} {ds : List D3} (W : Evs p evs ds)

theorem L66_2_eq (n : Nat) (hn : 1048576 < n) (x : Xn) (hx : SmallI x.2) (c : Nat) (hc : c < x.2.length) (ws : List Int) (hw : ws.length ≤ 1048576) (y : List (List D3)) : ∀ (k m i : Nat), i + k = ws.length → k < m →
    L66_2 n m evs (y, ()) (x, ()) (c : Int) ws (i : Int) = some (if (ws.drop i).all (fun v => decide (v ∈ x.2.getD c [])) then .inr (.inl (evs, (y, ()), (x, ()), (c : Int), ())) else .inl (false, ()))
  | 0, m + 1, i, hi, hm => by
    have : i = ws.length := by omega
    subst this
    unfold L66_2
    simp
  | k + 1, m + 1, i, hi, hm => by
    have hlt : i < ws.length := by omega
    unfold L66_2
    simp only [lt_ii, le_0i, hlt, hc, Int.toNat_natCast, if_true, decide_true, cond_true]
    rw [F106_eq n hn _ _ (hx.2 _ (getD_mem _ c _ hc)), Option.bind_some, w64s (k := k) (by omega), getD_drop ws i 0 hlt, L66_2_eq n hn x hx c hc ws hw y k m (i + 1) (by omega) (by omega), List.all_cons]
    cases decide (ws.getD i 0 ∈ x.2.getD c []) <;> rfl
include W in
theorem L66_0_eq (n : Nat) (hn : 1048576 < n) (x : Xn) (hx : SmallI x.2) (h3 : x.2.length = 3) : ∀ (k m c : Nat), c + k = 3 → k < m →
    L66_0 n m evs (p, ()) (x, ()) (c : Int) = some (if rowsB ds x.2 k c then .inr (.inl (evs, (p, ()), (x, ()), ())) else .inl (false, ()))
  | 0, m + 1, c, hi, hm => by
    have : c = 3 := by omega
    subst this
    rfl
  | k + 1, m + 1, c, hi, hm => by
    have hs := W.small
    have hl := W.len
    have hc : c < x.2.length := by omega
    have hw := wsF_len c ds 0
    unfold L66_0
    rw [show decide ((c : Int) < 3) = true from decide_eq_true (by omega), cond_true, F105_eq W n hn, Option.bind_some]
    simp only [lt_ii, le_0i, hc, Int.toNat_natCast, if_true, bne_int, Int.natCast_inj]
    have e : L66_2 n n evs (p, ()) (x, ()) (c : Int) (wsF c 0 ds) (0 : Int) = _ := L66_2_eq (evs := evs) n hn x hx c hc (wsF c 0 ds) (by omega) p (wsF c 0 ds).length n 0 (by omega) (by omega)
    rw [List.drop_zero] at e
    rw [rowsB_succ, rowB_def]
    by_cases hl2 : (wsF (↑c) 0 ds).length = (x.2.getD c []).length
    · rw [decide_eq_true hl2, Bool.not_true, cond_false, Bool.true_and, show ((x.fst, x.snd) : Xn) = x from rfl, e]
      cases ha : (wsF (↑c) 0 ds).all (fun v => decide (v ∈ x.2.getD c []))
      · rfl
      · rw [if_pos rfl, Bool.true_and]
        show L66_0 n m evs (p, ()) (x, ()) (IntKind.i64.wrap ((c : Int) + 1)) = _
        rw [w64s (k := k) (by omega), L66_0_eq n hn x hx h3 k m (c + 1) (by omega) (by omega)]
    · rw [decide_eq_false hl2, Bool.not_false, cond_true, Bool.false_and]
      rfl
include W in
theorem L66_4_eq (n : Nat) (hn : 1048576 < n) (x : Xn) (hx : SmallI x.2) (h3 : x.2.length = 3) (hf : x.1.length = ds.length) : ∀ (k m a : Nat), a + k = ds.length → k < m →
    L66_4 n m evs (p, ()) (x, ()) (a : Int) = some (if frB (memO x.2) (ds.drop a) (x.1.drop a) then .inr (.inl ()) else .inl (false, ()))
  | 0, m + 1, a, hi, hm => by
    have hl := W.len
    have : a = evs.length := by omega
    subst this
    unfold L66_4
    rw [List.drop_of_length_le (show ds.length ≤ evs.length by omega)]
    simp [frB]
  | k + 1, m + 1, a, hi, hm => by
    have hs := W.small
    have hl := W.len
    have hlt : a < evs.length := by omega
    have hlt2 : a < ds.length := by omega
    have hlt3 : a < x.1.length := by omega
    have ih := L66_4_eq n hn x hx h3 hf k m (a + 1) (by omega) (by omega)
    obtain ⟨c, h1, h2⟩ := formed_loc (W.frm _ (getD_mem ds a D0 hlt2))
    have hc : c < x.2.length := by omega
    unfold L66_4
    simp only [lt_ii, le_0i, hlt, Int.toNat_natCast, if_true, decide_true, cond_true]
    rw [F107_eq' W n a hlt, Option.bind_some]
    simp only [eta3, F79_eq, Option.bind_some, hlt3, if_true, J66_16, bne_int]
    simp only [h1, lt_ii, le_0i, hc, Int.toNat_natCast, if_true]
    rw [F106_eq n hn _ _ (hx.2 _ (getD_mem _ c _ hc)), Option.bind_some, w64s (k := k) (by omega), getD_drop ds a D0 hlt2, getD_drop x.1 a 0 hlt3]
    rw [frB_cons, show memO x.2 (ds.getD a D0).2.1 (x.1.getD a 0) = decide (x.1.getD a 0 ∈ x.2.getD c []) by rw [h1]; rfl]
    have ih : L66_4 n m evs (p, ()) ((x.1, x.2), ()) ((a + 1 : Nat) : Int) = _ := ih
    simp only [ih]
    cases rd (ds.getD a D0)
    · cases decide (x.1.getD a 0 = -2) <;> rfl
    · cases decide (x.1.getD a 0 = -1)
      · cases decide (x.1.getD a 0 ∈ x.2.getD c []) <;> rfl
      · rfl
include W in
theorem F66_eq (n : Nat) (hn : 1048576 < n) (x : Xn) (hx : SmallI x.2) : F66 n p evs x = some (formB ds x, ()) := by
  have hs := W.small
  have hl := W.len
  unfold F66 formB
  simp only [bne_int, Int.natCast_inj, show ((x.2.length : Int) = 3) = (x.2.length = 3) from propext ⟨fun h => by omega, fun h => by omega⟩, ← hl]
  by_cases h1 : x.1.length = ds.length
  · by_cases h3 : x.2.length = 3
    · rw [decide_eq_true h1, decide_eq_true h3, Bool.not_true, cond_false, cond_false, Bool.true_and, Bool.true_and]
      unfold J66_3
      have e : L66_0 n n evs (p, ()) (x, ()) (0 : Int) = _ := L66_0_eq W n hn x hx h3 3 n 0 (by omega) (by omega)
      have e2 : L66_4 n n evs (p, ()) (x, ()) (0 : Int) = _ := L66_4_eq W n hn x hx h3 h1 ds.length n 0 (by omega) (by omega)
      simp only [show ((x.fst, x.snd) : Xn) = x from rfl, e]
      cases rowsB ds x.2 3 0
      · rfl
      · simp only [if_true, show ((x.fst, x.snd) : Xn) = x from rfl, e2, List.drop_zero]
        cases frB (memO x.2) ds x.1 <;> rfl
    · rw [decide_eq_true h1, decide_eq_false h3]; rfl
  · rw [decide_eq_false h1]; rfl

/-! ### The code's form -/
include W in
theorem L111_0_eq (n : Nat) (hn : 1048576 < n) (x : Xn) (y : List (List D3)) (z : List E3) (hf : x.1.length = ds.length) : ∀ (k m a : Nat), a + k = ds.length → k < m →
    L111_0 n m ((y, z, ds), ()) (x, ()) x.1 (x.1.length : Int) (a : Int) = some (if frB (memW ds) (ds.drop a) (x.1.drop a) then .inr (.inl (((y, z, ds), ()), (x, ()), ())) else .inl (false, ()))
  | 0, m + 1, a, hi, hm => by
    have : a = x.1.length := by omega
    subst this
    unfold L111_0
    rw [List.drop_of_length_le (show ds.length ≤ x.1.length by omega)]
    simp [frB]
  | k + 1, m + 1, a, hi, hm => by
    have hs := W.small
    have hl := W.len
    have hlt2 : a < ds.length := by omega
    have hlt3 : a < x.1.length := by omega
    have ih := L111_0_eq n hn x y z hf k m (a + 1) (by omega) (by omega)
    have hw := wsF_len (ds.getD a D0).2.1 ds 0
    unfold L111_0
    simp only [lt_ii, le_0i, hlt2, hlt3, Int.toNat_natCast, if_true, decide_true, cond_true, eta3, F121_eq, Option.bind_some, J111_12, bne_int]
    rw [F136_eq W n hn, Option.bind_some, F135_eq n hn _ _ (show (wsF (ds.getD a D0).2.1 0 ds).length ≤ 1048576 by omega), Option.bind_some, w64s (k := k) (by omega), getD_drop ds a D0 hlt2, getD_drop x.1 a 0 hlt3]
    have ih : L111_0 n m ((y, z, ds), ()) ((x.1, x.2), ()) x.1 (x.1.length : Int) ((a + 1 : Nat) : Int) = _ := ih
    rw [frB_cons, show memW ds (ds.getD a D0).2.1 (x.1.getD a 0) = decide (x.1.getD a 0 ∈ wsF (ds.getD a D0).2.1 0 ds) from rfl]
    simp only [ih]
    cases rd (ds.getD a D0)
    · cases decide (x.1.getD a 0 = -2) <;> rfl
    · cases decide (x.1.getD a 0 = -1)
      · cases decide (x.1.getD a 0 ∈ wsF (ds.getD a D0).2.1 0 ds) <;> rfl
      · rfl
include W in
theorem L111_3_eq (n : Nat) (hn : 1048576 < n) (ord : List (List Int)) (hx : SmallI ord) (h3 : ord.length = 3) (y : List (List D3)) (z : List E3) : ∀ (k m c : Nat), c + k = 3 → k < m →
    L111_3 n m ((y, z, ds), ()) ord (ord.length : Int) (c : Int) = some (if rowsB ds ord k c then .inr (.inl ()) else .inl (false, ()))
  | 0, m + 1, c, hi, hm => by
    have : c = ord.length := by omega
    subst this
    unfold L111_3
    simp [rowsB]
  | k + 1, m + 1, c, hi, hm => by
    have hs := W.small
    have hl := W.len
    have hc : c < ord.length := by omega
    have hr := hx.2 _ (getD_mem ord c [] hc)
    have e : F138 n (ord.getD c [], ()) = some (sorted (ord.getD c []), ()) := by unfold F138; rw [if_pos (by simp only []; omega)]; rfl
    unfold L111_3
    simp only [lt_ii, le_0i, hc, Int.toNat_natCast, if_true, decide_true, cond_true]
    rw [show F139 n (ord.getD c []) = some ((ord.getD c [], ()), ()) from rfl, Option.bind_some, e, Option.bind_some, F136_eq W n hn, Option.bind_some, F137_eq n hn _ _ (by unfold sorted; rw [List.length_mergeSort]; exact hr), Option.bind_some, w64s (k := k) (by omega), L111_3_eq n hn ord hx h3 y z k m (c + 1) (by omega) (by omega)]
    rw [rowsB_succ, rowB_eq _ _ (wsF_lt _ _ _)]
    cases decide (sorted (ord.getD c []) = wsF (↑c) 0 ds) <;> rfl
include W in
theorem F111_eq (n : Nat) (hn : 1048576 < n) (x : Xn) (hx : SmallI x.2) (y : List (List D3)) : F111 n (y, evs, ds) x = some (formB ds x, ()) := by
  have hs := W.small
  have hl := W.len
  rw [formB_eq W.frm]
  unfold F111
  simp only [bne_int, Int.natCast_inj, show ((x.2.length : Int) = 3) = (x.2.length = 3) from propext ⟨fun h => by omega, fun h => by omega⟩, ← hl]
  by_cases h1 : x.1.length = ds.length
  · by_cases h3 : x.2.length = 3
    · rw [decide_eq_true h1, decide_eq_true h3, Bool.not_true, cond_false, cond_false, Bool.true_and, Bool.true_and]
      unfold J111_3
      have e : L111_0 n n ((y, evs, ds), ()) (x, ()) x.1 (x.1.length : Int) (0 : Int) = _ := L111_0_eq W n hn x y evs h1 ds.length n 0 (by omega) (by omega)
      have e2 : L111_3 n n ((y, evs, ds), ()) x.2 (x.2.length : Int) (0 : Int) = _ := L111_3_eq W n hn x.2 hx h3 y evs 3 n 0 (by omega) (by omega)
      simp only [show ((x.fst, x.snd) : Xn) = x from rfl, e, List.drop_zero]
      cases frB (memW ds) ds x.1
      · rfl
      · simp only [if_true, e2]
        cases rowsB ds x.2 3 0 <;> rfl
    · rw [decide_eq_true h1, decide_eq_false h3]; rfl
  · rw [decide_eq_false h1]; rfl
end

/-! ### Values -/
section
variable {p : List (List D3)} (hp : progOk p = true) {x : Xn} (hf : Fit (dsP p) x.1)
include hp hf
theorem F108_eq : ∀ (k m a : Nat), k + 1001 ≤ m → k ≤ 1000000 → a < (dsP p).length → F108 m p (evP 0 p) x (a : Int) (k : Int) = some ((chn (gS (dsP p) x.1) k a).getD (-1), ())
  | 0, m + 1, a, hm, hk, ha => by
    rw [F108]
    unfold G108
    rw [show decide ((a : Int) < 0) = false from decide_eq_false (by omega)]
    rfl
  | k + 1, m + 1, a, hm, hk, ha => by
    have W := evs_ok hp
    have hl := W.len
    have hs := W.small
    have hs' := (progOkIff.mp hp).2.1
    have hlt : a < (evP 0 p).length := by omega
    have hlt3 : a < x.1.length := by have := hf.1; omega
    rw [F108]
    unfold G108
    rw [show decide ((a : Int) < 0) = false from decide_eq_false (by omega), cond_false, show decide (((k + 1 : Nat) : Int) < 1) = false from decide_eq_false (by omega), cond_false, show IntKind.i64.wrap (((k + 1 : Nat) : Int) - 1) = (k : Int) by rw [w64 (by omega) (by omega)]; omega]
    simp only [le_0i, lt_ii, hlt, hlt3, Int.toNat_natCast, if_true]
    rw [F107_eq' W m a hlt, Option.bind_some]
    simp only [eta3, F79_eq, Option.bind_some, beq_int]
    unfold chn
    unfold gS
    by_cases hr : rd ((dsP p).getD a D0) = true
    · rw [hr, cond_true, if_pos rfl]
      rcases hf.2 a ha hr with h1 | ⟨b, h1, h2, _⟩
      · rw [h1, if_pos rfl]
        cases m with
        | zero => omega
        | succ m => rw [F108]; rfl
      · rw [h2, if_neg (by omega), Int.toNat_natCast]
        have := F108_eq k m b (by omega) (by omega) h1
        have : F108 m p (evP 0 p) (x.1, x.2) (b : Int) (k : Int) = _ := this
        rw [this]; rfl
    · have hr' : rd ((dsP p).getD a D0) = false := by simpa using hr
      rw [hr', cond_false, if_neg (by decide)]
      by_cases h3 : ((dsP p).getD a D0).1 = 3
      · rw [decide_eq_true h3, cond_true, if_pos h3, F133_eq W m (by omega) a ha h3, Option.bind_some]
        have hb := gS_lt hs' hf a ha (lastRd (dsP p) a) (by unfold gS; rw [hr', if_neg (by decide), if_pos h3])
        have := F108_eq k m (lastRd (dsP p) a) (by omega) (by omega) hb.1
        have : F108 m p (evP 0 p) (x.1, x.2) ((lastRd (dsP p) a : Nat) : Int) (k : Int) = _ := this
        rw [this]; rfl
      · rw [decide_eq_false h3, cond_false, if_neg h3]; rfl

def okA (ds : List D3) (fr : List Int) (a : Nat) : Bool := (chn (gS ds fr) ds.length a).isSome
def allOk (ds : List D3) (fr : List Int) : Nat → Nat → Bool
  | 0, _ => true
  | k + 1, a => okA ds fr a && allOk ds fr k (a + 1)
omit hp hf in
theorem allOk_succ (ds : List D3) (fr : List Int) (k a : Nat) : allOk ds fr (k + 1) a = (okA ds fr a && allOk ds fr k (a + 1)) := rfl
theorem okA_eq (a : Nat) (ha : a < (dsP p).length) : decide ((chn (gS (dsP p) x.1) (2 * (dsP p).length + 2) a).getD (-1) < 0) = !okA (dsP p) x.1 a := by
  have hs := (progOkIff.mp hp).2.1
  have h1 := fun a ha b h => (gS_lt hs hf a ha b h).1
  unfold okA
  cases h : chn (gS (dsP p) x.1) (dsP p).length a with
  | some v =>
    have := chn_mono _ h ((dsP p).length + 2)
    rw [show (dsP p).length + ((dsP p).length + 2) = 2 * (dsP p).length + 2 by omega] at this
    rw [this]
    have := chn_nn h1 (gS_nn hs) _ a v ha h
    exact decide_eq_false (by simp only [Option.getD_some]; omega)
  | none =>
    cases h2 : chn (gS (dsP p) x.1) (2 * (dsP p).length + 2) a with
    | none => rfl
    | some v => rw [chn_any _ h1 ha h2] at h; cases h
theorem L67_eq (n : Nat) (hn : 1048576 < n) : ∀ (k m a : Nat), a + k = (dsP p).length → k < m →
    L67_0 n m (evP 0 p) (p, ()) (x, ()) (a : Int) = some (if allOk (dsP p) x.1 k a then .inr (.inl ()) else .inl (false, ()))
  | 0, m + 1, a, hi, hm => by
    have hl := (evs_ok hp).len
    have : a = (evP 0 p).length := by omega
    subst this
    unfold L67_0
    simp [allOk]
  | k + 1, m + 1, a, hi, hm => by
    have hl := (evs_ok hp).len
    have hs := (evs_ok hp).small
    have ha : a < (dsP p).length := by omega
    have hlt : a < (evP 0 p).length := by omega
    have e := F108_eq hp hf (2 * (dsP p).length + 2) n a (by omega) (by omega) ha
    have e : F108 n p (evP 0 p) (x.1, x.2) (a : Int) ((2 * (dsP p).length + 2 : Nat) : Int) = _ := e
    unfold L67_0
    simp only [lt_ii, hlt, decide_true, cond_true]
    rw [show IntKind.i64.wrap (IntKind.i64.wrap (2 * ((evP 0 p).length : Int)) + 2) = ((2 * (dsP p).length + 2 : Nat) : Int) by rw [w64 (x := 2 * ((evP 0 p).length : Int)) (by omega) (by omega), w64 (by omega) (by omega)]; omega, e, Option.bind_some, okA_eq hp hf a ha, w64s (k := k) (by omega)]
    have ih : L67_0 n m (evP 0 p) (p, ()) ((x.1, x.2), ()) ((a + 1 : Nat) : Int) = _ := L67_eq n hn k m (a + 1) (by omega) (by omega)
    rw [ih]
    rw [allOk_succ]
    cases okA (dsP p) x.1 a <;> rfl
theorem F67_eq (n : Nat) (hn : 1048576 < n) : F67 n p (evP 0 p) x = some (allOk (dsP p) x.1 (dsP p).length 0, ()) := by
  have hl := (evs_ok hp).len
  have hs := (evs_ok hp).small
  unfold F67
  rw [show L67_0 n n (evP 0 p) (p, ()) ((x.fst, x.snd), ()) (0 : Int) = _ from L67_eq hp hf n hn (dsP p).length n 0 (by omega) (by omega)]
  cases allOk (dsP p) x.1 (dsP p).length 0 <;> rfl

omit hp hf in
theorem us_cases {d : D3} (h : us d = true) (hv : vd d = false) (h3 : d.1 ≠ 3) : rd d = true := by
  unfold us at h
  unfold vd at hv
  cases hr : rd d
  · rw [hr, Bool.false_or] at h
    unfold wr at h
    rw [decide_eq_false h3] at h
    rw [Bool.false_or] at h
    rw [h] at hv; cases hv
  · rfl
omit hp hf in
theorem vd_not {d : D3} (h : vd d = true) : rd d = false ∧ d.1 ≠ 3 := by
  unfold vd at h
  simp only [Bool.or_eq_true, decide_eq_true_eq] at h
  refine ⟨?_, by omega⟩
  unfold rd
  rw [decide_eq_false (by omega), decide_eq_false (by omega)]; rfl
theorem L112_eq (n : Nat) (hn : 1048576 < n) (y : List (List D3)) : ∀ (k m i a : Nat), i + k = (dsP p).length → k < m → a < (dsP p).length → us ((dsP p).getD a D0) = true →
    L112_0 n m (a : Int) ((y, evP 0 p, dsP p), ()) (x, ()) ((evP 0 p).length : Int) (i : Int) = some (match chn (gS (dsP p) x.1) k a with | some v => .inl (v, true, ()) | none => .inr (.inl ()))
  | 0, m + 1, i, a, hi, hm, ha, hu => by
    have hl := (evs_ok hp).len
    have : i = (evP 0 p).length := by omega
    subst this
    unfold L112_0
    simp [chn]
  | k + 1, m + 1, i, a, hi, hm, ha, hu => by
    have W := evs_ok hp
    have hl := W.len
    have hs := W.small
    have hs' := (progOkIff.mp hp).2.1
    have hlt : i < (evP 0 p).length := by omega
    have hlt3 : a < x.1.length := by have := hf.1; omega
    have ih := fun b hb hub => L112_eq n hn y k m (i + 1) b (by omega) (by omega) hb hub
    have ih : ∀ b : Nat, b < (dsP p).length → us ((dsP p).getD b D0) = true → L112_0 n m (b : Int) ((y, evP 0 p, dsP p), ()) ((x.1, x.2), ()) ((evP 0 p).length : Int) ((i + 1 : Nat) : Int) = _ := ih
    unfold L112_0
    simp only [lt_ii, le_0i, hlt, ha, hlt3, Int.toNat_natCast, if_true, decide_true, cond_true, eta3, F140_eq, Option.bind_some, beq_int, J112_11]
    rw [w64s (k := k) (by omega)]
    unfold chn
    have hg := gS_lt hs' hf a ha
    by_cases hv : vd ((dsP p).getD a D0) = true
    · have := vd_not hv
      rw [hv, cond_true]
      unfold gS
      rw [this.1, if_neg (by decide), if_neg this.2]
    · have hv' : vd ((dsP p).getD a D0) = false := by simpa using hv
      rw [hv', cond_false]
      by_cases h3 : ((dsP p).getD a D0).1 = 3
      · have hr : rd ((dsP p).getD a D0) = false := by unfold rd; rw [decide_eq_false (by omega), decide_eq_false (by omega)]; rfl
        have e : gS (dsP p) x.1 a = .inr (lastRd (dsP p) a) := by unfold gS; rw [hr, if_neg (by decide), if_pos h3]
        have := hg _ e
        rw [decide_eq_true h3, cond_true, F141_eq W n hn y (evP 0 p) a ha h3, Option.bind_some, e]
        exact ih _ this.1 this.2
      · have hr := us_cases hu hv' h3
        rw [decide_eq_false h3, cond_false]
        rcases hf.2 a ha hr with h1 | ⟨b, h1, h2, h4⟩
        · have e : gS (dsP p) x.1 a = .inl 0 := by unfold gS; rw [hr, if_pos rfl, if_pos h1]
          rw [e, decide_eq_true h1, cond_true]
        · have e : gS (dsP p) x.1 a = .inr b := by unfold gS; rw [hr, if_pos rfl, h2, if_neg (by omega), Int.toNat_natCast]
          have := hg _ e
          rw [e, h2, decide_eq_false (by omega), cond_false]
          exact ih _ this.1 this.2
theorem F112_eq (n : Nat) (hn : 1048576 < n) (y : List (List D3)) (a : Nat) (ha : a < (dsP p).length) (hu : us ((dsP p).getD a D0) = true) :
    F112 n (y, evP 0 p, dsP p) x (a : Int) = some (match chn (gS (dsP p) x.1) (dsP p).length a with | some v => (v, true, ()) | none => ((0 : Int), false, ())) := by
  have hl := (evs_ok hp).len
  have hs := (evs_ok hp).small
  unfold F112
  rw [show L112_0 n n (a : Int) ((y, evP 0 p, dsP p), ()) ((x.fst, x.snd), ()) ((evP 0 p).length : Int) (0 : Int) = _ from L112_eq hp hf n hn y (dsP p).length n 0 a (by omega) (by omega) ha hu]
  cases chn (gS (dsP p) x.1) (dsP p).length a <;> rfl
omit hp hf in
theorem okA_not (a : Nat) (ha : a < (dsP p).length) (hu : us ((dsP p).getD a D0) = false) : okA (dsP p) x.1 a = true := by
  unfold okA
  obtain ⟨m, hm⟩ : ∃ m, (dsP p).length = m + 1 := ⟨(dsP p).length - 1, by omega⟩
  rw [hm]
  unfold chn gS
  have h1 : rd ((dsP p).getD a D0) = false ∧ ((dsP p).getD a D0).1 ≠ 3 := by
    unfold us wr at hu
    simp only [Bool.or_eq_false_iff, decide_eq_false_iff_not] at hu
    exact ⟨hu.1, hu.2.2.1⟩
  rw [h1.1, if_neg (by decide), if_neg h1.2]
  rfl
theorem L71_eq (n : Nat) (hn : 1048576 < n) (y : List (List D3)) : ∀ (k m a : Nat), a + k = (dsP p).length → k < m →
    L71_0 n m ((y, evP 0 p, dsP p), ()) (x, ()) (dsP p) ((dsP p).length : Int) (a : Int) = some (if allOk (dsP p) x.1 k a then .inr (.inl ()) else .inl (false, ()))
  | 0, m + 1, a, hi, hm => by
    have : a = (dsP p).length := by omega
    subst this
    unfold L71_0
    simp [allOk]
  | k + 1, m + 1, a, hi, hm => by
    have hl := (evs_ok hp).len
    have hs := (evs_ok hp).small
    have ha : a < (dsP p).length := by omega
    have ih : L71_0 n m ((y, evP 0 p, dsP p), ()) ((x.1, x.2), ()) (dsP p) ((dsP p).length : Int) ((a + 1 : Nat) : Int) = _ := L71_eq n hn y k m (a + 1) (by omega) (by omega)
    unfold L71_0
    simp only [lt_ii, le_0i, ha, Int.toNat_natCast, if_true, decide_true, cond_true, eta3, F110_eq, Option.bind_some, J71_10]
    rw [w64s (k := k) (by omega), ih]
    rw [allOk_succ]
    by_cases hu : us ((dsP p).getD a D0) = true
    · have e : F112 n (y, evP 0 p, dsP p) (x.1, x.2) (a : Int) = _ := F112_eq hp hf n hn y a ha hu
      rw [hu, Bool.not_true, cond_false, e, Option.bind_some]
      unfold okA
      cases chn (gS (dsP p) x.1) (dsP p).length a <;> rfl
    · have hu' : us ((dsP p).getD a D0) = false := by simpa using hu
      rw [hu', Bool.not_false, cond_true, okA_not a ha hu', Bool.true_and]
end

def execOk (p : List (List D3)) (x : Xn) : Bool := progOk p && (formB (dsP p) x && allOk (dsP p) x.1 (dsP p).length 0)
theorem F29_eq (n : Nat) (hn : 1048576 < n) (p : List (List D3)) (x : Xn) (hx : SmallI x.2) : F29 n p x = some (execOk p x, ()) := by
  unfold F29 execOk
  rw [F36_eq n hn p, Option.bind_some]
  cases h : progOk p
  · rfl
  · have W := evs_ok h
    have e1 : F66 n p (evP 0 p) (x.1, x.2) = _ := F66_eq W n hn x hx
    rw [Bool.not_true, cond_false, F65_eq n hn p, Option.bind_some, h, if_pos rfl, e1, Option.bind_some, Bool.true_and]
    cases hb : formB (dsP p) x
    · rfl
    · have e2 : F67 n p (evP 0 p) (x.1, x.2) = _ := F67_eq h (formB_fit W.frm hb) n hn
      rw [Bool.not_true, cond_false, e2, Option.bind_some, Bool.true_and]
theorem F70_eq (n : Nat) (hn : 1048576 < n) (p : List (List D3)) (hs : ∀ t ∈ p, t.length ≤ 1048576) (h : progOk p = true) : F70 n p = some ((p, evP 0 p, dsP p), ()) := by
  have W := evs_ok h
  have hl := W.len
  have hm := W.small
  have e : ∀ y, L70_0 n n (p, ()) y (p, evP 0 p, [], ()) (evP 0 p) ((evP 0 p).length : Int) (0 : Int) = _ := fun y => L70_eq W n y (evP 0 p).length n 0 [] (by omega) (by omega) (by simp)
  unfold F70
  rw [F42_eq n hn p hs, Option.bind_some, h, if_pos rfl, e]
theorem F71_eq (n : Nat) (hn : 1048576 < n) (p : List (List D3)) (x : Xn) (hx : SmallI x.2) (h : progOk p = true) : F71 n (p, evP 0 p, dsP p) x = some (formB (dsP p) x && allOk (dsP p) x.1 (dsP p).length 0, ()) := by
  have W := evs_ok h
  have hl := W.len
  have hm := W.small
  unfold F71
  rw [show F111 n (p, evP 0 p, dsP p) (x.1, x.2) = _ from F111_eq W n hn x hx p, Option.bind_some]
  cases hb : formB (dsP p) x
  · rfl
  · rw [Bool.not_true, cond_false, Bool.true_and]
    have e : L71_0 n n ((p, evP 0 p, dsP p), ()) ((x.1, x.2), ()) (dsP p) ((dsP p).length : Int) (0 : Int) = _ := L71_eq h (formB_fit W.frm hb) n hn p (dsP p).length n 0 (by omega) (by omega)
    simp only [e]
    cases allOk (dsP p) x.1 (dsP p).length 0 <;> rfl
theorem F31_eq (n : Nat) (hn : 1048576 < n) (p : List (List D3)) (hs : ∀ t ∈ p, t.length ≤ 1048576) (x : Xn) (hx : SmallI x.2) : F31 n p x = some (execOk p x, ()) := by
  unfold F31 execOk
  rw [F69_eq n hn p hs, Option.bind_some]
  cases h : progOk p
  · rfl
  · rw [cond_true, F70_eq n hn p hs h, Option.bind_some, show F71 n (p, evP 0 p, dsP p) (x.1, x.2) = _ from F71_eq n hn p x hx h, Option.bind_some, Bool.true_and]
end Go.Proofs.Ytdacfaincamliaa.Ev
