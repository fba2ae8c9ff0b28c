/- What the walk that lists all ways comes to. Conditions: none. -/
import Derived.Test.YtdacfaincamliaaGO
import Derived.Test.YtdacfaincamliaaQH
namespace Go.Proofs.Ytdacfaincamliaa.Ev
open Go

/-- All rows that begin so and hold each of these once. -/
def pm (ws : List Int) : Nat → List Int → List (List Int)
  | 0, acc => [acc]
  | k + 1, acc => ws.flatMap fun x => if x ∈ acc then [] else pm ws k (acc ++ [x])
theorem flat_len {α β : Type} (f : α → List β) (B : Nat) : ∀ l : List α, (∀ x, x ∈ l → (f x).length ≤ B) → (l.flatMap f).length ≤ l.length * B
  | [], _ => by simp
  | x :: l, h => by
    rw [List.flatMap_cons, List.length_append, List.length_cons, Nat.succ_mul]
    have h1 := flat_len f B l fun y hy => h y (List.mem_cons_of_mem _ hy)
    have h2 := h x List.mem_cons_self
    omega
theorem pm_card (ws : List Int) : ∀ (k : Nat) (acc : List Int), (pm ws k acc).length ≤ ws.length ^ k
  | 0, acc => by simp [pm]
  | k + 1, acc => by
    have h := flat_len (fun x => if x ∈ acc then [] else pm ws k (acc ++ [x])) (ws.length ^ k) ws fun x _ => by
      split
      · simp
      · exact pm_card ws k _
    rw [Nat.pow_succ, Nat.mul_comm]
    exact h
theorem pm_len (ws : List Int) : ∀ (k : Nat) (acc x : List Int), x ∈ pm ws k acc → x.length = acc.length + k
  | 0, acc, x, h => by simp [pm] at h; rw [h]; rfl
  | k + 1, acc, x, h => by
    unfold pm at h
    obtain ⟨y, _, h⟩ := List.mem_flatMap.mp h
    split at h
    · cases h
    · rw [pm_len ws k _ x h]; simp; omega

theorem L119_eq (R : List Int → List Int → List (List Int) → Option (List (List Int) × Unit)) (n : Nat) (hn : 1048576 < n) (ws acc : List Int) (k B : Nat) (hw : ws.length ≤ 1000) (ha : acc.length ≤ 1000)
    (hR : ∀ (x : Int) (out : List (List Int)), out.length + (pm ws k (acc ++ [x])).length ≤ B → R ws (acc ++ [x]) out = some (out ++ pm ws k (acc ++ [x]), ())) :
    ∀ (j m i : Nat) (out : List (List Int)), i + j = ws.length → j < m → out.length + ((ws.drop i).flatMap fun x => if x ∈ acc then [] else pm ws k (acc ++ [x])).length ≤ B →
      L119_0 R n m ws acc out (i : Int) = some (.inl (out ++ (ws.drop i).flatMap (fun x => if x ∈ acc then [] else pm ws k (acc ++ [x])), ()))
  | 0, m + 1, i, out, hi, hm, hB => by
    have : i = ws.length := by omega
    subst this
    unfold L119_0
    simp
  | j + 1, m + 1, i, out, hi, hm, hB => by
    have hlt : i < ws.length := by omega
    rw [getD_drop ws i 0 hlt, List.flatMap_cons] at hB ⊢
    unfold L119_0
    simp only [lt_ii, le_0i, hlt, Int.toNat_natCast, if_true, decide_true, cond_true]
    rw [F106_eq n hn acc _ (by omega), Option.bind_some]
    by_cases h : ws.getD i 0 ∈ acc
    · simp only [h, decide_true, Bool.not_true, cond_false, if_true, List.nil_append] at hB ⊢
      unfold J119_5
      simp only
      rw [w64s (k := j) (by omega)]
      exact L119_eq R n hn ws acc k B hw ha hR j m (i + 1) out (by omega) (by omega) hB
    · simp only [h, decide_false, Bool.not_false, cond_true, if_false] at hB ⊢
      rw [if_pos (by omega), if_pos (by simp; omega), hR _ _ (by rw [List.length_append] at hB; omega), Option.bind_some]
      unfold J119_5
      simp only
      rw [w64s (k := j) (by omega), L119_eq R n hn ws acc k B hw ha hR j m (i + 1) _ (by omega) (by omega) (by rw [List.length_append] at hB ⊢; omega), List.append_assoc]
theorem F119_eq (ws : List Int) (hw : ws.length ≤ 1000) : ∀ (k n : Nat) (acc : List Int) (out : List (List Int)), 1048577 + k < n → acc.length + k = ws.length → out.length + (pm ws k acc).length ≤ 1000000000 → F119 n ws acc out = some (out ++ pm ws k acc, ())
  | 0, n + 1, acc, out, hn, ha, hB => by
    show G119 (F119 n) n ws acc out = _
    unfold G119
    have e : acc.length = ws.length := by omega
    simp only [pm, List.length_cons, List.length_nil] at hB
    rw [beq_int, e]
    simp only [decide_true, cond_true, pm]
    rw [if_pos (by omega), if_pos (by simp; omega)]
  | k + 1, n + 1, acc, out, hn, ha, hB => by
    show G119 (F119 n) n ws acc out = _
    unfold G119
    rw [beq_int, decide_eq_false (by omega), cond_false]
    have h := L119_eq (F119 n) n (by omega) ws acc k 1000000000 hw (by omega) (fun x o ho => F119_eq ws hw k n (acc ++ [x]) o (by omega) (by simp; omega) ho) ws.length n 0 out (by omega) (by omega) hB
    rw [show ((0 : Nat) : Int) = 0 from rfl] at h
    rw [h]
    rfl

/-- What each may read: nothing that was written, or one of what is written there. -/
def fm (ds : List D3) : List D3 → List Int → List (List Int)
  | [], acc => [acc]
  | d :: l, acc => if rd d = true then fm ds l (acc ++ [-1]) ++ (wsF d.2.1 0 ds).flatMap (fun x => fm ds l (acc ++ [x])) else fm ds l (acc ++ [-2])
def rdN : List D3 → Nat
  | [] => 0
  | d :: l => (if rd d = true then 1 else 0) + rdN l
theorem fm_card (ds : List D3) (W : Nat) (hW : ∀ c, (wsF c 0 ds).length ≤ W) : ∀ (l : List D3) (acc : List Int), (fm ds l acc).length ≤ (1 + W) ^ rdN l
  | [], acc => by simp [fm, rdN]
  | d :: l, acc => by
    unfold fm rdN
    split
    · have h := flat_len (fun x => fm ds l (acc ++ [x])) ((1 + W) ^ rdN l) (wsF d.2.1 0 ds) fun x _ => fm_card ds W hW l _
      have h2 := Nat.mul_le_mul_right ((1 + W) ^ rdN l) (hW d.2.1)
      have h3 := fm_card ds W hW l (acc ++ [-1])
      rw [List.length_append, Nat.pow_add, Nat.pow_one, Nat.add_mul, Nat.one_mul]
      omega
    · have h3 := fm_card ds W hW l (acc ++ [-2])
      rw [Nat.zero_add]
      exact h3
theorem fm_len (ds : List D3) : ∀ (l : List D3) (acc x : List Int), x ∈ fm ds l acc → x.length = acc.length + l.length
  | [], acc, x, h => by simp [fm] at h; rw [h]; rfl
  | d :: l, acc, x, h => by
    unfold fm at h
    split at h
    · rcases List.mem_append.mp h with h | h
      · rw [fm_len ds l _ x h]; simp; omega
      · obtain ⟨y, _, h⟩ := List.mem_flatMap.mp h
        rw [fm_len ds l _ x h]; simp; omega
    · rw [fm_len ds l _ x h]; simp; omega

section
variable {p : List (List D3)} {evs : List E3} {ds : List D3} (W : Evs p evs ds)
include W
omit W in
theorem L76_eq (R : List (List D3) → List E3 → List Int → List (List Int) → Option (List (List Int) × Unit)) (n : Nat) (acc : List Int) (l : List D3) (ws : List Int) (B : Nat) (hw : ws.length ≤ 1000) (ha : acc.length ≤ 1000)
    (hR : ∀ (x : Int) (out : List (List Int)), out.length + (fm ds l (acc ++ [x])).length ≤ B → R p evs (acc ++ [x]) out = some (out ++ fm ds l (acc ++ [x]), ())) :
    ∀ (j m i : Nat) (out : List (List Int)), i + j = ws.length → j < m → out.length + ((ws.drop i).flatMap fun x => fm ds l (acc ++ [x])).length ≤ B →
      L76_0 R n m evs acc out (p, ()) ws (i : Int) = some (.inl (out ++ (ws.drop i).flatMap (fun x => fm ds l (acc ++ [x])), ()))
  | 0, m + 1, i, out, hi, hm, hB => by
    have : i = ws.length := by omega
    subst this
    unfold L76_0
    simp
  | j + 1, m + 1, i, out, hi, hm, hB => by
    have hlt : i < ws.length := by omega
    rw [getD_drop ws i 0 hlt, List.flatMap_cons] at hB ⊢
    unfold L76_0
    simp only [lt_ii, le_0i, hlt, Int.toNat_natCast, if_true, decide_true, cond_true]
    rw [if_pos (by omega), if_pos (by simp; omega), hR _ _ (by rw [List.length_append] at hB; omega), Option.bind_some]
    simp only
    rw [w64s (k := j) (by omega), L76_eq R n acc l ws B hw ha hR j m (i + 1) _ (by omega) (by omega) (by rw [List.length_append] at hB ⊢; omega), List.append_assoc]
theorem F76_eq : ∀ (l : List D3) (n : Nat) (acc : List Int) (out : List (List Int)), 1048577 + l.length < n → ds.drop acc.length = l → acc.length ≤ ds.length → out.length + (fm ds l acc).length ≤ 1000000000 → F76 n p evs acc out = some (out ++ fm ds l acc, ())
  | [], n + 1, acc, out, hn, hd, ha, hB => by
    have hl := W.len
    have hs := W.small
    have e : acc.length = evs.length := by
      have := congrArg List.length hd
      simp at this
      omega
    show G76 (F76 n) n p evs acc out = _
    unfold G76
    simp only [fm, List.length_cons, List.length_nil] at hB
    rw [e]
    simp only [fm, ge_iff_le, Int.le_refl, decide_true, cond_true]
    rw [if_pos (by omega), if_pos (by simp; omega)]
  | d :: l, n + 1, acc, out, hn, hd, ha, hB => by
    have hl := W.len
    have hs := W.small
    have hlt : acc.length < evs.length := by
      have := congrArg List.length hd
      simp at this
      omega
    have hdl : ds.length ≤ 1000 := by omega
    have hd0 : ds.getD acc.length D0 = d := by
      have h9 := getD_drop ds acc.length D0 (by omega)
      rw [hd] at h9
      injection h9 with h9 _
      exact h9.symm
    have hd1 : ∀ x : Int, ds.drop (acc ++ [x]).length = l := fun x => by
      have h9 := getD_drop ds acc.length D0 (by omega)
      rw [hd] at h9
      injection h9 with _ h9
      simp [h9]
    show G76 (F76 n) n p evs acc out = _
    unfold G76
    simp only [ge_iff_le, Int.toNat_natCast]
    rw [decide_eq_false (by omega), cond_false, if_pos (by omega), F107_eq' W n acc.length hlt, Option.bind_some, hd0]
    simp only
    rw [F79_eq, Option.bind_some]
    have ih : ∀ (x : Int) (o : List (List Int)), o.length + (fm ds l (acc ++ [x])).length ≤ 1000000000 → F76 n p evs (acc ++ [x]) o = some (o ++ fm ds l (acc ++ [x]), ()) := fun x o ho => F76_eq l n (acc ++ [x]) o (by simp at hn; omega) (hd1 x) (by simp; omega) ho
    unfold fm at hB ⊢
    by_cases h : rd d = true
    · simp only [h, Bool.not_true, cond_false, if_true] at hB ⊢
      rw [List.length_append] at hB
      rw [if_pos (by omega), if_pos (by simp; omega), ih _ _ (by omega), Option.bind_some, F105_eq W n (by simp at hn; omega), Option.bind_some]
      have hwl := wsF_len d.2.1 ds 0
      have h8 := L76_eq (evs := evs) (p := p) (F76 n) n acc l (wsF d.2.1 0 ds) 1000000000 (by omega) (by omega) ih (wsF d.2.1 0 ds).length n 0 (out ++ fm ds l (acc ++ [-1])) (by omega) (by simp at hn; omega) (by rw [List.length_append, List.drop_zero]; omega)
      rw [show ((0 : Nat) : Int) = 0 from rfl, List.drop_zero] at h8
      simp only
      rw [h8, ← List.append_assoc]
    · have h' : rd d = false := by simpa using h
      simp only [h', Bool.not_false, cond_true, Bool.false_eq_true, if_false] at hB ⊢
      rw [if_pos (by omega), if_pos (by simp; omega), ih _ _ hB, Option.bind_some]

/-- All rows of all places, one after another. -/
def rowsC (ds : List D3) (c : Nat) : List (List Int) := pm (wsF c 0 ds) (wsF c 0 ds).length []
/-- One more place. -/
def ext (ds : List D3) (c : Nat) (o : List (List (List Int))) : List (List (List Int)) := o.flatMap fun x => (rowsC ds c).map fun r => x ++ [r]
def ordsF (ds : List D3) : List (List (List Int)) := ext ds 2 (ext ds 1 (ext ds 0 [[]]))
omit W in
theorem ext_len (ds : List D3) (c : Nat) : ∀ o : List (List (List Int)), (ext ds c o).length = o.length * (rowsC ds c).length
  | [] => by simp [ext]
  | x :: o => by
    have h := ext_len ds c o
    unfold ext at h ⊢
    rw [List.flatMap_cons, List.length_append, List.length_map, h, List.length_cons, Nat.succ_mul, Nat.add_comm]
omit W in
theorem ext_row (ds : List D3) (c a : Nat) (o : List (List (List Int))) (h : ∀ x ∈ o, x.length = a ∧ ∀ r ∈ x, r.length ≤ 1000) (hw : ds.length ≤ 1000) : ∀ x ∈ ext ds c o, x.length = a + 1 ∧ ∀ r ∈ x, r.length ≤ 1000 := by
  intro y hy
  obtain ⟨q, h1, h2⟩ := List.mem_flatMap.mp hy
  obtain ⟨r, hr, h3⟩ := List.mem_map.mp h2
  obtain ⟨q1, q2⟩ := h q h1
  refine ⟨by rw [← h3]; simp [q1], fun t ht => ?_⟩
  rw [← h3] at ht
  rcases List.mem_append.mp ht with ht | ht
  · exact q2 t ht
  · rw [List.mem_singleton.mp ht, pm_len _ _ _ _ hr]
    have := wsF_len (c : Int) ds 0
    simp; omega
omit W in
theorem L77_4_eq (n : Nat) (y : List E3) (z : List (List D3)) (os : List (List (List Int))) (c : Int) (rs : List (List Int)) (i : Nat) (hi : i < os.length) (hx : (os.getD i []).length ≤ 1000) (hrs : rs.length ≤ 1000000) : ∀ (k m j : Nat) (acc : List (List (List Int))), j + k = rs.length → k < m → acc.length + k ≤ 100000000000 →
    L77_4 n m y (z, ()) os c rs acc (i : Int) (j : Int) = some (.inl (y, (z, ()), os, c, rs, acc ++ (rs.drop j).map (fun r => os.getD i [] ++ [r]), (i : Int), ()))
  | 0, m + 1, j, acc, hj, hm, hB => by
    have : j = rs.length := by omega
    subst this
    unfold L77_4
    simp
  | k + 1, m + 1, j, acc, hj, hm, hB => by
    have hlt : j < rs.length := by omega
    rw [getD_drop rs j [] hlt, List.map_cons]
    unfold L77_4
    simp only [lt_ii, le_0i, hlt, hi, Int.toNat_natCast, if_true, decide_true, cond_true]
    rw [if_pos (by omega), if_pos (by simp only [List.length_cons, List.length_nil]; omega), if_pos (by simp only [List.length_cons, List.length_nil]; omega), w64s (k := k) (by omega), L77_4_eq n y z os c rs i hi hx hrs k m (j + 1) _ (by omega) (by omega) (by simp only [List.length_append, List.length_cons, List.length_nil]; omega), List.append_assoc]
    rfl
omit W in
theorem L77_2_eq (n : Nat) (y : List E3) (z : List (List D3)) (os : List (List (List Int))) (c : Int) (rs : List (List Int)) (ho : os.length ≤ 1000000) (hx : ∀ o ∈ os, o.length ≤ 1000) (hrs : rs.length ≤ 1000000) (hn : 1048576 < n) : ∀ (k m i : Nat) (acc : List (List (List Int))), i + k = os.length → k < m → acc.length + k * rs.length ≤ 100000000000 →
    L77_2 n m y (z, ()) os c rs acc (i : Int) = some (.inl (y, (z, ()), c, acc ++ (os.drop i).flatMap (fun x => rs.map fun r => x ++ [r]), ()))
  | 0, m + 1, i, acc, hi, hm, hB => by
    have : i = os.length := by omega
    subst this
    unfold L77_2
    simp
  | k + 1, m + 1, i, acc, hi, hm, hB => by
    have hlt : i < os.length := by omega
    rw [Nat.succ_mul] at hB
    rw [getD_drop os i [] hlt, List.flatMap_cons]
    unfold L77_2
    simp only [lt_ii, hlt, decide_true, cond_true]
    have h := L77_4_eq n y z os c rs i hlt (hx _ (getD_mem os i [] hlt)) hrs rs.length n 0 acc (by omega) (by omega) (by omega)
    rw [show ((0 : Nat) : Int) = 0 from rfl, List.drop_zero] at h
    rw [h]
    simp only
    rw [w64s (k := k) (by omega), L77_2_eq n y z os c rs ho hx hrs hn k m (i + 1) _ (by omega) (by omega) (by simp; omega), List.append_assoc]
/-! ### How many there are -/
omit W in
theorem rd_wr {d : D3} (h : rd d = true) : wr d = false := by
  unfold rd at h
  unfold wr
  simp only [Bool.or_eq_true, decide_eq_true_eq] at h
  simp only [Bool.or_eq_false_iff, decide_eq_false_iff_not]
  omega
omit W in
theorem wsF_cons (c : Int) (i : Nat) (d : D3) (l : List D3) : (wsF c i (d :: l)).length = (if wr d = true ∧ d.2.1 = c then 1 else 0) + (wsF c (i + 1) l).length := by
  rw [wsF, List.length_append]
  split <;> rfl
omit W in
theorem w_three : ∀ (l : List D3) (i : Nat), (wsF 0 i l).length + (wsF 1 i l).length + (wsF 2 i l).length + rdN l ≤ usesN l
  | [], i => by simp [wsF, rdN, usesN]
  | d :: l, i => by
    have h := w_three l (i + 1)
    rw [wsF_cons, wsF_cons, wsF_cons]
    unfold rdN usesN us
    cases hr : rd d with
    | true =>
      have hw := rd_wr hr
      simp only [hw, Bool.false_eq_true, false_and, if_false, if_true, Bool.true_or]
      omega
    | false =>
      cases hw : wr d with
      | false => simp only [Bool.false_eq_true, false_and, if_false, Bool.or_self]; omega
      | true =>
        simp only [true_and, Bool.false_eq_true, if_false, if_true, Bool.or_true]
        split <;> split <;> split <;> omega
omit W in
theorem w_one (c : Int) : ∀ (l : List D3) (i : Nat), (wsF c i l).length ≤ usesN l
  | [], i => by simp [wsF, usesN]
  | d :: l, i => by
    have h := w_one c l (i + 1)
    rw [wsF_cons]
    unfold usesN us
    cases hw : wr d with
    | false => simp only [Bool.false_eq_true, false_and, if_false]; omega
    | true =>
      simp only [true_and, Bool.or_true, if_true]
      split <;> omega
omit W in
theorem usesN_app : ∀ a b : List D3, usesN (a ++ b) = usesN a + usesN b
  | [], b => by simp [usesN]
  | d :: a, b => by
    have := usesN_app a b
    simp only [List.cons_append, usesN, this]
    omega
omit W in
theorem us9 {d : D3} (h : d.1 = 9) : us d = false := by
  unfold us rd wr
  rw [h]
  rfl
omit W in
theorem usesN_evqT (t : Nat) : ∀ (l : List D3) (i : Nat), usesN ((evqT t i l).map Prod.snd) = usesN l
  | [], i => rfl
  | d :: l, i => by
    have h := usesN_evqT t l (i + 1)
    simp only [evqT, List.map_cons, List.map_append, usesN, usesN_app, h]
    by_cases h9 : d.1 = 9
    · simp [usesN, us9 h9, h9]
    · simp [usesN, h9]
omit W in
theorem usesN_evqP : ∀ (p : List (List D3)) (t : Nat), usesN ((evqP t p).map Prod.snd) = usesAll p
  | [], t => rfl
  | s :: p, t => by
    have h := usesN_evqP p (t + 1)
    simp only [evqP, List.map_append, usesN_app, usesN_evqT, h, usesAll]
omit W in
theorem uses6 {p : List (List D3)} (h : progOk p = true) : usesN (dsP p) ≤ 6 := by
  unfold dsP
  rw [usesN_evqP]
  exact (progOkIff.mp h).2.2.2
omit W in
theorem froms_few {p : List (List D3)} (h : progOk p = true) : (fm (dsP p) (dsP p) []).length ≤ 117649 := by
  have h6 := uses6 h
  have h1 := fm_card (dsP p) 6 (fun c => Nat.le_trans (w_one c (dsP p) 0) h6) (dsP p) []
  have h2 := w_three (dsP p) 0
  have h3 : (1 + 6) ^ rdN (dsP p) ≤ (1 + 6) ^ 6 := Nat.pow_le_pow_right (by omega) (by omega)
  have h4 : (1 + 6) ^ 6 = 117649 := rfl
  omega
omit W in
theorem rowsC_few {ds : List D3} (h6 : usesN ds ≤ 6) (c : Nat) : (rowsC ds c).length ≤ 6 ^ (wsF c 0 ds).length :=
  Nat.le_trans (pm_card _ _ _) (Nat.pow_le_pow_left (Nat.le_trans (w_one c ds 0) h6) _)
omit W in
theorem rows_few {ds : List D3} (h6 : usesN ds ≤ 6) : (rowsC ds 0).length * (rowsC ds 1).length * (rowsC ds 2).length ≤ 46656 := by
  have h := w_three ds 0
  have a := Nat.mul_le_mul (Nat.mul_le_mul (rowsC_few h6 0) (rowsC_few h6 1)) (rowsC_few h6 2)
  rw [← Nat.pow_add, ← Nat.pow_add] at a
  refine Nat.le_trans a (Nat.le_trans (Nat.pow_le_pow_right (by omega) (show _ ≤ 6 from ?_)) (Nat.le_of_eq rfl))
  have e0 : (((0 : Nat) : Int)) = 0 := rfl
  have e1 : (((1 : Nat) : Int)) = 1 := rfl
  have e2 : (((2 : Nat) : Int)) = 2 := rfl
  rw [e0, e1, e2]
  omega
omit W in
theorem pos_or {a b : Nat} (h : a * b ≤ 46656) (hb : 0 < b) : a ≤ 46656 := by
  have := Nat.le_mul_of_pos_right a hb
  omega
theorem L77_0_step (n : Nat) (hn : 1048576 + 2000 < n) (m c : Nat) (hc : c < 3) (o : List (List (List Int))) (hr : (rowsC ds c).length ≤ 46656) (ho : o.length ≤ 46656) (hx : ∀ x ∈ o, x.length ≤ 1000) : L77_0 n (m + 1) evs (p, ()) o (c : Int) = L77_0 n m evs (p, ()) (ext ds c o) ((c + 1 : Nat) : Int) := by
  have hl := W.len
  have hs := W.small
  have hwl := wsF_len (c : Int) ds 0
  rw [L77_0]
  rw [decide_eq_true (by omega), cond_true]
  simp only
  have hm : o.length * (rowsC ds c).length ≤ 46656 * 46656 := Nat.mul_le_mul ho hr
  have h7 := F119_eq (wsF c 0 ds) (by omega) (wsF c 0 ds).length n [] [] (by omega) (by simp) (by
    have : (pm (wsF c 0 ds) (wsF c 0 ds).length []).length ≤ 46656 := hr
    simp; omega)
  rw [F105_eq W n (by omega), Option.bind_some]
  simp only
  rw [h7, Option.bind_some]
  simp only
  have h8 := L77_2_eq n evs p o (c : Int) (rowsC ds c) (by omega) hx (by omega) (by omega) o.length n 0 [] (by omega) (by omega) (by simp; omega)
  rw [show ((0 : Nat) : Int) = 0 from rfl, List.drop_zero] at h8
  have h8' : L77_2 n n evs (p, ()) o (c : Int) (pm (wsF c 0 ds) (wsF c 0 ds).length []) [] 0 = _ := h8
  rw [List.nil_append, h8']
  simp only
  rw [w64s (k := 0) (by omega), List.nil_append]
  rfl
theorem F77_eq (n : Nat) (hn : 1048576 + 2000 < n) (h6 : usesN ds ≤ 6) : F77 n p evs = some (ordsF ds, ()) ∧ (ordsF ds).length ≤ 46656 ∧ ∀ x ∈ ordsF ds, x.length = 3 ∧ ∀ r ∈ x, r.length ≤ 1000 := by
  have hl := W.len
  have hs := W.small
  have hrf := rows_few h6
  have hp : ∀ c : Nat, (rowsC ds c).length ≤ 46656 := fun c => Nat.le_trans (rowsC_few h6 c) (Nat.le_trans (Nat.pow_le_pow_right (by omega) (show _ ≤ 6 from Nat.le_trans (w_one c ds 0) h6)) (Nat.le_of_eq rfl))
  have x0 : ∀ x ∈ ([[]] : List (List (List Int))), x.length = 0 ∧ ∀ r ∈ x, r.length ≤ 1000 := fun x hx => by
    rw [List.mem_singleton.mp hx]; exact ⟨rfl, fun _ h => by cases h⟩
  have x1 := ext_row ds 0 0 [[]] x0 (by omega)
  have x2 := ext_row ds 1 1 _ x1 (by omega)
  have x3 := ext_row ds 2 2 _ x2 (by omega)
  have l1 := ext_len ds 0 [[]]
  have l2 := ext_len ds 1 (ext ds 0 [[]])
  have l3 := ext_len ds 2 (ext ds 1 (ext ds 0 [[]]))
  rw [l1, List.length_singleton, Nat.one_mul] at l2
  rw [l2] at l3
  rw [List.length_singleton, Nat.one_mul] at l1
  have h01 : (rowsC ds 0).length * (rowsC ds 1).length ≤ 46656 := by
    have h := w_three ds 0
    have a := Nat.mul_le_mul (rowsC_few h6 0) (rowsC_few h6 1)
    rw [← Nat.pow_add] at a
    refine Nat.le_trans a (Nat.le_trans (Nat.pow_le_pow_right (by omega) (show _ ≤ 6 from ?_)) (Nat.le_of_eq rfl))
    have e0 : (((0 : Nat) : Int)) = 0 := rfl
    have e1 : (((1 : Nat) : Int)) = 1 := rfl
    rw [e0, e1]
    omega
  refine ⟨?_, by rw [ordsF, l3]; exact hrf, x3⟩
  obtain ⟨m, rfl⟩ : ∃ m, n = m + 4 := ⟨n - 4, by omega⟩
  unfold F77
  have s0 := L77_0_step W (m + 4) hn (m + 3) 0 (by omega) [[]] (hp 0) (by simp) (fun x hx => by have := (x0 x hx).1; omega)
  have s1 := L77_0_step W (m + 4) hn (m + 2) 1 (by omega) _ (hp 1) (by rw [l1]; exact hp 0) (fun x hx => by have := (x1 x hx).1; omega)
  have s2 := L77_0_step W (m + 4) hn (m + 1) 2 (by omega) _ (hp 2) (by rw [l2]; exact h01) (fun x hx => by have := (x2 x hx).1; omega)
  have s3 : L77_0 (m + 4) (m + 1) evs (p, ()) (ordsF ds) ((3 : Nat) : Int) = some (.inl (ordsF ds, ())) := by
    rw [L77_0]
    rfl
  rw [show (0 : Int) = ((0 : Nat) : Int) from rfl, s0, s1, s2]
  show (match L77_0 (m + 4) (m + 1) evs (p, ()) (ordsF ds) ((3 : Nat) : Int) with | none => none | some (Sum.inl v24) => some (v24.fst, ())) = _
  rw [s3]
end

/-! ### All ways -/
def FitA (ds : List D3) (acc : List Int) : Prop := ∀ a, a < acc.length → rd (ds.getD a D0) = true → acc.getD a 0 = -1 ∨ ∃ b : Nat, b < ds.length ∧ acc.getD a 0 = b ∧ wr (ds.getD b D0) = true
theorem FitA.snoc {ds : List D3} {acc : List Int} (h : FitA ds acc) {y : Int} (hy : rd (ds.getD acc.length D0) = true → y = -1 ∨ ∃ b : Nat, b < ds.length ∧ y = b ∧ wr (ds.getD b D0) = true) : FitA ds (acc ++ [y]) := by
  intro a ha hr
  by_cases e : a < acc.length
  · have e1 : (acc ++ [y]).getD a 0 = acc.getD a 0 := by
      rw [List.getD_eq_getElem?_getD, List.getD_eq_getElem?_getD, List.getElem?_append_left e]
    rw [e1]
    exact h a e hr
  · have : a = acc.length := by simp at ha; omega
    subst this
    have e1 : (acc ++ [y]).getD acc.length 0 = y := by
      rw [List.getD_eq_getElem?_getD, List.getElem?_append_right (by omega)]
      simp
    rw [e1]
    exact hy hr
theorem fm_fit (ds : List D3) : ∀ (l : List D3) (acc x : List Int), ds.drop acc.length = l → FitA ds acc → x ∈ fm ds l acc → FitA ds x
  | [], acc, x, hd, ha, h => by simp [fm] at h; rw [h]; exact ha
  | d :: l, acc, x, hd, ha, h => by
    have hlt : acc.length < ds.length := by
      have := congrArg List.length hd
      simp at this
      omega
    have h9 := getD_drop ds acc.length D0 hlt
    rw [hd] at h9
    injection h9 with hd0 hd1
    have hd1 : ∀ y : Int, ds.drop (acc ++ [y]).length = l := fun y => by simp [hd1]
    unfold fm at h
    split at h
    · rcases List.mem_append.mp h with h | h
      · exact fm_fit ds l _ x (hd1 _) (ha.snoc fun _ => .inl rfl) h
      · obtain ⟨y, hy, h⟩ := List.mem_flatMap.mp h
        refine fm_fit ds l _ x (hd1 _) (ha.snoc fun _ => .inr ?_) h
        obtain ⟨k, h1, h2, h3, _⟩ := wsF_ge _ _ _ _ hy
        exact ⟨k, h2, by rw [h1]; congr 1; omega, h3⟩
    · rename_i hr
      exact fm_fit ds l _ x (hd1 _) (ha.snoc fun h0 => absurd (by rw [hd0]; exact h0) hr) h
theorem fm_Fit {ds : List D3} {x : List Int} (h : x ∈ fm ds ds []) : Fit ds x :=
  ⟨by simpa using fm_len ds ds [] x h, fun a ha => fm_fit ds ds [] x rfl (fun a ha => by cases ha) h a (by rw [fm_len ds ds [] x h]; simpa using ha)⟩

def waysF (ds : List D3) (f : List Int) (os : List (List (List Int))) : List Xn := os.flatMap fun o => if allOk ds f ds.length 0 = true then [(f, o)] else []
def execs (p : List (List D3)) : List Xn := (fm (dsP p) (dsP p) []).flatMap fun f => waysF (dsP p) f (ordsF (dsP p))
theorem L35_4_eq (n : Nat) (y : List (List D3)) (al : List Xn) (ev : List E3) (fs : List (List Int)) (os : List (List (List Int))) (a : Int) (j : Nat) (hj : j < os.length) (hl : (os.getD j []).length ≤ 1000) (hr : ∀ r ∈ os.getD j [], r.length ≤ 1000) (f : List Int) : ∀ (k m c : Nat) (acc : List (List Int)), c + k = (os.getD j []).length → k < m → acc.length + k ≤ 1000 →
    L35_4 n m (y, ()) al ev fs os a (j : Int) (f, acc, ()) (c : Int) = some (.inl ((y, ()), al, ev, fs, os, a, (j : Int), (f, acc ++ (os.getD j []).drop c, ()), ()))
  | 0, m + 1, c, acc, hc, hm, hB => by
    have : c = (os.getD j []).length := by omega
    unfold L35_4
    simp only [lt_ii, le_0i, hj, Int.toNat_natCast, if_true]
    rw [decide_eq_false (by omega), cond_false, List.drop_of_length_le (by omega), List.append_nil]
  | k + 1, m + 1, c, acc, hc, hm, hB => by
    have hlt : c < (os.getD j []).length := by omega
    have h9 := hr _ (getD_mem (os.getD j []) c [] hlt)
    unfold L35_4
    simp only [lt_ii, le_0i, hj, hlt, Int.toNat_natCast, if_true, decide_true, cond_true]
    rw [if_pos (by omega), if_pos (by simp only [List.length_cons, List.length_nil]; omega), w64s (k := k) (by omega), L35_4_eq n y al ev fs os a j hj hl hr f k m (c + 1) _ (by omega) (by omega) (by simp only [List.length_append, List.length_cons, List.length_nil]; omega), List.append_assoc, getD_drop (os.getD j []) c [] hlt]
    rfl
section
variable {p : List (List D3)} (hp : progOk p = true)
include hp
theorem L35_2_eq (n : Nat) (hn : 1048576 < n) (fs : List (List Int)) (i : Nat) (hi : i < fs.length) (hf : Fit (dsP p) (fs.getD i [])) (os : List (List (List Int))) (ho : ∀ x ∈ os, x.length = 3 ∧ ∀ r ∈ x, r.length ≤ 1000) (hol : os.length ≤ 1000000) : ∀ (k m j : Nat) (al : List Xn), j + k = os.length → k < m → al.length + k ≤ 100000000000 →
    L35_2 n m (p, ()) al (evP 0 p) fs os (i : Int) (j : Int) = some (.inl ((p, ()), al ++ waysF (dsP p) (fs.getD i []) (os.drop j), evP 0 p, fs, os, (i : Int), ()))
  | 0, m + 1, j, al, hj, hm, hB => by
    have : j = os.length := by omega
    subst this
    unfold L35_2 waysF
    simp
  | k + 1, m + 1, j, al, hj, hm, hB => by
    have hlt : j < os.length := by omega
    have hds := (evs_ok hp).len
    have hsm := (evs_ok hp).small
    obtain ⟨h3, hr⟩ := ho _ (getD_mem os j [] hlt)
    have hfl := hf.1
    unfold L35_2
    simp only [lt_ii, le_0i, hi, hlt, Int.toNat_natCast, if_true, decide_true, cond_true]
    have h4 := L35_4_eq n p al (evP 0 p) fs os (i : Int) j hlt (by omega) hr (fs.getD i []) (os.getD j []).length n 0 [] (by omega) (by omega) (by rw [List.length_nil]; omega)
    rw [show ((0 : Nat) : Int) = 0 from rfl, List.drop_zero, List.nil_append] at h4
    rw [if_pos (by omega), h4]
    simp only
    rw [F67_eq hp (x := (fs.getD i [], os.getD j [])) hf n hn, Option.bind_some]
    unfold waysF
    rw [getD_drop os j [] hlt, List.flatMap_cons]
    simp only
    cases hk : allOk (dsP p) (fs.getD i []) (dsP p).length 0
    · simp only [cond_false, Bool.false_eq_true, if_false, List.nil_append]
      unfold J35_12
      simp only
      rw [w64s (k := k) (by omega), L35_2_eq n hn fs i hi hf os ho hol k m (j + 1) al (by omega) (by omega) (by omega)]
      unfold waysF
      simp only [hk, Bool.false_eq_true, if_false]
    · simp only [cond_true, if_true]
      rw [if_pos (by simp; omega)]
      unfold J35_12
      simp only
      rw [w64s (k := k) (by omega), L35_2_eq n hn fs i hi hf os ho hol k m (j + 1) _ (by omega) (by omega) (by simp; omega), List.append_assoc]
      unfold waysF
      simp only [hk, if_true]
omit hp in
theorem ways_len (ds : List D3) (f : List Int) (os : List (List (List Int))) : (waysF ds f os).length ≤ os.length := by
  have := flat_len (fun o => if allOk ds f ds.length 0 = true then [((f, o) : Xn)] else []) 1 os fun x _ => by split <;> simp
  unfold waysF
  omega
theorem L35_0_eq (n : Nat) (hn : 1048576 < n) (fs : List (List Int)) (hf : ∀ f ∈ fs, Fit (dsP p) f) (hfl : fs.length ≤ 1000000) (os : List (List (List Int))) (ho : ∀ x ∈ os, x.length = 3 ∧ ∀ r ∈ x, r.length ≤ 1000) (hol : os.length ≤ 46656) : ∀ (k m i : Nat) (al : List Xn), i + k = fs.length → k < m → al.length + k * os.length ≤ 90000000000 →
    L35_0 n m (p, ()) al (evP 0 p) fs os (i : Int) = some (.inl (al ++ (fs.drop i).flatMap (fun f => waysF (dsP p) f os), ()))
  | 0, m + 1, i, al, hi, hm, hB => by
    have : i = fs.length := by omega
    subst this
    unfold L35_0
    simp
  | k + 1, m + 1, i, al, hi, hm, hB => by
    have hlt : i < fs.length := by omega
    rw [Nat.succ_mul] at hB
    have h2 := L35_2_eq hp n hn fs i hlt (hf _ (getD_mem fs i [] hlt)) os ho (by omega) os.length n 0 al (by omega) (by omega) (by omega)
    rw [show ((0 : Nat) : Int) = 0 from rfl, List.drop_zero] at h2
    have h5 := ways_len (dsP p) (fs.getD i []) os
    unfold L35_0
    simp only [lt_ii, hlt, decide_true, cond_true]
    rw [h2]
    simp only
    rw [w64s (k := k) (by omega), L35_0_eq n hn fs hf hfl os ho hol k m (i + 1) _ (by omega) (by omega) (by rw [List.length_append]; omega), List.append_assoc, getD_drop fs i [] hlt, List.flatMap_cons]
end
theorem F35_eq (n : Nat) (hn : 1048576 + 2000 < n) (p : List (List D3)) : F35 n p = some (if progOk p then execs p else [], ()) := by
  unfold F35
  rw [F36_eq n (by omega) p, Option.bind_some]
  cases hp : progOk p
  · rfl
  · have W := evs_ok hp
    have hl := W.len
    have hs := W.small
    have hff := froms_few hp
    obtain ⟨g1, g2, g3⟩ := F77_eq W n hn (uses6 hp)
    simp only [Bool.not_true, cond_false]
    rw [F65_eq n (by omega) p, hp]
    simp only [if_true, Option.bind_some]
    rw [F76_eq W (dsP p) n [] [] (by omega) (by simp) (by simp) (by simp; omega)]
    simp only [Option.bind_some, List.nil_append]
    rw [g1]
    simp only [Option.bind_some]
    have hmul : (fm (dsP p) (dsP p) []).length * (ordsF (dsP p)).length ≤ 117649 * 46656 := Nat.mul_le_mul hff g2
    have h0 := L35_0_eq hp n (by omega) (fm (dsP p) (dsP p) []) (fun f h => fm_Fit h) (by omega) (ordsF (dsP p)) g3 g2 (fm (dsP p) (dsP p) []).length n 0 [] (by omega) (by omega) (by simp; omega)
    rw [show ((0 : Nat) : Int) = 0 from rfl, List.drop_zero, List.nil_append] at h0
    rw [h0]
    rfl
/-- Each is small. -/
theorem execs_small {p : List (List D3)} (hp : progOk p = true) : (execs p).length ≤ 5488831744 + 1000000000 ∧ ∀ x ∈ execs p, x.1.length ≤ 1000 ∧ x.2.length = 3 ∧ ∀ r ∈ x.2, r.length ≤ 1000 := by
  have W := evs_ok hp
  have hl := W.len
  have hs := W.small
  have hff := froms_few hp
  obtain ⟨_, g2, g3⟩ := F77_eq W 2000000 (by omega) (uses6 hp)
  refine ⟨?_, fun x hx => ?_⟩
  · have h1 := flat_len (fun f => waysF (dsP p) f (ordsF (dsP p))) 46656 (fm (dsP p) (dsP p) []) fun f _ => Nat.le_trans (ways_len _ _ _) g2
    unfold execs
    omega
  · obtain ⟨f, h1, h2⟩ := List.mem_flatMap.mp hx
    obtain ⟨o, h3, h4⟩ := List.mem_flatMap.mp h2
    split at h4
    · have e := List.mem_singleton.mp h4
      rw [e]
      obtain ⟨q1, q2⟩ := g3 o h3
      have := (fm_Fit h1).1
      exact ⟨by show f.length ≤ 1000; omega, q1, q2⟩
    · cases h4
end Go.Proofs.Ytdacfaincamliaa.Ev
