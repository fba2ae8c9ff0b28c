/- All orders of a list, told in two ways; and that what is told fits. Conditions: those of each theorem. -/
import Derived.Test.YtdacfaincamliaaQO
namespace Go.Proofs.Ytdacfaincamliaa.Ev
open Go

/-- All orders, the first element taken out each time. -/
def pmF : Nat → List Int → List (List Int)
  | 0, _ => [[]]
  | k + 1, l => if l.length = 0 then [[]] else (List.range l.length).flatMap fun i => (pmF k (l.eraseIdx i)).map fun r => l.getD i 0 :: r
theorem pmF_len : ∀ (k : Nat) (l : List Int), l.length ≤ k → ∀ r, r ∈ pmF k l → r.length = l.length
  | 0, l, h, r, hr => by
    have : r = [] := by simpa [pmF] using hr
    rw [this]
    simp only [List.length_nil]
    omega
  | k + 1, l, h, r, hr => by
    unfold pmF at hr
    split at hr
    · rename_i h0
      have : r = [] := by simpa using hr
      rw [this, h0]
      rfl
    · obtain ⟨i, hi, hr⟩ := List.mem_flatMap.mp hr
      obtain ⟨q, hq, e⟩ := List.mem_map.mp hr
      have hi := List.mem_range.mp hi
      have hl : (l.eraseIdx i).length = l.length - 1 := by rw [List.length_eraseIdx, if_pos hi]
      have := pmF_len k (l.eraseIdx i) (by omega) q hq
      rw [← e, List.length_cons]
      omega
theorem filter_ne {l : List Int} (hn : l.Nodup) {i : Nat} (hi : i < l.length) : l.filter (fun y => decide (y ≠ l.getD i 0)) = l.eraseIdx i := by
  induction l generalizing i with
  | nil => simp at hi
  | cons a l ih =>
    have hn2 := List.nodup_cons.mp hn
    cases i with
    | zero =>
      rw [List.getD_cons_zero, List.eraseIdx_cons_zero, List.filter_cons, decide_eq_false (by simp), if_neg (by decide)]
      refine List.filter_eq_self.mpr fun y hy => decide_eq_true fun e => hn2.1 (e ▸ hy)
    | succ i =>
      have hi' : i < l.length := by simpa using hi
      rw [List.getD_cons_succ, List.eraseIdx_cons_succ, List.filter_cons, decide_eq_true (show a ≠ l.getD i 0 from fun e => hn2.1 (e ▸ getD_mem l i 0 hi')), if_pos rfl, ih hn2.2 hi']
theorem range_map {l : List Int} : (List.range l.length).map (fun i => l.getD i 0) = l := by
  apply List.ext_getElem?
  intro j
  rw [List.getElem?_map]
  by_cases hj : j < l.length
  · rw [List.getElem?_range hj, Option.map_some, List.getElem?_eq_getElem hj, List.getD_eq_getElem?_getD, List.getElem?_eq_getElem hj]
    rfl
  · rw [List.getElem?_eq_none (by simpa using hj), List.getElem?_eq_none (by omega)]
    rfl
theorem flatMap_range (l : List Int) (f : Int → List (List Int)) : (List.range l.length).flatMap (fun i => f (l.getD i 0)) = l.flatMap f := by
  conv => rhs; rw [← range_map (l := l)]
  rw [List.flatMap_map]
theorem flat_congr {α β : Type} {f g : α → List β} : ∀ {l : List α}, (∀ x ∈ l, f x = g x) → l.flatMap f = l.flatMap g
  | [], _ => rfl
  | x :: l, h => by rw [List.flatMap_cons, List.flatMap_cons, h x (by simp), flat_congr fun y hy => h y (by simp [hy])]
theorem flat_filter {α β : Type} (p : α → Bool) (f : α → List β) : ∀ l : List α, l.flatMap (fun x => if p x = true then f x else []) = (l.filter p).flatMap f
  | [] => rfl
  | x :: l => by
    rw [List.flatMap_cons, flat_filter p f l, List.filter_cons]
    by_cases h : p x = true
    · rw [if_pos h, if_pos h, List.flatMap_cons]
    · rw [if_neg h, if_neg h, List.nil_append]
/-- With an element of its own for each place: by the elements. -/
theorem pmF_el {k : Nat} {l : List Int} (hn : l.Nodup) (h0 : l.length ≠ 0) : pmF (k + 1) l = l.flatMap fun x => (pmF k (l.filter fun y => decide (y ≠ x))).map fun r => x :: r := by
  rw [pmF, if_neg h0, ← flatMap_range]
  refine flat_congr fun i hi => ?_
  rw [filter_ne hn (List.mem_range.mp hi)]
theorem pm_pmF (ws : List Int) (hn : ws.Nodup) : ∀ (k : Nat) (acc : List Int), (ws.filter fun y => decide (y ∉ acc)).length = k → pm ws k acc = (pmF k (ws.filter fun y => decide (y ∉ acc))).map fun r => acc ++ r
  | 0, acc, h => by simp [pm, pmF]
  | k + 1, acc, h => by
    have hnf : (ws.filter fun y => decide (y ∉ acc)).Nodup := hn.filter _
    rw [pmF_el hnf (by omega), pm, List.map_flatMap]
    have e : (fun x => if x ∈ acc then [] else pm ws k (acc ++ [x])) = fun x => if (fun y => decide (y ∉ acc)) x = true then pm ws k (acc ++ [x]) else [] := by
      funext x
      by_cases hx : x ∈ acc
      · simp [hx]
      · simp [hx]
    rw [e, flat_filter]
    refine flat_congr fun x hx => ?_
    have hx2 : x ∉ acc := by simpa using (List.mem_filter.mp hx).2
    have e2 : (ws.filter fun y => decide (y ∉ acc ++ [x])) = (ws.filter fun y => decide (y ∉ acc)).filter fun y => decide (y ≠ x) := by
      rw [List.filter_filter]
      refine List.filter_congr fun y _ => ?_
      by_cases h1 : y ∈ acc
      · simp [h1]
      · by_cases h2 : y = x <;> simp [h1, h2]
    have hl : ((ws.filter fun y => decide (y ∉ acc)).filter fun y => decide (y ≠ x)).length = k := by
      obtain ⟨i, hi, rfl⟩ := List.getElem_of_mem hx
      have e3 : (ws.filter fun y => decide (y ∉ acc))[i] = (ws.filter fun y => decide (y ∉ acc)).getD i 0 := by
        rw [List.getD_eq_getElem?_getD, List.getElem?_eq_getElem hi]; rfl
      rw [e3, filter_ne hnf hi, List.length_eraseIdx, if_pos hi]
      omega
    rw [pm_pmF ws hn k (acc ++ [x]) (by rw [e2]; exact hl), e2, List.map_map]
    refine List.map_congr_left fun r _ => ?_
    simp
theorem pm_eq (ws : List Int) (hn : ws.Nodup) : pm ws ws.length [] = pmF ws.length ws := by
  have e : (ws.filter fun y => decide (y ∉ ([] : List Int))) = ws := List.filter_eq_self.mpr fun y _ => by simp
  have h := pm_pmF ws hn ws.length [] (by rw [e])
  rw [h, e]
  simp
theorem pm_all (ws : List Int) : ∀ (k : Nat) (acc x : List Int), acc.Nodup → (∀ y ∈ acc, y ∈ ws) → x ∈ pm ws k acc → x.Nodup ∧ ∀ y ∈ x, y ∈ ws
  | 0, acc, x, h1, h2, hx => by
    have : x = acc := by simpa [pm] using hx
    rw [this]
    exact ⟨h1, h2⟩
  | k + 1, acc, x, h1, h2, hx => by
    unfold pm at hx
    obtain ⟨y, hy, hx⟩ := List.mem_flatMap.mp hx
    split at hx
    · cases hx
    · rename_i hn
      refine pm_all ws k (acc ++ [y]) x ?_ ?_ hx
      · refine List.nodup_append.mpr ⟨h1, by simp, fun a ha b hb => ?_⟩
        have := List.mem_singleton.mp hb
        intro e
        exact hn (by rw [← this, ← e]; exact ha)
      · intro z hz
        rcases List.mem_append.mp hz with hz | hz
        · exact h2 z hz
        · rw [List.mem_singleton.mp hz]; exact hy
theorem wsF_nodup (c : Int) (l : List D3) (i : Nat) : (wsF c i l).Nodup := (wsF_lt c l i).imp fun h => by omega
/-- So many, each once, all of them: all are there. -/
theorem sub_all : ∀ (x ws : List Int), x.Nodup → (∀ y ∈ x, y ∈ ws) → ws.length ≤ x.length → ∀ y ∈ ws, y ∈ x
  | [], ws, _, _, hl, y, hy => by
    have : ws = [] := List.eq_nil_of_length_eq_zero (by simpa using hl)
    rw [this] at hy
    cases hy
  | a :: x, ws, hn, hs, hl, y, hy => by
    have hn2 := List.nodup_cons.mp hn
    by_cases e : y = a
    · rw [e]; exact List.mem_cons_self
    · refine List.mem_cons_of_mem _ (sub_all x (ws.erase a) hn2.2 (fun z hz => ?_) ?_ y ((List.mem_erase_of_ne e).mpr hy))
      · exact (List.mem_erase_of_ne (fun e : z = a => hn2.1 (e ▸ hz))).mpr (hs z (List.mem_cons_of_mem _ hz))
      · rw [List.length_erase_of_mem (hs a List.mem_cons_self)]
        simp only [List.length_cons] at hl
        omega
theorem rowsC_rowB (ds : List D3) (c : Nat) {r : List Int} (h : r ∈ rowsC ds c) : rowB (wsF c 0 ds) r = true := by
  have h1 := pm_len _ _ _ _ h
  obtain ⟨h2, h3⟩ := pm_all _ _ _ _ (by simp) (by simp) h
  rw [rowB_def, Bool.and_eq_true, decide_eq_true_eq, List.all_eq_true]
  refine ⟨by simpa using h1.symm, fun y hy => decide_eq_true ?_⟩
  exact sub_all r _ h2 h3 (by rw [h1]; simp) y hy
theorem ordsF_rowsB (ds : List D3) {o : List (List Int)} (h : o ∈ ordsF ds) : o.length = 3 ∧ rowsB ds o 3 0 = true := by
  unfold ordsF ext at h
  obtain ⟨o2, h2, h⟩ := List.mem_flatMap.mp h
  obtain ⟨r2, k2, rfl⟩ := List.mem_map.mp h
  obtain ⟨o1, h1, h⟩ := List.mem_flatMap.mp h2
  obtain ⟨r1, k1, rfl⟩ := List.mem_map.mp h
  obtain ⟨o0, h0, h⟩ := List.mem_flatMap.mp h1
  obtain ⟨r0, k0, rfl⟩ := List.mem_map.mp h
  obtain rfl := List.mem_singleton.mp h0
  refine ⟨rfl, ?_⟩
  show (rowB (wsF ((0 : Nat) : Int) 0 ds) r0 && (rowB (wsF ((1 : Nat) : Int) 0 ds) r1 && (rowB (wsF ((2 : Nat) : Int) 0 ds) r2 && true))) = true
  rw [rowsC_rowB ds 0 k0, rowsC_rowB ds 1 k1, rowsC_rowB ds 2 k2]
  rfl
theorem fm_frB (ds : List D3) : ∀ (l : List D3) (acc x : List Int), x ∈ fm ds l acc → ∃ r, x = acc ++ r ∧ frB (memW ds) l r = true
  | [], acc, x, h => ⟨[], by simpa [fm] using h, rfl⟩
  | d :: l, acc, x, h => by
    unfold fm at h
    split at h
    · rename_i hr
      rcases List.mem_append.mp h with h | h
      · obtain ⟨r, rfl, h2⟩ := fm_frB ds l _ x h
        refine ⟨-1 :: r, by simp, ?_⟩
        rw [frB_cons, hr, if_pos rfl, h2]
        rfl
      · obtain ⟨y, hy, h⟩ := List.mem_flatMap.mp h
        obtain ⟨r, rfl, h2⟩ := fm_frB ds l _ x h
        refine ⟨y :: r, by simp, ?_⟩
        rw [frB_cons, hr, if_pos rfl, h2, show memW ds d.2.1 y = true from decide_eq_true hy, Bool.or_true]
        rfl
    · rename_i hr
      obtain ⟨r, rfl, h2⟩ := fm_frB ds l _ x h
      refine ⟨-2 :: r, by simp, ?_⟩
      rw [frB_cons, if_neg hr, h2]
      rfl
/-- What is told so fits. -/
theorem ways_form {ds : List D3} (hf : ∀ d, d ∈ ds → formed d = true) {f : List Int} {o : List (List Int)} (h1 : f ∈ fm ds ds []) (h2 : o ∈ ordsF ds) : formB ds (f, o) = true := by
  rw [formB_eq hf]
  obtain ⟨r, e, h3⟩ := fm_frB ds ds [] f h1
  obtain ⟨h4, h5⟩ := ordsF_rowsB ds h2
  rw [List.nil_append] at e
  subst e
  simp only [Bool.and_eq_true, decide_eq_true_eq]
  exact ⟨by simpa using fm_len ds ds [] f h1, h4, h3, h5⟩
/-- The choices of an event. -/
def chs (ds : List D3) (d : D3) : List Int := if rd d = true then -1 :: wsF d.2.1 0 ds else [-2]
theorem fm_cons (ds : List D3) (d : D3) (l : List D3) (acc : List Int) : fm ds (d :: l) acc = (chs ds d).flatMap fun x => fm ds l (acc ++ [x]) := by
  rw [fm]
  unfold chs
  split
  · rw [List.flatMap_cons]
  · simp
end Go.Proofs.Ytdacfaincamliaa.Ev
