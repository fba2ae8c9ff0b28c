/- Each way is told once, and is one; there is one of each program. Conditions: those of each theorem. -/
import Derived.Test.YtdacfaincamliaaQJ
namespace Go.Proofs.Ytdacfaincamliaa.Ev
open Go

theorem nodup_flat {α β : Type} (f : α → List β) : ∀ {l : List α}, l.Nodup → (∀ x ∈ l, (f x).Nodup) → (∀ x ∈ l, ∀ y ∈ l, ∀ z, z ∈ f x → z ∈ f y → x = y) → (l.flatMap f).Nodup
  | [], _, _, _ => by simp
  | x :: l, hn, h1, h2 => by
    have hn2 := List.nodup_cons.mp hn
    rw [List.flatMap_cons]
    refine List.nodup_append.mpr ⟨h1 x (by simp), nodup_flat f hn2.2 (fun y hy => h1 y (by simp [hy])) (fun a ha b hb z hz hz' => h2 a (by simp [ha]) b (by simp [hb]) z hz hz'), fun a ha b hb e => ?_⟩
    obtain ⟨y, hy, hb⟩ := List.mem_flatMap.mp hb
    subst e
    have := h2 x (by simp) y (by simp [hy]) a ha hb
    exact hn2.1 (this ▸ hy)
theorem chs_nodup (ds : List D3) (d : D3) : (chs ds d).Nodup := by
  unfold chs
  split
  · refine List.nodup_cons.mpr ⟨fun h => ?_, wsF_nodup _ _ _⟩
    obtain ⟨k, h1, _⟩ := wsF_ge _ _ _ _ h
    omega
  · simp
theorem fm_pre (ds : List D3) : ∀ (l : List D3) (acc x : List Int), x ∈ fm ds l acc → ∃ r, x = acc ++ r := fun l acc x h => by
  obtain ⟨r, e, _⟩ := fm_frB ds l acc x h
  exact ⟨r, e⟩
theorem pre_eq {acc r r' : List Int} {x y : Int} (h : acc ++ [x] ++ r = acc ++ [y] ++ r') : x = y := by
  rw [List.append_assoc, List.append_assoc] at h
  have := List.append_cancel_left h
  injection this
theorem fm_nodup (ds : List D3) : ∀ (l : List D3) (acc : List Int), (fm ds l acc).Nodup
  | [], acc => by simp [fm]
  | d :: l, acc => by
    rw [fm_cons]
    refine nodup_flat _ (chs_nodup ds d) (fun x _ => fm_nodup ds l _) fun x _ y _ z hx hy => ?_
    obtain ⟨r, e⟩ := fm_pre ds l _ z hx
    obtain ⟨r', e'⟩ := fm_pre ds l _ z hy
    exact pre_eq (e.symm.trans e')
theorem pm_pre (ws : List Int) : ∀ (k : Nat) (acc x : List Int), x ∈ pm ws k acc → ∃ r, x = acc ++ r
  | 0, acc, x, h => ⟨[], by simpa [pm] using h⟩
  | k + 1, acc, x, h => by
    unfold pm at h
    obtain ⟨y, _, h⟩ := List.mem_flatMap.mp h
    split at h
    · cases h
    · obtain ⟨r, e⟩ := pm_pre ws k _ x h
      exact ⟨y :: r, by rw [e, List.append_assoc]; rfl⟩
theorem pm_nodup (ws : List Int) (hn : ws.Nodup) : ∀ (k : Nat) (acc : List Int), (pm ws k acc).Nodup
  | 0, acc => by simp [pm]
  | k + 1, acc => by
    rw [pm]
    refine nodup_flat _ hn (fun x _ => ?_) fun x _ y _ z hx hy => ?_
    · split
      · simp
      · exact pm_nodup ws hn k _
    · split at hx
      · cases hx
      · split at hy
        · cases hy
        · obtain ⟨r, e⟩ := pm_pre ws k _ z hx
          obtain ⟨r', e'⟩ := pm_pre ws k _ z hy
          exact pre_eq (e.symm.trans e')
theorem rowsC_nodup (ds : List D3) (c : Nat) : (rowsC ds c).Nodup := pm_nodup _ (wsF_nodup _ _ _) _ _
theorem ext_nodup (ds : List D3) (c : Nat) {o : List (List (List Int))} (h : o.Nodup) : (ext ds c o).Nodup := by
  unfold ext
  refine nodup_flat _ h (fun x _ => ?_) fun x _ y _ z hx hy => ?_
  · refine List.pairwise_map.mpr ((rowsC_nodup ds c).imp fun hne e => hne ?_)
    have := List.append_cancel_left e
    injection this
  · obtain ⟨r, _, e⟩ := List.mem_map.mp hx
    obtain ⟨r', _, e'⟩ := List.mem_map.mp hy
    exact List.append_inj_left' (e.trans e'.symm) rfl
theorem ordsF_nodup (ds : List D3) : (ordsF ds).Nodup := ext_nodup ds 2 (ext_nodup ds 1 (ext_nodup ds 0 (by simp)))
theorem ways_mem {ds : List D3} {f : List Int} {os : List (List (List Int))} {x : Xn} (h : x ∈ waysF ds f os) : x.1 = f ∧ x.2 ∈ os ∧ allOk ds f ds.length 0 = true := by
  unfold waysF at h
  obtain ⟨o, ho, h⟩ := List.mem_flatMap.mp h
  split at h
  · rename_i hk
    rw [List.mem_singleton.mp h]
    exact ⟨rfl, ho, hk⟩
  · cases h
theorem ways_nodup (ds : List D3) (f : List Int) {os : List (List (List Int))} (h : os.Nodup) : (waysF ds f os).Nodup := by
  unfold waysF
  refine nodup_flat _ h (fun x _ => ?_) fun x _ y _ z hx hy => ?_
  · split <;> simp
  · split at hx
    · rename_i hk
      rw [if_pos hk] at hy
      rw [List.mem_singleton.mp hx] at hy
      have := List.mem_singleton.mp hy
      injection this
    · cases hx
theorem execs_nodup (p : List (List D3)) : (execs p).Nodup := by
  unfold execs
  refine nodup_flat _ (fm_nodup _ _ _) (fun f _ => ways_nodup _ f (ordsF_nodup _)) fun x _ y _ z hx hy => ?_
  exact (ways_mem hx).1.symm.trans (ways_mem hy).1
/-- Each is one. -/
theorem execs_ok {p : List (List D3)} (hp : progOk p = true) {x : Xn} (h : x ∈ execs p) : execOk p x = true := by
  unfold execs at h
  obtain ⟨f, hf, h⟩ := List.mem_flatMap.mp h
  obtain ⟨h1, h2, h3⟩ := ways_mem h
  have h4 := ways_form (evs_ok hp).frm hf h2
  show (progOk p && (formB (dsP p) (x.1, x.2) && allOk (dsP p) x.1 (dsP p).length 0)) = true
  rw [hp, h1, h3, h4]
  rfl
/-- There is one: of nobody. -/
def nob (ds : List D3) : List D3 → List Int
  | [] => []
  | d :: l => (if rd d = true then -1 else -2) :: nob ds l
theorem nob_mem (ds : List D3) : ∀ (l : List D3) (acc : List Int), acc ++ nob ds l ∈ fm ds l acc
  | [], acc => by simp [fm, nob]
  | d :: l, acc => by
    have h1 := nob_mem ds l (acc ++ [-1])
    have h2 := nob_mem ds l (acc ++ [-2])
    rw [List.append_assoc] at h1 h2
    rw [fm, nob]
    by_cases hr : rd d = true
    · rw [if_pos hr, if_pos hr]
      exact List.mem_append_left _ h1
    · rw [if_neg hr, if_neg hr]
      exact h2
theorem nob_get (ds : List D3) : ∀ (l : List D3) (a : Nat), a < l.length → rd (l.getD a D0) = true → (nob ds l).getD a 0 = -1
  | [], a, h, _ => by simp at h
  | d :: l, 0, h, hr => by
    have hr : rd d = true := hr
    rw [nob, if_pos hr]
    rfl
  | d :: l, a + 1, h, hr => nob_get ds l a (by simpa using h) hr
theorem allOk_all {ds : List D3} {fr : List Int} : ∀ (k a : Nat), (∀ b, a ≤ b → b < a + k → okA ds fr b = true) → allOk ds fr k a = true
  | 0, _, _ => rfl
  | k + 1, a, h => by
    rw [allOk_succ, h a (Nat.le_refl _) (by omega), allOk_all k (a + 1) fun b h1 h2 => h b (by omega) (by omega)]
    rfl
theorem nob_ok {p : List (List D3)} (hp : progOk p = true) : allOk (dsP p) (nob (dsP p) (dsP p)) (dsP p).length 0 = true := by
  have hs := (progOkIff.mp hp).2.1
  refine allOk_all _ _ fun a _ ha => ?_
  rw [Nat.zero_add] at ha
  have hread : ∀ b, b < (dsP p).length → rd ((dsP p).getD b D0) = true → gS (dsP p) (nob (dsP p) (dsP p)) b = .inl 0 := fun b hb hr => by
    unfold gS
    rw [if_pos hr, if_pos (nob_get _ _ b hb hr)]
  unfold okA
  obtain ⟨m, hm⟩ : ∃ m, (dsP p).length = m + 1 := ⟨(dsP p).length - 1, by omega⟩
  rw [hm]
  by_cases hr : rd ((dsP p).getD a D0) = true
  · rw [chn, hread a ha hr]
    rfl
  · by_cases h3 : ((dsP p).getD a D0).1 = 3
    · obtain ⟨j, hj, hj2, _⟩ := dsP_src hs a ha h3
      have hl := lastRd_is _ a j hj hj2
      have e : gS (dsP p) (nob (dsP p) (dsP p)) a = .inr (lastRd (dsP p) a) := by
        unfold gS
        rw [if_neg hr, if_pos h3]
      obtain ⟨m', rfl⟩ : ∃ m', m = m' + 1 := ⟨m - 1, by omega⟩
      rw [chn, e]
      show (chn _ (m' + 1) _).isSome = true
      rw [chn, hread _ (by omega) hl.1]
      rfl
    · have e : gS (dsP p) (nob (dsP p) (dsP p)) a = .inl ((dsP p).getD a D0).2.2 := by
        unfold gS
        rw [if_neg hr, if_neg h3]
      rw [chn, e]
      rfl
theorem pmF_some : ∀ (k : Nat) (l : List Int), ∃ r, r ∈ pmF k l
  | 0, l => ⟨[], by simp [pmF]⟩
  | k + 1, l => by
    rw [pmF]
    split
    · exact ⟨[], by simp⟩
    · rename_i h0
      obtain ⟨r, hr⟩ := pmF_some k (l.eraseIdx 0)
      exact ⟨l.getD 0 0 :: r, List.mem_flatMap.mpr ⟨0, List.mem_range.mpr (by omega), List.mem_map.mpr ⟨r, hr, rfl⟩⟩⟩
theorem ordsF_some (ds : List D3) : (ordsF ds).length ≠ 0 := by
  have e : ∀ c : Nat, (rowsC ds c).length ≠ 0 := fun c => by
    unfold rowsC
    rw [pm_eq _ (wsF_nodup _ _ _)]
    obtain ⟨r, hr⟩ := pmF_some (wsF (↑c) 0 ds).length (wsF (↑c) 0 ds)
    exact Nat.ne_of_gt (List.length_pos_of_mem hr)
  rw [ordsF, ext_len, ext_len, ext_len, List.length_singleton, Nat.one_mul]
  exact Nat.mul_ne_zero (Nat.mul_ne_zero (e 0) (e 1)) (e 2)
theorem execs_some {p : List (List D3)} (hp : progOk p = true) : 0 < (execs p).length := by
  have h1 := nob_mem (dsP p) (dsP p) []
  rw [List.nil_append] at h1
  obtain ⟨o, ho⟩ := List.exists_mem_of_length_pos (Nat.pos_of_ne_zero (ordsF_some (dsP p)))
  refine List.length_pos_of_mem (a := (nob (dsP p) (dsP p), o)) ?_
  unfold execs
  refine List.mem_flatMap.mpr ⟨_, h1, ?_⟩
  unfold waysF
  refine List.mem_flatMap.mpr ⟨o, ho, ?_⟩
  rw [if_pos (nob_ok hp)]
  exact List.mem_singleton.mpr rfl
end Go.Proofs.Ytdacfaincamliaa.Ev
