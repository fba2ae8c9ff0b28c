/- The evaluator's appends are true of the machine. Conditions: none. -/
import Derived.Test.YtdacfaincamliaaEvWrite3
import Derived.Maps.AppendAt
namespace Go.Proofs.Ytdacfaincamliaa.Ev
open Go Go.RowKit

section
variable {P : Program} {c : Cx} {st : St} {R : Type} {a : Act} {tb : Tb} {o : Oper} {K : AV → St → Option R} {r : R}

theorem RdE.flat {S S' : Nat → Prop} {w : World} : ∀ {t : Ty} {x : t.den} {cs : List Value}, Ev.flat t = true → RdE S t w x cs → RdE S' t w x cs
  | .int _, _, _, _, h => h
  | .bool, _, _, _, h => h
  | .str, _, _, _, h => h
  | .rs _ _, _, _, hf, _ => by cases hf
  | .pair a b, x, cs, hf, h => by
    obtain ⟨c0, c1, e, h0, h1⟩ := h
    simp only [Ev.flat, Bool.and_eq_true] at hf
    exact ⟨c0, c1, e, RdE.flat hf.1 h0, RdE.flat hf.2 h1⟩

/-- The cells of a slice that is read, as one list. -/
theorem row_news {S : Nat → Prop} {t : Ty} {xs : List t.den} {ad : Addr} (h : ∀ j x, xs[j]? = some x → ∃ cc : List Value, cc.length = t.sz ∧ RdE S t c.w x cc ∧ ∀ i u, cc[i]? = some u → c.w.cell? (ad.add (j * t.sz + i)) = some u) :
    ∃ news : List Value, news.length = xs.length * t.sz ∧ (∀ j u, news[j]? = some u → c.w.cell? (ad.add j) = some u) ∧ ∀ j x, xs[j]? = some x → RdE S t c.w x ((news.drop (j * t.sz)).take t.sz) := by
  have hcell : ∀ k, k < xs.length * t.sz → ∃ u, c.w.cell? (ad.add k) = some u := by
    intro k hk
    have hsz : 0 < t.sz := Nat.pos_of_ne_zero fun h0 => by rw [h0] at hk; omega
    have hj : k / t.sz < xs.length := Nat.div_lt_of_lt_mul (by rw [Nat.mul_comm]; exact hk)
    obtain ⟨cc, h1, _, h3⟩ := h (k / t.sz) _ (List.getElem?_eq_getElem hj)
    have hm := Nat.mod_lt k hsz
    have h4 := h3 (k % t.sz) _ (List.getElem?_eq_getElem (by omega))
    rw [show k / t.sz * t.sz + k % t.sz = k by rw [Nat.mul_comm]; exact Nat.div_add_mod k t.sz] at h4
    exact ⟨_, h4⟩
  refine ⟨(List.range (xs.length * t.sz)).map fun k => (c.w.cell? (ad.add k)).getD undef, by simp, fun j u hj => ?_, fun j x hj => ?_⟩
  · rw [List.getElem?_map] at hj
    by_cases hk : j < xs.length * t.sz
    · rw [List.getElem?_range hk] at hj
      obtain ⟨v, hv⟩ := hcell j hk
      rw [Option.map_some, hv] at hj
      injection hj with hj
      rw [hv, ← hj]
      rfl
    · rw [List.getElem?_eq_none (by simpa using hk)] at hj
      cases hj
  · obtain ⟨cc, h1, h2, h3⟩ := h j x hj
    have hlt : j < xs.length := (List.getElem?_eq_some_iff.mp hj).1
    have hb : (j + 1) * t.sz ≤ xs.length * t.sz := Nat.mul_le_mul_right _ hlt
    rw [Nat.add_mul, Nat.one_mul] at hb
    have : ((((List.range (xs.length * t.sz)).map fun k => (c.w.cell? (ad.add k)).getD undef).drop (j * t.sz)).take t.sz) = cc := by
      apply List.ext_getElem?
      intro i
      rw [List.getElem?_take]
      split
      · rename_i hi
        rw [List.getElem?_drop, List.getElem?_map, List.getElem?_range (by omega), Option.map_some, h3 i _ (List.getElem?_eq_getElem (by omega)), List.getElem?_eq_getElem (by omega)]
        rfl
      · rw [List.getElem?_eq_none (by omega)]
    rw [this]
    exact h2

/-- What a slice to be copied holds. -/
theorem asElems_some {e : TypeId} {t : Ty} {l : Leaf} {K' : List t.den → Option R} {y : Value} (h : asElems e t l st K' = some r) (hs : SRel c st.store) (hv : leafRel c l y) :
    ∃ xs, K' xs = some r ∧ ((∃ m, y = .slice none 0 m ∧ xs = []) ∨ ∃ ad m news, y = .slice (some ad) xs.length m ∧ news.length = xs.length * t.sz ∧ (∀ j u, news[j]? = some u → c.w.cell? (ad.add j) = some u) ∧ All2 (leafRel c) (xs.flatMap (leaves true t)) news) := by
  have fin : ∀ {S : Nat → Prop} {xs : List t.den} {A : Option Addr} {n : Nat}, (∀ x cs, RdE S t c.w x cs → RdE c.I t c.w x cs) → y = .slice A xs.length n → PRow S c.w t A xs → K' xs = some r →
      ∃ xs, K' xs = some r ∧ ((∃ m, y = .slice none 0 m ∧ xs = []) ∨ ∃ ad m news, y = .slice (some ad) xs.length m ∧ news.length = xs.length * t.sz ∧ (∀ j u, news[j]? = some u → c.w.cell? (ad.add j) = some u) ∧ All2 (leafRel c) (xs.flatMap (leaves true t)) news) := by
    intro S xs A n hS hy hp hk
    refine ⟨xs, hk, ?_⟩
    cases A with
    | none =>
      by_cases h0 : 0 < xs.length
      · obtain ⟨ad, h1, _⟩ := hp.2 h0
        cases h1
      · have : xs = [] := List.eq_nil_of_length_eq_zero (by omega)
        subst this
        exact .inl ⟨n, hy, rfl⟩
    | some ad =>
      have hcells : ∀ j x, xs[j]? = some x → ∃ cc : List Value, cc.length = t.sz ∧ RdE S t c.w x cc ∧ ∀ i u, cc[i]? = some u → c.w.cell? (ad.add (j * t.sz + i)) = some u := by
        intro j x hj
        have h0 : 0 < xs.length := by have := (List.getElem?_eq_some_iff.mp hj).1; omega
        obtain ⟨ad', h1, _, h3⟩ := hp.2 h0
        injection h1 with h1
        subst h1
        exact h3 j x hj
      obtain ⟨news, h1, h2, h3⟩ := row_news hcells
      exact .inr ⟨ad, n, news, hy, h1, h2, rows_rel (S := c.I) (fun _ h => h) h1 fun j x hj => hS _ _ (h3 j x hj)⟩
  unfold asElems at h
  split at h
  · rename_i lt e' t' xs
    split at h
    · rename_i hcond
      obtain ⟨rfl, h⟩ := cast_some h
      obtain ⟨A, n, h1, h2, h3⟩ := hv
      refine fin (fun x cs hx => ?_) h1 h3 h
      rcases hcond.2 with h4 | h4
      · rw [h4] at hx; exact hx
      · exact RdE.flat h4 hx
    · cases h
  · exact ⟨[], h, .inl ⟨0, hv.1, rfl⟩⟩
  · rename_i id
    split at h
    · rename_i e' t' xs hl
      split at h
      · obtain ⟨rfl, h⟩ := cast_some h
        have hent := hs.ent _ _ (lookup_mem hl)
        obtain ⟨inner, h1, h2, h3⟩ := hent
        refine ⟨xs, h, ?_⟩
        rw [hv.2.1]
        rcases h1.2 with ⟨A0, h4, h5⟩ | ⟨g, cap, cur, h4, _, h6, h7, h8, h9, h10⟩
        · have : xs = [] := List.eq_nil_of_length_eq_zero h5
          subst this
          cases A0 with
          | none => exact .inl ⟨0, h4, rfl⟩
          | some ad => exact .inr ⟨ad, 0, [], h4, by simp, fun j u hj => by simp at hj, trivial⟩
        · refine .inr ⟨⟨g, 0, none⟩, cap + 1, inner, h4, h1.1, fun j u hj => ?_, h3⟩
          rw [add_at, Nat.zero_add]
          rw [h4] at h1
          rw [h1.cellAt j (by have := (List.getElem?_eq_some_iff.mp hj).1; rw [h1.1] at this; exact this)]
          exact hj
      · cases h
    · cases h
  · cases h

theorem run_append_none0 (w : World) (t ty e : TypeId) (i : TypeInfo) (size : Nat) (ht : P.underlying t = some (.slice e)) (hi : P.info? e = some i)
    (v : Value) (n m : Nat) (xs : List Value) (hown : oRow w e size v n xs) :
    (Builtin.append_ #[t, t] ty #[v, .slice none 0 m]).run P w = .ok v w := by
  rcases hown.2 with ⟨A0, rfl, rfl⟩ | ⟨g, cap, cur, rfl, _, _, hnc, _⟩
  · cases A0 <;> simp [Builtin.append_, run_underlying ht, sizeOf, typeInfo, hi, Builtin.lenOf, Builtin.firstCells, storeCells]
  · simp [Builtin.append_, run_underlying ht, sizeOf, typeInfo, hi, Builtin.lenOf, Builtin.firstCells, hnc, storeCells]
theorem run_append_z (w : World) (t ty e : TypeId) (i : TypeInfo) (size : Nat) (ht : P.underlying t = some (.slice e)) (hi : P.info? e = some i)
    (v : Value) (n m : Nat) (a : Addr) (xs : List Value) (hown : oRow w e size v n xs) :
    (Builtin.append_ #[t, t] ty #[v, .slice (some a) 0 m]).run P w = .ok v w := by
  rcases hown.2 with ⟨A0, rfl, rfl⟩ | ⟨g, cap, cur, rfl, _, _, hnc, _⟩
  · cases A0 <;> simp [Builtin.append_, run_underlying ht, sizeOf, typeInfo, hi, Builtin.lenOf, Builtin.firstCells, storeCells, loadCells, loadCellsFrom]
  · simp [Builtin.append_, run_underlying ht, sizeOf, typeInfo, hi, Builtin.lenOf, Builtin.firstCells, hnc, storeCells, loadCells, loadCellsFrom]
theorem run_append_o (w : World) (t ty e : TypeId) (i : TypeInfo) (z : Value) (size bytes : Nat) (ht : P.underlying t = some (.slice e)) (hi : P.info? e = some i) (hz : i.zero = some z)
    (hsize : i.size = size) (hby : i.bytes = bytes) (hzs : z.cells.size = size) (hsz : 0 < size)
    (v : Value) (n : Nat) (xs : List Value) (hown : oRow w e size v n xs)
    (a : Addr) (m c : Nat) (news : List Value) (hl : news.length = m * size) (hnews : ∀ j u, news[j]? = some u → w.cell? (a.add j) = some u) (h1 : ∀ u ∈ news, u.oneCell' = true)
    (h63 : n + m ≤ maxLen) (hbytes : (n + m) * bytes ≤ 140737488355328) :
    ∃ v' w', (Builtin.append_ #[t, t] ty #[v, .slice (some a) m c]).run P w = .ok v' w' ∧ oRow w' e size v' (n + m) (xs ++ news) ∧ w.grownBy w' (oBlk v) ∧ (oBlk v' = oBlk v ∨ oBlk v' = some w.heap.size) := by
  by_cases hm : m = 0
  · subst hm
    have hn : news = [] := List.eq_nil_of_length_eq_zero (by simpa using hl)
    subst hn
    exact ⟨v, w, run_append_z w t ty e i size ht hi v n c a xs hown, by simpa using hown, ⟨rfl, rfl, rfl, Nat.le_refl _, fun _ _ _ => rfl⟩, .inl rfl⟩
  · rcases ofO hown with ⟨ad, rfl, rfl, rfl⟩ | ⟨ho, hb⟩
    · subst hsize
      subst hby
      have hsmall : m ≤ 9223372036854775807 := by simp only [maxLen] at h63; omega
      have hr := run_append_grow (P := P) w t ty e i z ht hi hz ad 0 0 [] (by simp) (fun j u h => by simp at h) a m c news hl hnews (by omega) (by omega) (growslice_fits (by omega) hbytes)
      have hge := grownCap_ge w (0 + m) 0 e
      have hcm : grownCap w (0 + m) 0 e ≤ maxLen := grownCap_le_maxLen w (0 + m) 0 e h63
      refine ⟨_, _, hr, toO (base := 0) ⟨by rw [List.nil_append, hl, Nat.zero_add], .inr ⟨w.heap.size, _, _, rfl, Nat.zero_le _, heap_alloc_new w.drew _, hge, hcm, ?_, ?_⟩⟩, ⟨rfl, rfl, rfl, by simp, fun k hk _ => Go.heap_alloc_old w.drew _ hk⟩, .inr ?_⟩
      · simp only [Array.size_append, List.size_toArray, size_zeroCells, hzs, hl, List.length_nil, Nat.zero_add, ← Nat.add_mul]
        congr 1
        have hge' := hge
        simp only [Nat.zero_add] at hge'
        omega
      · simp only [Array.toList_append, List.append_assoc, List.nil_append, Nat.zero_add]
        rw [← hl]
        exact List.take_left
      · obtain ⟨k, hk⟩ : ∃ k, grownCap w (0 + m) 0 e = k + 1 := ⟨grownCap w (0 + m) 0 e - 1, by omega⟩
        rw [hk]; rfl
    · obtain ⟨v', w', k1, k2, k3, _, k4⟩ := run_append_own_at (P := P) w 0 t ty e i z size bytes ht hi hz hsize hby hzs hsz v n xs ho a m c news hl hnews h1 h63 hbytes (Nat.zero_le _)
      have e1 : v'.ownBlock = oBlk v' := by
        rcases k2.2 with ⟨_, h⟩ | ⟨g, cap, cur, h0, _, _, h2, _⟩
        · omega
        · obtain ⟨k, hk⟩ : ∃ k, cap = k + 1 := ⟨cap - 1, by omega⟩
          rw [h0, hk]; rfl
      rw [hb] at k3 k4
      rw [e1] at k4
      exact ⟨v', w', k1, toO k2, k3, k4⟩

/-- append, of whatever was found. -/
theorem run_append_any {t ty e : TypeId} {ie : TI} (ht : P.underlying t = some (.slice e)) (hie : TI.ok P e ie) {tt : Ty} (hsz : ie.size = tt.sz) (h0 : 0 < tt.sz) (hb0 : 0 < ie.bytes)
    {w : World} {v y : Value} {n : Nat} {inner : List Value} (hown : oRow w e tt.sz v n inner) {xs : List tt.den} {R' : Leaf → Value → Prop} (hR1 : ∀ l u, R' l u → u.oneCell' = true)
    (hy : (∃ m, y = .slice none 0 m ∧ xs = []) ∨ ∃ ad m news, y = .slice (some ad) xs.length m ∧ news.length = xs.length * tt.sz ∧ (∀ j u, news[j]? = some u → w.cell? (ad.add j) = some u) ∧ All2 R' (xs.flatMap (leaves true tt)) news)
    (hbytes : (n + xs.length) * ie.bytes ≤ 140737488355328) :
    ∃ v' w' news, (Builtin.append_ #[t, t] ty #[v, y]).run P w = .ok v' w' ∧ oRow w' e tt.sz v' (n + xs.length) (inner ++ news) ∧ w.grownBy w' (oBlk v) ∧ (oBlk v' = oBlk v ∨ oBlk v' = some w.heap.size) ∧ v'.oneCell' = true ∧ All2 R' (xs.flatMap (leaves true tt)) news := by
  obtain ⟨f, z, hf, hf2, hf3, hf4, hf5⟩ := hie.info
  have hone : ∀ {w' : World} {v' : Value} {k : Nat} {l : List Value}, oRow w' e tt.sz v' k l → v'.oneCell' = true := by
    intro w' v' k l hh
    rcases hh.2 with ⟨A0, h1, _⟩ | ⟨_, _, _, h1, _⟩ <;> rw [h1] <;> rfl
  rcases hy with ⟨m, rfl, rfl⟩ | ⟨ad, m, news, rfl, hl, hc, ha⟩
  · exact ⟨v, w, [], run_append_none0 w t ty e f tt.sz ht hf v n m inner hown, by simpa using hown, ⟨rfl, rfl, rfl, Nat.le_refl _, fun _ _ _ => rfl⟩, .inl rfl, hone hown, trivial⟩
  · have hone2 : ∀ u ∈ news, u.oneCell' = true := by
      have : ∀ (ls : List Leaf) (ns : List Value), All2 R' ls ns → ∀ u ∈ ns, u.oneCell' = true := by
        intro ls
        induction ls with
        | nil => intro ns h u hu; cases ns with | nil => cases hu | cons _ _ => exact h.elim
        | cons l ls ih =>
          intro ns h u hu
          cases ns with
          | nil => cases hu
          | cons x ns =>
            rcases List.mem_cons.mp hu with rfl | hu
            · exact hR1 _ _ h.1
            · exact ih ns h.2 u hu
      exact this _ _ ha
    have hle : n + xs.length ≤ maxLen := by
      have : n + xs.length ≤ (n + xs.length) * ie.bytes := Nat.le_mul_of_pos_right _ hb0
      simp only [maxLen]
      omega
    obtain ⟨v', w', h1, h2, h3, h4⟩ := run_append_o (P := P) w t ty e f z tt.sz ie.bytes ht hf hf4 (hf2.trans hsz) hf3 (by rw [← Array.length_toList, hf5, hie.zlen, hsz]) h0 v n inner hown ad xs.length m news hl hc hone2 hle hbytes
    exact ⟨v', w', news, h1, h2, h3, h4, hone h2, ha⟩

theorem blk_own {v : Value} (h : ∀ g, v ≠ .pointer (some g)) : blk v = oBlk v := by
  cases v with
  | pointer a => cases a with | none => rfl | some a => exact absurd rfl (h a)
  | slice A n m => cases A <;> cases m <;> rfl
  | _ => rfl

theorem ownsRow_blk {w : World} {e : TypeId} {sz n : Nat} {v : Value} {l : List Value} (h : oRow w e sz v n l) : blk v = oBlk v := by
  rcases h.2 with ⟨A0, h1, _⟩ | ⟨_, _, _, h1, _⟩ <;> rw [h1]
  · cases A0 <;> rfl
  · rfl

/-- append, of what is known cell by cell. -/
theorem run_append_raw {t ty e : TypeId} {ie : TI} (ht : P.underlying t = some (.slice e)) (hie : TI.ok P e ie) {sz : Nat} (hsz : ie.size = sz) (h0 : 0 < sz) (hb0 : 0 < ie.bytes)
    {w : World} {v y : Value} {n k : Nat} {inner news : List Value} (hown : oRow w e sz v n inner) (hone2 : ∀ u ∈ news, u.oneCell' = true)
    (hy : oRow w e sz y k news) (hbytes : (n + k) * ie.bytes ≤ 140737488355328) :
    ∃ v' w', (Builtin.append_ #[t, t] ty #[v, y]).run P w = .ok v' w' ∧ oRow w' e sz v' (n + k) (inner ++ news) ∧ w.grownBy w' (oBlk v) ∧ (oBlk v' = oBlk v ∨ oBlk v' = some w.heap.size) ∧ v'.oneCell' = true := by
  obtain ⟨f, z, hf, hf2, hf3, hf4, hf5⟩ := hie.info
  have hone : ∀ {w' : World} {v' : Value} {k : Nat} {l : List Value}, oRow w' e sz v' k l → v'.oneCell' = true := by
    intro w' v' k l hh
    rcases hh.2 with ⟨A0, h1, _⟩ | ⟨_, _, _, h1, _⟩ <;> rw [h1] <;> rfl
  have hy0 := hy
  rcases hy.2 with ⟨A0, rfl, hk⟩ | ⟨g, cap, cur, rfl, _, hcur, hnc, hcm, hcs, htake⟩
  · subst hk
    have hn : news = [] := List.eq_nil_of_length_eq_zero (by simpa using hy.1)
    subst hn
    exact ⟨v, w, (by cases A0 with | none => exact run_append_none0 w t ty e f sz ht hf v n 0 inner hown | some ad => exact run_append_z w t ty e f sz ht hf v n 0 ad inner hown), by simpa using hown, ⟨rfl, rfl, rfl, Nat.le_refl _, fun _ _ _ => rfl⟩, .inl rfl, hone hown⟩
  · have hle : n + k ≤ maxLen := by
      have : n + k ≤ (n + k) * ie.bytes := Nat.le_mul_of_pos_right _ hb0
      simp only [maxLen]
      omega
    obtain ⟨v', w', h1, h2, h3, h4⟩ := run_append_o (P := P) w t ty e f z sz ie.bytes ht hf hf4 (hf2.trans hsz) hf3 (by rw [← Array.length_toList, hf5, hie.zlen, hsz]) h0 v n inner hown ⟨g, 0, none⟩ k cap news hy.1 (fun j u hj => by
      rw [add_at, Nat.zero_add]
      rw [hy0.cellAt j (by have := (List.getElem?_eq_some_iff.mp hj).1; rw [hy.1] at this; exact this)]
      exact hj) hone2 hle hbytes
    exact ⟨v', w', h1, h2, h3, h4, hone h2⟩

/-- An operation goes as the evaluator says, and leaves what was as it was but for what M owns. -/
def OpGoesM (P : Program) (o : Oper) (c : Cx) (a : Act) (K : AV → St → Option R) (r : R) (ap : Bool) (M : List Nat) : Prop :=
  ∀ (next : Act → World → Prop) (Q : Exit → Act → World → Prop),
    (∀ v y c' st', K v st' = some r → Rel c' st' a.tmps → avRel c' v y → Step c c' → TameM ap M c c' → next (a.put o.dst y) c'.w) → o.wp P a c.w next Q
theorem OpGoesT.toM {ap : Bool} {M : List Nat} (h : OpGoesT P o c a K r ap) : OpGoesM P o c a K r ap M := fun next Q hn => h next Q fun v y c' st' h1 h2 h3 h4 h5 => hn v y c' st' h1 h2 h3 h4 (h5 M)
theorem OpGoesM.goes {ap : Bool} {M : List Nat} (h : OpGoesM P o c a K r ap M) : OpGoes P o c a K r := fun next Q hn => h next Q fun v y c' st' h1 h2 h3 h4 _ => hn v y c' st' h1 h2 h3 h4
theorem LaterA.tame {ap : Bool} {c c' : Cx} (h : LaterA c c') : TameM ap [] c c' :=
  ⟨by rw [h.w]; exact Nat.le_refl _, fun _ _ _ _ => by rw [h.w], fun i hi g hg _ => .inl ⟨i, h.D i hi, by rw [← h.ρ i hi]; exact hg⟩, fun i hi => (by cases hi), fun k hk _ => h.T k hk, fun i hi g hg _ => h.own i g hi hg⟩
theorem laterA_goes {ap : Bool} {c' : Cx} {st' : St} {K' : AV → St → Option R} (hL : LaterA c c') (h : ∀ (_ : Rel c' st' a.tmps), OpGoesM P o c' a K' r ap []) (hr : Rel c' st' a.tmps) : OpGoesM P o c a K' r ap [] := by
  intro next Q hn
  have := h hr next Q fun v y c2 st2 h1 h2 h3 h4 h5 => hn v y c2 st2 h1 h2 h3 (hL.step.trans h4) (hL.tame.trans h5)
  rwa [hL.w] at this
/-- What a callee, or a slice, needs closed. -/
theorem solid_goesM {ap : Bool} {M : List Nat} {dp : Bool} (hM : dp = false ∨ M = []) {vs : List AV} {K' : St → Option R} (h : st.solid dp vs K' = some r) (hr : Rel c st a.tmps) (hk : ∀ {st' : St} {c' : Cx}, Rel c' st' a.tmps → K' st' = some r → OpGoesM P o c' a K r ap M) : OpGoesM P o c a K r ap M := by
  rcases hM with rfl | rfl
  · obtain ⟨st1, c1, h1, h2, h3⟩ := solid_some h hr
    intro next Q hn
    have := hk h2 h1 next Q fun v y c2 st2 k1 k2 k3 k4 k5 => hn v y c2 st2 k1 k2 k3 (h3.step.trans k4) ((h3.tame M).trans k5)
    rwa [h3.w] at this
  · obtain ⟨st1, c1, h1, h2, h3⟩ := solid_someA h hr
    exact laterA_goes h3 (fun hr1 => hk hr1 h1) h2

theorem solid_goesN {ap : Bool} {M : List Nat} {dp : Bool} {vs : List AV} (hM : solidFree M vs st = true) {K' : St → Option R} (h : st.solid dp vs K' = some r) (hr : Rel c st a.tmps) (hk : ∀ {st' : St} {c' : Cx}, Rel c' st' a.tmps → K' st' = some r → OpGoesM P o c' a K r ap M) : OpGoesM P o c a K r ap M := by
  obtain ⟨st1, c1, h1, h2, h3, h4⟩ := solid_someN h hr
  have hT : TameM ap M c c1 := ⟨by rw [h3.w]; exact Nat.le_refl _, fun _ _ _ _ => by rw [h3.w], fun i hi g hg _ => .inl ⟨i, h3.D i hi, by rw [← h3.ρ i hi]; exact hg⟩, fun i hi hD g hg _ => ⟨i, hi, h3.D i hD, h4 i g (fun hin => by
    have := List.all_eq_true.mp hM i hin
    simp [hi] at this) hD hg⟩, fun k hk _ => h3.T k hk, fun i hi g hg _ => h3.own i g hi hg⟩
  intro next Q hn
  have := hk h2 h1 next Q fun v y c2 st2 k1 k2 k3 k4 k5 => hn v y c2 st2 k1 k2 k3 (h3.step.trans k4) (hT.trans k5)
  rwa [h3.w] at this

theorem setEnt_twice (st : St) (id : Nat) (E F : Ent) (f : Leaf → Leaf) : ((st.setEnt id E).map f).setEnt id F = (st.map f).setEnt id F := by
  simp only [St.setEnt, St.map, List.map_map]
  congr 1
  refine List.map_congr_left fun p _ => ?_
  simp only [Function.comp]
  split <;> simp_all
theorem lookup_setEnt {st : St} {id : Nat} {E F : Ent} (h : lookup st.store id = some E) : lookup (st.setEnt id F).store id = some F := by
  unfold lookup at h ⊢
  obtain ⟨p, hp, _⟩ := Option.map_eq_some_iff.mp h
  simp only [St.setEnt]
  rw [List.find?_map]
  have h1 : ((fun p : Nat × Ent => p.1 == id) ∘ fun p => if p.1 = id then (id, F) else p) = fun p => p.1 == id := by
    funext q
    simp only [Function.comp]
    split
    · rename_i hq; simp [hq]
    · rfl
  rw [h1, hp]
  have h2 := List.find?_some hp
  simp only [beq_iff_eq] at h2
  simp [h2]

theorem goes_appendD (htb : tb.ok0 P) {ap : Bool} {s x : Operand} {t e : TypeId} {ie : TI} {ty : Ty} {l : Leaf} (ho : o.op = .call { callee := .builtin .append, args := #[s, x], argTypes := #[t, t] }) (hr : Rel c st a.tmps)
    (ht : P.underlying t = some (.slice e)) (hie : TI.ok P e ie) (hsz : ie.size = ty.sz) (hb0 : 0 < ie.bytes) (h0 : 0 < ty.sz) (hx : leafRel c l (a.eval x)) (h : appendD ie e st s ty l K = some r) {M : List Nat} (hK : ∀ id st', K (.lf (.own id)) st' = some r → id ∉ M) : OpGoesM P o c a K r true M := by
  have exe : ∀ {v' : Value} {w' : World}, (Builtin.append_ #[t, t] o.type #[a.eval s, a.eval x]).run P c.w = .ok v' w' → (execOp a.eval o).run P c.w = .ok (.value v') w' := by
    intro v' w' hh
    unfold execOp
    simp only [ho, resolve, invoke, builtin, Sem.run_bind, Sem.run_pure, Result.andThen_ok, List.map_toArray, List.map_cons, List.map_nil, hh]
  unfold appendD at h
  obtain ⟨ys, st1, D', B, g1, g2, g3, g4, g5, g6⟩ := takeO_some (c0 := c) (t := .rs e ty) (cs := [a.eval x]) h hr (Later.refl hr.s) ⟨hx, trivial⟩
  obtain ⟨v, innerY, B', j1, j2, j3, j4, j5⟩ := g4
  injection j1 with j1 _
  subst j1
  have hB' : ∀ g, g ∈ B' → g ∈ B := fun g hg => by rw [j4]; exact List.mem_append_right _ hg
  have hnd' : B'.Nodup := by rw [j4, List.nodup_append] at g5; exact g5.2.1
  have hoth : ∀ g, g ∈ B' → ∀ j, j ∈ D' → ¬ c.ow j g := fun g hg j hj hh => by
    obtain ⟨i, i1, i2, i3⟩ := g6 g (hB' g hg)
    exact hr.s.apartX i j g i1 (g3 j hj) (fun e => i2 (by rw [e]; exact hj)) i3 hh
  have hBT : ∀ g, g ∈ B' → ¬ c.T g ∧ g < c.w.heap.size := fun g hg => by
    obtain ⟨i, i1, i2, i3⟩ := g6 g (hB' g hg)
    exact ⟨hr.s.notTX i1 i3, hr.s.ltX i1 i3⟩
  have hsv := g2.ev s
  split at g1
  · rename_i hse
    rw [hse] at hsv
    have hv : a.eval s = .slice none 0 0 := hsv.1
    split at g1
    · rename_i hbytes
      obtain ⟨v', w', k1, k2, k3, k4, k5⟩ := run_append_raw (ty := o.type) ht hie hsz h0 hb0 (w := c.w) (v := a.eval s) (n := 0) (inner := []) (by rw [hv]; exact oRow_nil c.w e ty.sz) j5.one j3 (by rw [Nat.zero_add]; exact hbytes)
      rw [Nat.zero_add, List.nil_append] at k2
      have hnone : oBlk (a.eval s) = none := by rw [hv]; rfl
      have hfr : ∀ g, blk v' = some g → c.w.heap.size ≤ g := by
        intro g hg
        rw [ownsRow_blk k2] at hg
        rcases k4 with k4 | k4
        · rw [hg, hnone] at k4; cases k4
        · rw [hg] at k4; injection k4 with k4; omega
      have hold : ∀ k, k < c.w.heap.size → w'.heap[k]? = c.w.heap[k]? := fun k hk => k3.block k hk (by rw [hnone]; simp)
      have hbl : Below 0 c.w w' := ⟨k3.os, k3.tape, k3.output, k3.size, fun k hk => absurd hk (Nat.not_lt_zero k)⟩
      have hρ : (({ c with D := D' } : Cx).growX w' (fresh st1.store) v' fun g => g ∈ B').ρ (fresh st1.store) = v' := if_pos rfl
      obtain ⟨q1, q2⟩ := g2.growX (w1 := w') (y0 := v') (e := .deep e ty ys) (B := fun g => g ∈ B') hold hbl (fun g hg i hi hh => by
          have := hfr g hg
          have := hr.s.ltX (g3 i hi) hh
          omega) (fun g hg => ⟨⟨(hBT g hg).1, Nat.lt_of_lt_of_le (hBT g hg).2 k3.size⟩, fun i hi hh => hoth g hg i hi hh⟩)
        ⟨innerY, B', by rw [hρ]; exact k2, fun g hg => by
          rw [hρ] at hg
          have h8 := hfr g hg
          exact ⟨fun h9 => by have := hr.s.lt g h9; omega, fun h9 => by have := (hBT g h9).2; omega⟩, hnd', fun g hg => by
          show (if fresh st1.store = fresh st1.store then g ∈ B' else c.X (fresh st1.store) g)
          rw [if_pos rfl]; exact hg, j5.moveE fun g hg => hold g (hBT g hg).2⟩
      intro next Q hn
      refine wp_val (exe k1) (hn _ _ _ _ g1 q1 ⟨List.mem_append_right _ (List.mem_singleton.mpr rfl), hρ.symm, k5⟩ ((later_D hr g3).step.trans q2) ⟨k3.size, fun k hk _ _ => hold k hk, fun i hi g hg hlt => ?_, fun i hi0 hi g hg hlt => (by
        rcases List.mem_append.mp hi with hi | hi
        · have hne := fresh_not i (by rw [← g2.s.ids]; exact hi)
          rcases hg with hg | hg
          · have hg : blk (if i = fresh st1.store then v' else c.ρ i) = some g := hg
            rw [if_neg hne] at hg
            exact ⟨i, hi0, g3 i hi, .inl hg⟩
          · have hg : (if i = fresh st1.store then g ∈ B' else c.X i g) := hg
            rw [if_neg hne] at hg
            exact ⟨i, hi0, g3 i hi, .inr hg⟩
        · rw [List.mem_singleton] at hi
          exact absurd (hi ▸ hi0) (hK _ _ g1)), fun k hk _ => .inl hk, fun i hi g hg hlt => ?_⟩)
      rotate_left
      · rcases List.mem_append.mp hi with hi | hi
        · have hne := fresh_not i (by rw [← g2.s.ids]; exact hi)
          rcases hg with hg | hg
          · have hg : blk (if i = fresh st1.store then v' else c.ρ i) = some g := hg
            rw [if_neg hne] at hg
            exact ⟨i, g3 i hi, .inl hg⟩
          · have hg : (if i = fresh st1.store then g ∈ B' else c.X i g) := hg
            rw [if_neg hne] at hg
            exact ⟨i, g3 i hi, .inr hg⟩
        · rw [List.mem_singleton] at hi
          rcases hg with hg | hg
          · rw [hi, hρ] at hg
            have := hfr g hg
            omega
          · have hg : (if i = fresh st1.store then g ∈ B' else c.X i g) := hg
            rw [if_pos hi] at hg
            obtain ⟨j, i1, _, i3⟩ := g6 g (hB' g hg)
            exact ⟨j, i1, i3⟩
      rcases List.mem_append.mp hi with hi | hi
      · have hne := fresh_not i (by rw [← g2.s.ids]; exact hi)
        have e1 : (({ c with D := D' } : Cx).growX w' (fresh st1.store) v' fun g => g ∈ B').ρ i = c.ρ i := if_neg hne
        rw [e1] at hg
        exact .inl ⟨i, g3 i hi, hg⟩
      · rw [List.mem_singleton] at hi
        rw [hi, hρ] at hg
        have := hfr g (ownBlock_blk hg)
        omega
    · cases g1
  · rename_i id hse
    rw [hse] at hsv
    have hv : a.eval s = c.ρ id := hsv.2.1
    split at g1
    · rename_i e' t1 xs hl
      split at g1
      · rename_i hee
        subst hee
        obtain ⟨hty2, g1⟩ := cast_some g1
        have hty3 := hty2.symm
        subst hty3
        split at g1
        · rename_i hbytes
          have hid : id ∈ D' := lookup_D g2.s hl
          obtain ⟨inner, B0, m1, m2, m3, m4, m5⟩ := g2.entOf hl
          have hnd : (B0 ++ B').Nodup := by
            rw [List.nodup_append]
            refine ⟨m3, hnd', fun g hg g' hg' => ?_⟩
            rintro rfl
            exact hoth g hg' id hid (.inr (m4 g hg))
          obtain ⟨q1, q2⟩ := absorb (E := .deep e ty xs) hr g2 g3 hid g6 (fun g => g ∈ B0 ++ B') (fun g hg => by
              rcases List.mem_append.mp hg with hg | hg
              · exact .inr (m4 g hg)
              · exact .inl (hB' g hg)) ⟨inner, B0, m1, m2, m3, fun g hg => by
              show (if id = id then g ∈ B0 ++ B' else c.X id g)
              rw [if_pos rfl]; exact List.mem_append_left _ hg, m5⟩
          obtain ⟨v', w', k1, k2, k3, k4, k5⟩ := run_append_raw (ty := o.type) ht hie hsz h0 hb0 (w := c.w) (v := a.eval s) (by rw [hv]; exact m1) j5.one j3 hbytes
          have hbk : blk (c.ρ id) = oBlk (c.ρ id) := ownsRow_blk m1
          have hold : ∀ k, k < c.w.heap.size → some k ≠ blk (c.ρ id) → w'.heap[k]? = c.w.heap[k]? := fun k hk hne => k3.block k hk (by rw [hv, ← hbk]; exact hne)
          have hbl : Below 0 c.w w' := ⟨k3.os, k3.tape, k3.output, k3.size, fun k hk => absurd hk (Nat.not_lt_zero k)⟩
          have hl2 := lookup_setEnt (F := .deep e ty xs) hl
          have hrow := row_not_ptr (q1.entOf hl2) (.inr rfl)
          have hkill := leaf_kill (y := v') q1.s hl2 hold hrow
          have hy : ∀ g, blk v' = some g → blk (c.ρ id) = some g ∨ c.w.heap.size ≤ g := by
            intro g hg
            rw [ownsRow_blk k2] at hg
            rcases k4 with k4 | k4
            · left; rw [hbk, ← hg, k4, hv]
            · right; rw [hg] at k4; injection k4 with k4; omega
          have hBlt : ∀ g, g ∈ B0 ++ B' → g < c.w.heap.size ∧ blk (c.ρ id) ≠ some g := by
            intro g hg
            rcases List.mem_append.mp hg with hg | hg
            · exact ⟨(g2.s.ext id g hid (m4 g hg)).2, fun hh => (m2 g hh).2 hg⟩
            · exact ⟨(hBT g hg).2, fun hh => hoth g hg id hid (.inl hh)⟩
          obtain ⟨p1, p2⟩ := q1.turn (w1 := w') (y := v') (e1 := .deep e ty (xs ++ ys)) (f := killL id) hl2 hold hbl hy hkill (fun l hl => by cases l <;> first | rfl | cases hl)
            ⟨inner ++ innerY, B0 ++ B', by
              show oRow _ e ty.sz (if id = id then v' else c.ρ id) (xs ++ ys).length _
              rw [if_pos rfl, List.length_append]
              exact k2, by
              show ∀ g, blk (if id = id then v' else c.ρ id) = some g → _
              rw [if_pos rfl]
              intro g hg
              rcases hy g hg with h9 | h9
              · exact ⟨(m2 g h9).1, fun h8 => (hBlt g h8).2 h9⟩
              · exact ⟨fun hT => by have := hr.s.lt g hT; omega, fun h8 => by have := (hBlt g h8).1; omega⟩, hnd, fun g hg => by
              show (if id = id then g ∈ B0 ++ B' else c.X id g)
              rw [if_pos rfl]; exact hg,
              (m5.append j5).moveE fun g hg => hold g (hBlt g hg).1 fun h9 => (hBlt g hg).2 h9.symm⟩
          have p1' := p1
          rw [show ((st1.setEnt id (.deep e ty xs)).map (killL id)).setEnt id (.deep e ty (xs ++ ys)) = (st1.kill id).setEnt id (.deep e ty (xs ++ ys)) from setEnt_twice _ _ _ _ _] at p1'
          intro next Q hn
          refine wp_val (exe k1) (hn _ _ _ _ g1 p1' ⟨hid, by
            show v' = (if id = id then v' else c.ρ id)
            rw [if_pos rfl], k5⟩ (q2.step.trans p2) ⟨k3.size, fun k hk hrr _ => hold k hk (fun hb => hrr rfl id (g3 id hid) (by rw [hbk] at hb; exact hb.symm)), fun i hi g hg hlt => ?_, fun i hM0 hi g hg hlt => (by
            have hi0 : i ≠ id := fun e => hK _ _ g1 (e ▸ hM0)
            rcases hg with hg | hg
            · have hg : blk (if i = id then v' else c.ρ i) = some g := hg
              rw [if_neg hi0] at hg
              exact ⟨i, hM0, g3 i hi, .inl hg⟩
            · have hg : (if i = id then g ∈ B0 ++ B' else c.X i g) := hg
              rw [if_neg hi0] at hg
              exact ⟨i, hM0, g3 i hi, .inr hg⟩), fun k hk _ => .inl hk, fun i hi g hg hlt => ?_⟩)
          rotate_left
          · rcases hg with hg | hg
            · have hg : blk (if i = id then v' else c.ρ i) = some g := hg
              by_cases hi0 : i = id
              · rw [if_pos hi0] at hg
                rcases hy g hg with h9 | h9
                · exact ⟨id, g3 id hid, .inl h9⟩
                · omega
              · rw [if_neg hi0] at hg
                exact ⟨i, g3 i hi, .inl hg⟩
            · have hg : (if i = id then g ∈ B0 ++ B' else c.X i g) := hg
              by_cases hi0 : i = id
              · rw [if_pos hi0] at hg
                rcases List.mem_append.mp hg with hg | hg
                · exact ⟨id, g3 id hid, .inr (m4 g hg)⟩
                · obtain ⟨j, i1, _, i3⟩ := g6 g (hB' g hg)
                  exact ⟨j, i1, i3⟩
              · rw [if_neg hi0] at hg
                exact ⟨i, g3 i hi, .inr hg⟩
          have hg : oBlk (if i = id then v' else c.ρ i) = some g := hg
          by_cases hi0 : i = id
          · rw [if_pos hi0] at hg
            rcases hy g (ownBlock_blk hg) with h9 | h9
            · exact .inl ⟨id, g3 id hid, by rw [← hbk]; exact h9⟩
            · omega
          · rw [if_neg hi0] at hg
            exact .inl ⟨i, g3 i hi, hg⟩
        · cases g1
      · cases g1
    · cases g1
  · cases g1

theorem goes_append (htb : tb.ok0 P) {M : List Nat} (hM : tb.deep = false ∨ ∀ id st', K (.lf (.own id)) st' = some r → id ∉ M) {s x : Operand} {t t' : TypeId} (ho : o.op = .call { callee := .builtin .append, args := #[s, x], argTypes := #[t, t'] }) (hr : Rel c st a.tmps)
    (h : evCallB tb .append [s, x] [t, t'] st K = some r) : OpGoesM P o c a K r true M := by
  simp only [evCallB] at h
  split at h
  · rename_i htt
    subst htt
    split at h
    · rename_i i hi
      split at h
      · rename_i e hd
        split at h
        · rename_i ie hie
          split at h
          · rename_i ty hty
            split at h
            · rename_i hcond
              obtain ⟨hsz, hb0, h0⟩ := hcond
              have ht : P.underlying t' = some (.slice e) := by have := (htb.ti _ _ hi).under; rwa [hd] at this
              have hieok := htb.ti _ _ hie
              have hx := hr.ev x
              generalize st.ev x = vx at h hx
              split at h
              · rename_i l
                split at h
                · rename_i hdb
                  have hdp : tb.deep = true := by
                    unfold deepBase at hdb
                    split at hdb
                    · simp only [Bool.and_eq_true] at hdb; exact hdb.1
                    · simp only [Bool.and_eq_true] at hdb; exact hdb.1
                    · cases hdb
                  rcases hM with hM | hM
                  · rw [hdp] at hM; cases hM
                  exact goes_appendD (ap := true) htb ho hr ht hieok hsz hb0 h0 hx h hM
                refine OpGoesT.toM ?_
                obtain ⟨ys, h1, h2⟩ := asElems_some h hr.s hx
                have hsv := hr.ev s
                have exe : ∀ {v' : Value} {w' : World}, (Builtin.append_ #[t', t'] o.type #[a.eval s, a.eval x]).run P c.w = .ok v' w' → (execOp a.eval o).run P c.w = .ok (.value v') w' := by
                  intro v' w' hh
                  unfold execOp
                  simp only [ho, resolve, invoke, builtin, Sem.run_bind, Sem.run_pure, Result.andThen_ok, List.map_toArray, List.map_cons, List.map_nil, hh]
                generalize st.ev s = vs at h1 hsv
                unfold appendTo at h1
                split at h1
                · split at h1
                  · rename_i hbytes
                    have hv : a.eval s = .slice none 0 0 := hsv.1
                    obtain ⟨v', w', news, k1, k2, k3, k4, k5, k6⟩ := run_append_any (ty := o.type) ht hieok hsz h0 hb0 (w := c.w) (v := a.eval s) (n := 0) (inner := []) (by rw [hv]; exact oRow_nil c.w e ty.sz) (fun _ _ => leaf_one) h2 (by rw [Nat.zero_add]; exact hbytes)
                    rw [Nat.zero_add, List.nil_append] at k2
                    refine goes_row hr (exe k1) (by rw [hv] at k3; exact k3) k5 (fun g hg => ?_) k2 k6 h1
                    rw [ownsRow_blk k2] at hg
                    rcases k4 with k4 | k4
                    · rw [hg, hv] at k4; cases k4
                    · rw [hg] at k4; injection k4 with k4; omega
                  · cases h1
                · rename_i id
                  split at h1
                  · rename_i e' t1 xs hl
                    split at h1
                    · rename_i hee
                      subst hee
                      obtain ⟨hty2, h1⟩ := cast_some h1
                      have hty3 := hty2.symm
                      subst hty3
                      split at h1
                      · rename_i hbytes
                        have hv : a.eval s = c.ρ id := hsv.2.1
                        have hent := hr.entOf hl
                        obtain ⟨inner, m1, m2, m3⟩ := hent
                        have hid : id ∈ c.D := lookup_D hr.s hl
                        obtain ⟨v', w', news, k1, k2, k3, k4, k5, k6⟩ := run_append_any (ty := o.type) ht hieok hsz h0 hb0 (w := c.w) (v := a.eval s) (by rw [hv]; exact m1) (fun _ _ => leaf_one) h2 hbytes
                        have hbk : blk (c.ρ id) = oBlk (c.ρ id) := ownsRow_blk m1
                        have hold : ∀ k, k < c.w.heap.size → some k ≠ blk (c.ρ id) → w'.heap[k]? = c.w.heap[k]? := fun k hk hne => k3.block k hk (by rw [hv, ← hbk]; exact hne)
                        have hbl : Below 0 c.w w' := ⟨k3.os, k3.tape, k3.output, k3.size, fun k hk => absurd hk (Nat.not_lt_zero k)⟩
                        have hrow : ∀ g, c.ρ id ≠ .pointer (some ⟨g, 0, none⟩) := row_not_ptr (hr.entOf hl) (.inl rfl)
                        have hkill := leaf_kill (y := v') hr.s hl hold hrow
                        have hy : ∀ g, blk v' = some g → blk (c.ρ id) = some g ∨ c.w.heap.size ≤ g := by
                          intro g hg
                          rw [ownsRow_blk k2] at hg
                          rcases k4 with k4 | k4
                          · left; rw [hbk, ← hg, k4, hv]
                          · right; rw [hg] at k4; injection k4 with k4; omega
                        have hlv : ∀ (zs : List ty.den) l, l ∈ zs.flatMap (leaves true ty) → killL id l = l := by
                          intro zs l hl
                          obtain ⟨z, _, hz⟩ := List.mem_flatMap.mp hl
                          have := idsL_leaves true ty z l hz
                          cases l <;> first | rfl | cases this
                        have mvl : ∀ (zs : List ty.den) ns, All2 (leafRel c) (zs.flatMap (leaves true ty)) ns → All2 (leafRel (c.turn w' id v')) (zs.flatMap (leaves true ty)) ns := by
                          intro zs ns hh
                          refine hh.mono_mem fun l hl u hu => ?_
                          have := hkill l u hu
                          rwa [hlv zs l hl] at this
                        obtain ⟨q1, q2⟩ := hr.turn (w1 := w') (y := v') (e1 := .row e ty (xs ++ ys)) (f := killL id) hl hold hbl hy hkill (fun l hl => by cases l <;> first | rfl | cases hl)
                          ⟨inner ++ news, by
                            show oRow _ e ty.sz (if id = id then v' else c.ρ id) (xs ++ ys).length _
                            rw [if_pos rfl, List.length_append]
                            exact k2, by
                            show ∀ g, blk (if id = id then v' else c.ρ id) = some g → ¬ c.T g
                            rw [if_pos rfl]
                            intro g hg hT
                            rcases hy g hg with h9 | h9
                            · exact m2 g h9 hT
                            · have := hr.s.lt g hT
                              omega, by
                            rw [List.flatMap_append]
                            exact (mvl _ _ m3).append (mvl _ _ k6)⟩
                        intro next Q hn
                        have tm : Tame true c (c.turn w' id v') := by
                          intro M
                          refine ⟨k3.size, fun k hk hrr _ => hold k hk (fun hb => hrr rfl id hid (by rw [hbk] at hb; exact hb.symm)), fun i hi g hg hlt => ?_, fun i hM hi g hg hlt => ?_, fun k hk _ => .inl hk, fun i hi g hg hlt => ?_⟩
                          · by_cases hi0 : i = id
                            · rw [hi0, show (c.turn w' id v').ρ id = v' from if_pos rfl] at hg
                              rcases hy g (ownBlock_blk hg) with h9 | h9
                              · exact .inl ⟨id, hid, by rw [← hbk]; exact h9⟩
                              · omega
                            · rw [show (c.turn w' id v').ρ i = c.ρ i from if_neg hi0] at hg
                              exact .inl ⟨i, hi, hg⟩
                          · rcases hg with hg | hg
                            · by_cases hi0 : i = id
                              · rw [hi0, show (c.turn w' id v').ρ id = v' from if_pos rfl] at hg
                                rcases hy g hg with h9 | h9
                                · exact ⟨id, by rw [← hi0]; exact hM, hid, .inl h9⟩
                                · omega
                              · rw [show (c.turn w' id v').ρ i = c.ρ i from if_neg hi0] at hg
                                exact ⟨i, hM, hi, .inl hg⟩
                            · exact ⟨i, hM, hi, .inr hg⟩
                          · rcases hg with hg | hg
                            · by_cases hi0 : i = id
                              · rw [hi0, show (c.turn w' id v').ρ id = v' from if_pos rfl] at hg
                                rcases hy g hg with h9 | h9
                                · exact ⟨id, hid, .inl h9⟩
                                · omega
                              · rw [show (c.turn w' id v').ρ i = c.ρ i from if_neg hi0] at hg
                                exact ⟨i, hi, .inl hg⟩
                            · exact ⟨i, hi, .inr hg⟩
                        refine wp_val (exe k1) (hn _ _ _ _ h1 q1 ?_ q2 tm)
                        exact ⟨hid, by show v' = (if id = id then v' else c.ρ id); rw [if_pos rfl], k5⟩
                      · cases h1
                    · cases h1
                  · cases h1
                · cases h1
              · cases h
            · cases h
          · cases h
        · cases h
      · cases h
    · cases h
  · cases h

/-! ### Slice expressions -/
theorem run_bounds {w : World} {isSlice : Bool} {len cap l h : Nat} {lo hi : Option Value} (hhi : (hi = none ∧ h = len) ∨ ∃ k, hi = some (.int k h)) (hc : h ≤ cap) (hlo : (lo = none ∧ l = 0) ∨ ∃ k, lo = some (.int k l)) (hlh : l ≤ h) :
    (Instr.sliceBounds isSlice len cap lo hi none).run P w = .ok (l, h, cap) w := by
  have e1 : ∀ (k : IntKind) (x y : Nat) (code : BoundsCode), x ≤ y → (Instr.sliceBound (.int k (x : Int)) y code).run P w = .ok x w := fun k x y code hxy => by
    rw [run_sliceBound w k x y code (by omega) (by omega)]
    simp
  rcases hhi with ⟨rfl, rfl⟩ | ⟨k, rfl⟩ <;> rcases hlo with ⟨rfl, rfl⟩ | ⟨k', rfl⟩ <;> simp [Instr.sliceBounds, e1, hc, hlh]

theorem loOf_some {lo : Option Operand} {K' : Nat → Option R} (h : loOf st lo K' = some r) (hr : Rel c st a.tmps) : ∃ l, K' l = some r ∧ ((lo.map a.eval = none ∧ l = 0) ∨ ∃ k, lo.map a.eval = some (.int k l)) := by
  unfold loOf at h
  split at h
  · exact ⟨0, h, .inl ⟨rfl, rfl⟩⟩
  · rename_i x
    obtain ⟨k, n, hn, h⟩ := intOf_some h
    have h1 := hr.ev x
    rw [hn] at h1
    have h1 : a.eval x = .int k n := h1.1
    split at h
    · rename_i h0
      obtain ⟨m, rfl⟩ := Int.eq_ofNat_of_zero_le h0
      exact ⟨_, h, .inr ⟨k, by simp [h1]⟩⟩
    · cases h
theorem hiOf_some {hi : Option Operand} {len : Nat} {K' : Nat → Option R} (h : hiOf st hi len K' = some r) (hr : Rel c st a.tmps) : ∃ l, K' l = some r ∧ l ≤ len ∧ ((hi.map a.eval = none ∧ l = len) ∨ ∃ k, hi.map a.eval = some (.int k l)) := by
  unfold hiOf at h
  split at h
  · exact ⟨len, h, Nat.le_refl _, .inl ⟨rfl, rfl⟩⟩
  · rename_i x
    obtain ⟨k, n, hn, h⟩ := intOf_some h
    have h1 := hr.ev x
    rw [hn] at h1
    have h1 : a.eval x = .int k n := h1.1
    split at h
    · rename_i h0
      split at h
      · rename_i hle
        obtain ⟨m, rfl⟩ := Int.eq_ofNat_of_zero_le h0
        exact ⟨_, h, by simp; omega, .inr ⟨k, by simp [h1]⟩⟩
      · cases h
    · cases h
theorem boundsOf_some {lo hi : Option Operand} {len : Nat} {K' : Nat → Nat → Option R} (h : boundsOf st lo hi len K' = some r) (hr : Rel c st a.tmps) :
    ∃ l hh, K' l hh = some r ∧ l ≤ hh ∧ hh ≤ len ∧ ((hi.map a.eval = none ∧ hh = len) ∨ ∃ k, hi.map a.eval = some (.int k hh)) ∧ ((lo.map a.eval = none ∧ l = 0) ∨ ∃ k, lo.map a.eval = some (.int k l)) := by
  unfold boundsOf at h
  obtain ⟨hh, h1, h2, h3⟩ := hiOf_some h hr
  obtain ⟨l, k1, k2⟩ := loOf_some h1 hr
  split at k1
  · exact ⟨l, hh, k1, by assumption, h2, h3, k2⟩
  · cases k1

theorem prow_slice {S : Nat → Prop} {w : World} {t : Ty} {A : Option Addr} {xs : List t.den} {l h m : Nat} (hp : PRow S w t A xs) (hlh : l ≤ h) (hh : h ≤ xs.length) (hm : xs.length ≤ m) :
    PRow S w t (if m = l then A else A.map (·.add (l * t.sz))) ((xs.take h).drop l) := by
  refine ⟨?_, fun h0 => ?_⟩
  · have := hp.1
    simp only [List.length_drop, List.length_take]
    omega
  · simp only [List.length_drop, List.length_take] at h0
    have h1 : l < h := by omega
    obtain ⟨ad, k1, k2, k3⟩ := hp.2 (by omega)
    rw [if_neg (by omega), k1]
    refine ⟨_, rfl, by rw [add_block]; exact k2, fun j x hj => ?_⟩
    rw [List.getElem?_drop, List.getElem?_take] at hj
    split at hj
    · obtain ⟨cs, q1, q2, q3⟩ := k3 _ x hj
      refine ⟨cs, q1, q2, fun i u hu => ?_⟩
      rw [Go.Deep.add_add, ← Nat.add_assoc, ← Nat.add_mul]
      exact q3 i u hu
    · cases hj

theorem goes_slice (htb : tb.ok0 P) {ap : Bool} {t : TypeId} {x : Operand} {lo hi : Option Operand} (ho : o.op = .slice t x lo hi none) (hr : Rel c st a.tmps)
    (h : evSlice tb t x lo hi st K = some r) : OpGoesT P o c a K r ap := by
  unfold evSlice at h
  split at h
  · rename_i i hi
    have hti := htb.ti _ _ hi
    have hu := hti.under
    split at h
    · rename_i hd
      rw [hd] at hu
      split at h
      · rename_i s hx
        obtain ⟨l, hh, h1, h2, h3, h4, h5⟩ := boundsOf_some h hr
        have hxv := hr.ev x
        rw [hx] at hxv
        have hxv : a.eval x = .string s := hxv.1
        refine (goes_quiet hr (y := .string (s.extract l hh)) (fun w => ?_) h1 ⟨rfl, rfl⟩).goesT hr ap
        unfold execOp
        rw [ho]
        have hb := run_bounds (P := P) (w := w) (isSlice := false) (cap := s.size) h4 h3 h5 h2
        simp only [Sem.run_bind, Instr.sliceAt, Instr.slice, run_underlying hu, hxv, Result.andThen_ok, Option.map_none, hb, Sem.run_pure, Option.isSome_none, Bool.false_eq_true, if_false]
      · cases h
    · rename_i e hd
      rw [hd] at hu
      split at h
      · rename_i ie hie
        obtain ⟨f, z, hf, hf2, _⟩ := (htb.ti _ _ hie).info
        split at h
        · rename_i ty hty
          split at h
          · rename_i hsz
            have hxv := hr.ev x
            split at h
            · rename_i lf hx
              rw [hx] at hxv
              obtain ⟨xs, st1, c1, g1, g2, g3, g4, A, n, g5, g6, g7⟩ := asRd_some h hr (Later.refl hr.s) hxv
              obtain ⟨l, hh, h1, h2, h3, h4, h5⟩ := boundsOf_some g1 hr
              refine later_goes g3.step g3.w g3.tame (fun hr1 => ?_) g2
              refine (goes_quiet hr1 (y := .slice (if n = l then A else A.map (·.add (l * ty.sz))) (hh - l) (n - l)) (fun w => ?_) h1 ?_).goesT hr1 ap
              · unfold execOp
                rw [ho]
                have hb := run_bounds (P := P) (w := w) (isSlice := true) (len := xs.length) (cap := n) h4 (Nat.le_trans h3 g6) h5 h2
                simp only [Sem.run_bind, Instr.sliceAt, Instr.slice, run_underlying hu, g5, Result.andThen_ok, Option.map_none, hb, Sem.run_pure, sizeOf, typeInfo, run_program, hf, hf2, hsz]
              · refine ⟨_, _, by rw [List.length_drop, List.length_take, Nat.min_eq_left h3], by simp only [List.length_drop, List.length_take]; omega, ?_⟩
                have hS : rdS (if ltOf lf = true then Md.keep else Md.hold) c1 = c1.S (ltOf lf) := by cases ltOf lf <;> rfl
                rw [← hS]
                exact prow_slice g7 h2 h3 g6
            · cases h
          · cases h
        · cases h
      · cases h
    · cases h
  · cases h

theorem goes_slice3 (htb : tb.ok0 P) {ap : Bool} {t : TypeId} {x hh mm : Operand} (ho : o.op = .slice t x none (some hh) (some mm)) (hr : Rel c st a.tmps)
    (h : evSlice3 tb t x hh mm st K = some r) : OpGoesT P o c a K r ap := by
  unfold evSlice3 at h
  split at h
  · rename_i i hi
    have hti := htb.ti _ _ hi
    have hu := hti.under
    split at h
    · rename_i e hd
      rw [hd] at hu
      split at h
      · rename_i ie hie
        obtain ⟨f, z, hf, hf2, _⟩ := (htb.ti _ _ hie).info
        split at h
        · rename_i ty hty
          split at h
          · rename_i hsz
            obtain ⟨k1, n, hn, h6⟩ := intOf_some h
            clear h
            obtain ⟨k2, m, hm, h⟩ := intOf_some h6
            clear h6
            split at h
            · rename_i h0
              obtain ⟨rfl, rfl⟩ := h0
              have hh1 := hr.ev hh
              rw [hn] at hh1
              have hh1 : a.eval hh = .int k1 0 := hh1.1
              have hm1 := hr.ev mm
              rw [hm] at hm1
              have hm1 : a.eval mm = .int k2 0 := hm1.1
              have key : ∀ {A : Option Addr} {l m : Nat}, a.eval x = .slice A l m → K (.lf (.own (fresh st.store))) (st.add (.row e ty [])) = some r → OpGoesT P o c a K r ap := by
                intro A l m hx hk
                refine goes_row (t := ty) (xs := []) (w1 := c.w) (y := .slice A 0 0) (inner := []) hr ?_ ⟨rfl, rfl, rfl, Nat.le_refl _, fun _ _ _ => rfl⟩ rfl (fun g hg => by cases A <;> cases hg) ⟨by simp, .inl ⟨A, rfl, rfl⟩⟩ trivial hk
                unfold execOp
                rw [ho]
                simp [Sem.run_bind, Instr.sliceAt, Instr.slice, Instr.sliceBounds, run_underlying hu, hx, hh1, hm1, run_sliceBound, sizeOf, typeInfo, run_program, hf]
              have hxv := hr.ev x
              split at h
              · rename_i hx
                rw [hx] at hxv
                exact key hxv.1 h
              · obtain ⟨_, _, _, h1, A, m, h2, _⟩ := sliceOf_some h hr.s hxv
                exact key h2 h1
            · cases h
          · cases h
        · cases h
      · cases h
    · cases h
  · cases h

end
end Go.Proofs.Ytdacfaincamliaa.Ev
