/- The evaluator's steps that read memory are true of the machine. Conditions: none. -/
import Derived.Test.YtdacfaincamliaaEvPure
namespace Go.Proofs.Ytdacfaincamliaa.Ev
open Go Go.RowKit

section
variable {P : Program} {c : Cx} {st : St} {R : Type} {a : Act} {tb : Tb} {o : Oper} {K : AV → St → Option R} {r : R}

theorem add_at (g o n : Nat) : (⟨g, o, none⟩ : Addr).add n = ⟨g, o + n, none⟩ := by unfold Addr.add; split <;> simp_all

theorem lookup_mem {store : List (Nat × Ent)} {id : Nat} {e : Ent} (h : lookup store id = some e) : (id, e) ∈ store := by
  unfold lookup at h
  obtain ⟨p, hp, rfl⟩ := Option.map_eq_some_iff.mp h
  have h1 := List.mem_of_find?_eq_some hp
  have h2 := List.find?_some hp
  have : p.1 = id := by simpa using h2
  rw [← this]
  exact h1
theorem Rel.entOf {tmps : Array Value} (h : Rel c st tmps) {id : Nat} {e : Ent} (hl : lookup st.store id = some e) : entRel c id e := h.s.ent _ _ (lookup_mem hl)
theorem lookup_D (h : SRel c st.store) {id : Nat} {e : Ent} (hl : lookup st.store id = some e) : id ∈ c.D := by
  rw [h.ids]
  exact List.mem_map.mpr ⟨_, lookup_mem hl, rfl⟩

theorem entRel.lt {id : Nat} {e : Ent} (h : entRel c id e) {g : Nat} (hb : blk (c.ρ id) = some g) : g < c.w.heap.size := by
  cases e with
  | box t cells =>
    obtain ⟨g', conc, h1, _, h2, _⟩ := h
    rw [h1] at hb
    obtain rfl : g' = g := by simpa [blk] using hb
    exact (Array.getElem?_eq_some_iff.mp h2).1
  | row e t xs =>
    obtain ⟨inner, h1, _⟩ := h
    exact ownsRow_lt h1 hb
  | lrow e t n cells =>
    obtain ⟨inner, h1, _⟩ := h
    exact ownsRow_lt h1 hb
  | deep e t xs =>
    obtain ⟨inner, B, h1, _⟩ := h
    exact ownsRow_lt h1 hb
  | zip e t l cells r =>
    obtain ⟨i0, i1, i2, B0, B2, h1, _⟩ := h
    exact ownsRow_lt h1 hb
theorem entRel.notT {id : Nat} {e : Ent} (h : entRel c id e) {g : Nat} (hb : blk (c.ρ id) = some g) : ¬ c.T g := by
  cases e with
  | box t cells =>
    obtain ⟨g', conc, h1, h3, _⟩ := h
    rw [h1] at hb
    obtain rfl : g' = g := by simpa [blk] using hb
    exact h3
  | row e t xs =>
    obtain ⟨inner, _, h2, _⟩ := h
    exact h2 g hb
  | lrow e t n cells =>
    obtain ⟨inner, _, h2, _⟩ := h
    exact h2 g hb
  | deep e t xs =>
    obtain ⟨inner, B, _, h2, _⟩ := h
    exact (h2 g hb).1
  | zip e t l cells r =>
    obtain ⟨i0, i1, i2, B0, B2, _, h2, _⟩ := h
    exact (h2 g hb).1
theorem SRel.ltX {store : List (Nat × Ent)} (h : SRel c store) {i g : Nat} (hi : i ∈ c.D) (hg : c.ow i g) : g < c.w.heap.size := by
  rcases hg with hg | hg
  · rw [h.ids] at hi
    obtain ⟨p, hp, rfl⟩ := List.mem_map.mp hi
    exact (h.ent p.1 p.2 hp).lt hg
  · exact (h.ext i g hi hg).2
theorem SRel.notTX {store : List (Nat × Ent)} (h : SRel c store) {i g : Nat} (hi : i ∈ c.D) (hg : c.ow i g) : ¬ c.T g := by
  rcases hg with hg | hg
  · rw [h.ids] at hi
    obtain ⟨p, hp, rfl⟩ := List.mem_map.mp hi
    exact (h.ent p.1 p.2 hp).notT hg
  · exact (h.ext i g hi hg).1

theorem goes_nilCheck {x : Operand} (ho : o.op = .nilCheck x) (hr : Rel c st a.tmps)
    (h : (match st.ev x with | .one (.lf (.ptr id off)) => K (.lf (.ptr id off)) st | .one (.lf (.rdp lt t y off)) => K (.lf (.rdp lt t y off)) st | _ => none) = some r) : Quiet P o c a st K r := by
  split at h
  · rename_i id off hx
    have h1 := hr.ev x
    rw [hx] at h1
    obtain ⟨h2, g, h3, h4⟩ := h1
    refine goes_quiet hr (fun w => ?_) h (y := a.eval x) ⟨h2, g, h3, h4⟩
    unfold execOp
    rw [ho]
    simp only [h4, Sem.run_pure]
  · rename_i lt t y off hx
    have h1 := hr.ev x
    rw [hx] at h1
    obtain ⟨ad, h2, h3⟩ := h1
    refine goes_quiet hr (fun w => ?_) h (y := a.eval x) ⟨ad, h2, h3⟩
    unfold execOp
    rw [ho]
    simp only [h2, Sem.run_pure]
  · cases h

theorem goes_extract {x : Operand} {i : Nat} (ho : o.op = .extract x i) (hr : Rel c st a.tmps)
    (h : (match st.ev x with | .tup vs => (match vs[i]? with | some v => K (.one v) st | none => none) | _ => none) = some r) : Quiet P o c a st K r := by
  split at h
  · rename_i vs hx
    split at h
    · rename_i v hv
      have h1 := hr.ev x
      rw [hx] at h1
      obtain ⟨ws, h2, h3⟩ := h1
      obtain ⟨y, hy, hvy⟩ := h3.get i v hv
      refine goes_quiet hr (fun w => ?_) h (y := y) hvy
      unfold execOp
      rw [ho]
      have hy' : ws[i]? = some y := by rw [← Array.getElem?_toList]; exact hy
      simp only [h2, Instr.extract, hy', Sem.run_bind, Sem.run_pure, Result.andThen_ok]
    · cases h
  · cases h

theorem fieldAt_spec (htb : tb.ok0 P) {s : TypeId} {i off size : Nat} (h : fieldAt tb s i = some (off, size)) :
    ∃ (fs : Array Field) (f : Field) (j : TypeInfo), P.underlying s = some (.struct fs) ∧ fs[i]? = some f ∧ f.offset = off ∧ P.info? f.type = some j ∧ j.size = size := by
  unfold fieldAt fieldsOf at h
  split at h
  · rename_i fs hfs
    split at h
    · rename_i f hf
      split at h
      · rename_i j hj
        injection h with h
        injection h with h1 h2
        split at hfs
        · rename_i ii hii
          split at hfs
          · rename_i fs' hd
            injection hfs with hfs
            subst hfs
            obtain ⟨k, z, hk, hk2, _⟩ := (htb.ti _ _ hj).info
            refine ⟨_, f, k, ?_, hf, h1, hk, by rw [hk2, h2]⟩
            have := (htb.ti _ _ hii).under
            rwa [hd] at this
          · cases hfs
        · cases hfs
      · cases h
    · cases h
  · cases h

theorem run_fieldAt {s : TypeId} {i : Nat} {fs : Array Field} {f : Field} {j : TypeInfo} {w : World} {ad : Addr} (h1 : P.underlying s = some (.struct fs)) (h2 : fs[i]? = some f) (h3 : P.info? f.type = some j) (h4 : 0 < j.size) :
    (Instr.fieldAt s (.pointer (some ad)) i).run P w = .ok (.pointer (some (ad.add f.offset))) w := by
  have h5 : ¬ j.size = 0 := by omega
  simp [Instr.fieldAt, run_underlying h1, h2, Instr.sureAddr, fieldPlace, sizeOf, typeInfo, h3, h5]

theorem goes_fieldAddr (htb : tb.ok0 P) {s : TypeId} {x : Operand} {f : Nat} (ho : o.op = .fieldAddr s x f) (hr : Rel c st a.tmps)
    (h : (match fieldAt tb s f with
    | some (off, size) =>
      if 0 < size then
        match st.ev x with
        | .one (.lf (.ptr id o)) => K (.lf (.ptr id (o + off))) st
        | .one (.lf (.elp id sz j o)) => K (.lf (.elp id sz j (o + off))) st
        | .one (.lf (.rdp lt ty y o)) => K (.lf (.rdp lt ty y (o + off))) st
        | _ => none
      else none
    | none => none) = some r) : Quiet P o c a st K r := by
  split at h
  · rename_i off size hf
    obtain ⟨fs, fd, j, u1, u2, u3, u4, u5⟩ := fieldAt_spec htb hf
    split at h
    · rename_i hs
      have hrun : ∀ ad, a.eval x = .pointer (some ad) → ∀ w, (execOp a.eval o).run P w = .ok (.value (.pointer (some (ad.add off)))) w := by
        intro ad hx w
        unfold execOp
        rw [ho]
        simp only [hx, Sem.run_bind, run_fieldAt u1 u2 u4 (by omega), Result.andThen_ok, Sem.run_pure, u3]
      have h1 := hr.ev x
      split at h
      · rename_i id o' hx
        rw [hx] at h1
        obtain ⟨h2, g, h3, h4⟩ := h1
        exact goes_quiet hr (hrun _ h4) h ⟨h2, g, h3, by rw [add_at]⟩
      · rename_i id sz j' o' hx
        rw [hx] at h1
        obtain ⟨h2, g, n, m, h3, h4⟩ := h1
        exact goes_quiet hr (hrun _ h4) h ⟨h2, g, n, m, h3, by rw [add_at, Nat.add_assoc]⟩
      · rename_i lt ty y o' hx
        rw [hx] at h1
        obtain ⟨ad, h2, h3, cs, h4, h5⟩ := h1
        refine goes_quiet hr (hrun _ h2) h ⟨_, rfl, by rw [add_block]; exact h3, cs, h4, fun i u hu => ?_⟩
        rw [Go.Deep.add_add]
        exact h5 _ _ (by rw [← Nat.add_assoc]; exact hu)
      · cases h
    · cases h
  · cases h

/-- The leaves of many elements, by the element. -/
theorem seg_leaves (lt : Bool) (t : Ty) : ∀ (xs : List t.den) (j : Nat), j < xs.length → ((xs.flatMap (leaves lt t)).drop (j * t.sz)).take t.sz = leaves lt t (xs.getD j t.dflt)
  | [], j, h => by simp at h
  | x :: xs, 0, _ => by
    simp only [List.flatMap_cons, Nat.zero_mul, List.drop_zero, List.getD_cons_zero]
    rw [List.take_append_of_le_length (by rw [leaves_length]; exact Nat.le_refl _), List.take_of_length_le (by rw [leaves_length]; exact Nat.le_refl _)]
  | x :: xs, j + 1, h => by
    simp only [List.flatMap_cons, List.getD_cons_succ]
    rw [show (j + 1) * t.sz = (leaves lt t x).length + j * t.sz by rw [leaves_length, Nat.add_mul, Nat.one_mul, Nat.add_comm], List.drop_append, List.drop_of_length_le (by omega), List.nil_append, Nat.add_sub_cancel_left]
    exact seg_leaves lt t xs j (by simpa using h)
theorem flatMap_leaves_length (lt : Bool) (t : Ty) (xs : List t.den) : (xs.flatMap (leaves lt t)).length = xs.length * t.sz := by
  induction xs with
  | nil => simp
  | cons x xs ih => rw [List.flatMap_cons, List.length_append, leaves_length, ih, List.length_cons, Nat.add_mul, Nat.one_mul, Nat.add_comm]

theorem run_indexAt {t e : TypeId} {k : IntKind} {i : Int} {ad : Addr} {n m : Nat} {f : TypeInfo} {w : World} (ht : P.underlying t = some (.slice e)) (hf : P.info? e = some f) (h0 : 0 ≤ i) (h1 : i < n) :
    (Instr.indexAt t (.slice (some ad) n m) (.int k i)).run P w = .ok (.pointer (some (ad.add (i.toNat * f.size)))) w := by
  simp [Instr.indexAt, asIntOf, run_underlying ht, h0, h1, sizeOf, typeInfo, hf]

/-- What a slice is, in memory. -/
theorem sliceOf_some {v : AV} {K' : Nat → Nat → (Nat → Nat → Leaf) → Option R} {y : Value} (h : sliceOf st v K' = some r) (hs : SRel c st.store) (hv : avRel c v y) :
    ∃ sz len place, K' sz len place = some r ∧ ∃ A m, y = .slice A len m ∧
      ∀ j, j < len → ∃ ad, A = some ad ∧ leafRel c (place j 0) (.pointer (some (ad.add (j * sz)))) := by
  unfold sliceOf at h
  split at h
  · rename_i lt e t xs
    obtain ⟨A, n, h1, h2, h3⟩ := hv
    refine ⟨t.sz, xs.length, _, h, A, n, h1, fun j hj => ?_⟩
    obtain ⟨ad, h4, h5, h6⟩ := h3.2 (by omega)
    obtain ⟨cs, h7, h8, h9⟩ := h6 j (xs.getD j t.dflt) (by simp [List.getD_eq_getElem?_getD, hj])
    exact ⟨ad, h4, _, rfl, by rw [add_block]; exact h5, cs, h8, fun i u hu => by rw [Go.Deep.add_add]; exact h9 i u (by simpa using hu)⟩
  · rename_i id
    split at h
    · rename_i e t xs hl
      obtain ⟨h1, h2, h3⟩ := hv
      obtain ⟨inner, h4, h5, h6⟩ := hs.ent _ _ (lookup_mem hl)
      rcases h4.2 with ⟨A0, h7, h8⟩ | ⟨g, cap, cur, h7, _, h8, h9, h10, h11, h12⟩
      · exact ⟨t.sz, xs.length, _, h, A0, 0, by rw [h2, h7, h8], fun j hj => by omega⟩
      · exact ⟨t.sz, xs.length, _, h, some ⟨g, 0, none⟩, cap + 1, by rw [h2, h7], fun j hj => ⟨_, rfl, h1, g, _, _, h7, by rw [add_at]; simp⟩⟩
    · rename_i e t n cells hl
      obtain ⟨h1, h2, h3⟩ := hv
      obtain ⟨inner, h4, h5, h6⟩ := hs.ent _ _ (lookup_mem hl)
      rcases h4.2 with ⟨A0, h7, h8⟩ | ⟨g, cap, cur, h7, _, h8, h9, h10, h11, h12⟩
      · exact ⟨t.sz, n, _, h, A0, 0, by rw [h2, h7, h8], fun j hj => by omega⟩
      · exact ⟨t.sz, n, _, h, some ⟨g, 0, none⟩, cap + 1, by rw [h2, h7], fun j hj => ⟨_, rfl, h1, g, _, _, h7, by rw [add_at]; simp⟩⟩
    · rename_i e t xs hl
      obtain ⟨h1, h2, h3⟩ := hv
      obtain ⟨inner, B, h4, h5, h6⟩ := hs.ent _ _ (lookup_mem hl)
      rcases h4.2 with ⟨A0, h7, h8⟩ | ⟨g, cap, cur, h7, _, h8, h9, h10, h11, h12⟩
      · exact ⟨t.sz, xs.length, _, h, A0, 0, by rw [h2, h7, h8], fun j hj => by omega⟩
      · exact ⟨t.sz, xs.length, _, h, some ⟨g, 0, none⟩, cap + 1, by rw [h2, h7], fun j hj => ⟨_, rfl, h1, g, _, _, h7, by rw [add_at]; simp⟩⟩
    · rename_i e t l cells r' hl
      obtain ⟨h1, h2, h3⟩ := hv
      obtain ⟨i0, i1, i2, B0, B2, h4, h5, h6⟩ := hs.ent _ _ (lookup_mem hl)
      rcases h4.2 with ⟨A0, h7, h8⟩ | ⟨g, cap, cur, h7, _, h8, h9, h10, h11, h12⟩
      · omega
      · exact ⟨t.sz, _, _, h, some ⟨g, 0, none⟩, cap + 1, by rw [h2, h7], fun j hj => ⟨_, rfl, h1, g, _, _, h7, by rw [add_at]; simp⟩⟩
    · cases h
  · cases h

theorem goes_indexAddr (htb : tb.ok0 P) {t : TypeId} {x i : Operand} (ho : o.op = .indexAddr t x i) (hr : Rel c st a.tmps)
    (h : (match tb.ti t with
    | some ti =>
      match ti.desc with
      | .slice e =>
        match tb.ti e with
        | some ie =>
          intOf (st.ev i) fun _ n =>
            sliceOf st (st.ev x) fun sz len place =>
              if ie.size = sz then
                if 0 ≤ n then if n < len then K (.lf (place n.toNat 0)) st else none else none
              else none
        | none => none
      | _ => none
    | none => none) = some r) : Quiet P o c a st K r := by
  split at h
  · rename_i ti hti
    split at h
    · rename_i e hd
      split at h
      · rename_i ie hie
        obtain ⟨k, n, hn, h⟩ := intOf_some h
        obtain ⟨sz, len, place, h, A, m, hy, hp⟩ := sliceOf_some h hr.s (hr.ev x)
        split at h
        · rename_i hsz
          split at h
          · rename_i h0
            split at h
            · rename_i h1
              have hu := (htb.ti _ _ hti).under
              rw [hd] at hu
              obtain ⟨f, z, hf, hf2, _⟩ := (htb.ti _ _ hie).info
              obtain ⟨ad, rfl, hpl⟩ := hp n.toNat (by omega)
              have hi := hr.ev i
              rw [hn] at hi
              have hi : a.eval i = .int k n := hi.1
              refine goes_quiet hr (fun w => ?_) h hpl
              unfold execOp
              rw [ho]
              simp only [hy, hi, Sem.run_bind, run_indexAt hu hf h0 h1, Result.andThen_ok, Sem.run_pure, hf2, hsz]
            · cases h
          · cases h
        · cases h
      · cases h
    · cases h
  · cases h

theorem lenOf_some {v : AV} {K' : Int → Option R} {y : Value} (h : lenOf st v K' = some r) (hs : SRel c st.store) (hv : avRel c v y) :
    ∃ n : Nat, K' n = some r ∧ ((∃ A m, y = .slice A n m) ∨ (∃ s : ByteArray, y = .string s ∧ s.size = n)) := by
  unfold lenOf at h
  split at h
  · exact ⟨0, h, .inl ⟨none, 0, hv.1⟩⟩
  · rename_i s
    exact ⟨s.size, h, .inr ⟨s, hv.1, rfl⟩⟩
  · obtain ⟨sz, len, place, h1, A, m, h2, _⟩ := sliceOf_some h hs hv
    exact ⟨len, h1, .inl ⟨A, m, h2⟩⟩

/-! ### Loads -/
theorem run_load_leaves {t : TypeId} {i : TI} (hi : TI.ok P t i) {w : World} {ad : Addr} {ls : List Leaf} {cs : List Value} (h : All2 (leafRel c) ls cs) (hl : ls.length = i.size) (hc : ∀ j u, cs[j]? = some u → w.cell? (ad.add j) = some u) (hor : i.isAgg = true ∨ i.size = 1) :
    ∃ y, (∀ w', w'.heap[ad.block]? = w.heap[ad.block]? → (Instr.loadAt t (.pointer (some ad))).run P w' = .ok y w') ∧ avRel c (ofLeaves i.isAgg ls) y := by
  obtain ⟨f, z, hf, hf2, _⟩ := hi.info
  have hlen := h.length
  have hcw : ∀ w' : World, w'.heap[ad.block]? = w.heap[ad.block]? → ∀ j u, cs[j]? = some u → w'.cell? (ad.add j) = some u := fun w' hw j u hu => by
    exact (World.cell?_of_block (w := w) (w' := w') (a := ad.add j) (by rw [add_block]; exact hw)).trans (hc j u hu)
  cases hg : i.isAgg with
  | true =>
    refine ⟨.agg cs.toArray, fun w' hw => ?_, ⟨cs.toArray, rfl, by simpa using h⟩⟩
    have hll := run_loadCells_list (P := P) w' ad cs (hcw w' hw)
    have hg' := isAgg_run hi (w := w')
    rw [hg] at hg'
    simp only [Instr.loadAt, Instr.sureAddr, loadVar, Sem.run_bind, Sem.run_pure, Result.andThen_ok, hg', if_true, sizeOf, typeInfo, run_program, hf, hf2, ← hl, hlen, hll]
  | false =>
    have h1 : i.size = 1 := by rcases hor with h | h; · rw [hg] at h; cases h
                               · exact h
    match ls, cs, h with
    | [l], [y], h =>
      refine ⟨y, fun w' hw => ?_, h.1⟩
      have hg' := isAgg_run hi (w := w')
      rw [hg] at hg'
      have hcell := hcw w' hw 0 y rfl
      rw [show ad.add 0 = ad by simp [Addr.add]] at hcell
      simp only [Instr.loadAt, Instr.sureAddr, loadVar, Sem.run_bind, Sem.run_pure, Result.andThen_ok, hg', Bool.false_eq_true, if_false, run_load, hcell]
    | [], _, _ => simp [h1] at hl
    | _ :: _ :: _, _, _ => simp [h1] at hl

theorem goes_field (htb : tb.ok0 P) {s : TypeId} {x : Operand} {f : Nat} (ho : o.op = .field s x f) (hr : Rel c st a.tmps)
    (h : evField tb s f (st.ev x) (fun v => K v st) = some r) : Quiet P o c a st K r := by
  unfold evField at h
  split at h
  · rename_i fs hfs
    split at h
    · rename_i fd hfd
      split at h
      · rename_i i hti
        split at h
        · rename_i ls hx
          split at h
          · rename_i hcond
            have hu : P.underlying s = some (.struct fs) := by
              unfold fieldsOf at hfs
              split at hfs
              · rename_i ii hii
                split at hfs
                · rename_i fs' hd
                  injection hfs with hfs
                  subst hfs
                  have := (htb.ti _ _ hii).under
                  rwa [hd] at this
                · cases hfs
              · cases hfs
            have hi := htb.ti _ _ hti
            obtain ⟨ff, z, hf, hf2, _⟩ := hi.info
            have hxv := hr.ev x
            rw [hx] at hxv
            obtain ⟨cs, hcs, hls⟩ := hxv
            have hlen := hls.length
            have hsub := (hls.drop fd.offset).take i.size
            cases hg : i.isAgg with
            | true =>
              rw [hg] at h
              refine goes_quiet hr (fun w => ?_) h (y := .agg (cs.extract fd.offset (fd.offset + i.size))) ⟨_, rfl, ?_⟩
              · have hg' := isAgg_run hi (w := w)
                rw [hg] at hg'
                unfold execOp
                rw [ho]
                simp only [hcs, Instr.field, run_underlying hu, hfd, asAgg, part, Sem.run_bind, Sem.run_pure, Result.andThen_ok, hg', if_true, sizeOf, typeInfo, run_program, hf, hf2]
              · simpa [List.extract] using hsub
            | false =>
              rw [hg] at h
              have h1 : i.size = 1 := by
                rcases hcond.2 with h | h
                · rw [hg] at h; cases h
                · exact h
              have hlt : fd.offset < cs.size := by have := hcond.1; rw [hlen, Array.length_toList] at this; omega
              have hlt2 : fd.offset < ls.length := by omega
              have e1 : (ls.drop fd.offset).take i.size = [ls[fd.offset]] := by rw [h1, List.drop_eq_getElem_cons hlt2]; rfl
              have e2 : (cs.toList.drop fd.offset).take i.size = [cs[fd.offset]] := by rw [h1, List.drop_eq_getElem_cons (by simpa using hlt)]; rfl
              rw [e1, e2] at hsub
              rw [e1] at h
              refine goes_quiet hr (fun w => ?_) h (y := cs[fd.offset]) hsub.1
              have hg' := isAgg_run hi (w := w)
              rw [hg] at hg'
              unfold execOp
              rw [ho]
              simp only [hcs, Instr.field, run_underlying hu, hfd, asAgg, part, Sem.run_bind, Sem.run_pure, Result.andThen_ok, hg', Bool.false_eq_true, if_false, Array.getElem?_eq_getElem hlt]
          · cases h
        · cases h
      · cases h
    · cases h
  · cases h

/-- What a pointer leads to. -/
theorem evLoad_some (htb : tb.ok0 P) {t : TypeId} {p : AV} {K' : AV → Option R} {y : Value} (h : evLoad tb t p st K' = some r) (hs : SRel c st.store) (hp : avRel c p y) :
    ∃ v x ad, y = .pointer (some ad) ∧ (∀ w', w'.heap[ad.block]? = c.w.heap[ad.block]? → (Instr.loadAt t y).run P w' = .ok x w') ∧ K' v = some r ∧ avRel c v x ∧ ad.block < c.w.heap.size ∧
      (fromRow p = false → ∀ id e', (id, e') ∈ st.store → isRow e' = true → blk (c.ρ id) ≠ some ad.block) ∧
      (∀ i, i ∈ c.D → some i ≠ pid p → ¬ c.ow i ad.block) := by
  unfold evLoad at h
  split at h
  · cases h
  · rename_i i hi
    have hti := htb.ti _ _ hi
    have key : ∀ (ls : List Leaf) (off : Nat) (cs : List Value) (ad : Addr), All2 (leafRel c) ls cs → y = .pointer (some ad) → (∀ j u, cs[off + j]? = some u → c.w.cell? (ad.add j) = some u) →
        ad.block < c.w.heap.size → ((fromRow p = false → ∀ id e', (id, e') ∈ st.store → isRow e' = true → blk (c.ρ id) ≠ some ad.block) ∧ (∀ i, i ∈ c.D → some i ≠ pid p → ¬ c.ow i ad.block)) →
        (if off + i.size ≤ ls.length ∧ (i.isAgg = true ∨ i.size = 1) then K' (ofLeaves i.isAgg ((ls.drop off).take i.size)) else none) = some r →
        ∃ v x ad, y = .pointer (some ad) ∧ (∀ w', w'.heap[ad.block]? = c.w.heap[ad.block]? → (Instr.loadAt t y).run P w' = .ok x w') ∧ K' v = some r ∧ avRel c v x ∧ ad.block < c.w.heap.size ∧
          ((fromRow p = false → ∀ id e', (id, e') ∈ st.store → isRow e' = true → blk (c.ρ id) ≠ some ad.block) ∧ (∀ i, i ∈ c.D → some i ≠ pid p → ¬ c.ow i ad.block)) := by
      intro ls off cs ad ha hy hc hb hrow hk
      split at hk
      · rename_i hcond
        obtain ⟨x, h1, h2⟩ := run_load_leaves (P := P) (ad := ad) (w := c.w) hti ((ha.drop off).take i.size) (by simp; omega) (by
          intro j u hu
          rw [List.getElem?_take] at hu
          split at hu
          · rw [List.getElem?_drop] at hu
            exact hc j u hu
          · cases hu) hcond.2
        exact ⟨_, x, ad, hy, by rw [hy]; exact h1, hk, h2, hb, hrow⟩
      · cases hk
    simp only at h
    split at h
    · rename_i id off
      split at h
      · rename_i bt cells hl
        obtain ⟨h1, g, h2, h3⟩ := hp
        have hent := hs.ent _ _ (lookup_mem hl)
        have hlt := fun g hb => entRel.lt hent (g := g) hb
        obtain ⟨g', conc, h4, _, h5, h6⟩ := hent
        rw [h4] at h2
        injection h2 with h2
        injection h2 with h2
        injection h2 with h2 _ _
        subst h2
        refine key _ _ _ _ h6 h3 (fun j u hu => ?_) (hlt g' (by rw [h4]; rfl)) ⟨fun _ id' e' hm hir hb => ?_, fun i hi hne hb => hs.apartX id i g' h1 hi (fun e => hne (by rw [e]; rfl)) (.inl (by rw [h4]; rfl)) hb⟩ h
        · rw [add_at]
          simp only [World.cell?, h5]
          rw [Array.getElem?_toList] at hu
          simp [hu]
        · have hne : id ≠ id' := by
            rintro rfl
            have h9 := hs.ent _ _ hm
            cases e' with
            | box _ _ => cases hir
            | row e t xs =>
              obtain ⟨inner, h9, _⟩ := h9
              rw [h4] at h9
              rcases h9.2 with ⟨A0, h8, _⟩ | ⟨_, _, _, h8, _⟩ <;> cases h8
            | lrow e t n cells =>
              obtain ⟨inner, h9, _⟩ := h9
              rw [h4] at h9
              rcases h9.2 with ⟨A0, h8, _⟩ | ⟨_, _, _, h8, _⟩ <;> cases h8
            | deep e t xs =>
              obtain ⟨inner, B, h9, _⟩ := h9
              rw [h4] at h9
              rcases h9.2 with ⟨A0, h8, _⟩ | ⟨_, _, _, h8, _⟩ <;> cases h8
            | zip e t l cells r =>
              obtain ⟨i0, i1, i2, B0, B2, h9, _⟩ := h9
              rw [h4] at h9
              rcases h9.2 with ⟨A0, h8, _⟩ | ⟨_, _, _, h8, _⟩ <;> cases h8
          exact hs.apart id id' g' h1 (by rw [hs.ids]; exact List.mem_map.mpr ⟨_, hm, rfl⟩) hne (by rw [h4]; rfl) hb
      · cases h
    · rename_i id sz j off
      split at h
      · rename_i e ty xs hl
        split at h
        · rename_i hsz
          subst hsz
          by_cases hj : j < xs.length
          rotate_left
          · rw [if_neg hj] at h; cases h
          rw [if_pos hj] at h
          obtain ⟨h1, g, n, m, h2, h3⟩ := hp
          have hent := hs.ent _ _ (lookup_mem hl)
          have hlt := entRel.lt hent (g := g) (by rw [h2]; rfl)
          obtain ⟨inner, h4, _, h5⟩ := hent
          have h6 := (h5.drop (j * ty.sz)).take ty.sz
          rw [seg_leaves true ty xs j hj] at h6
          refine key _ _ _ _ h6 h3 (fun i u hu => ?_) hlt ⟨fun hh => by simp [fromRow] at hh, fun i hi hne hb => hs.apartX id i g h1 hi (fun e => hne (by rw [e]; rfl)) (.inl (by rw [h2]; rfl)) hb⟩ h
          rw [h2] at h4
          obtain rfl : n = xs.length := by
            rcases h4.2 with ⟨A0, h7, _⟩ | ⟨_, _, _, h7, _⟩
            · cases h7
            · injection h7
          rw [List.getElem?_take] at hu
          split at hu
          · rw [List.getElem?_drop] at hu
            rw [add_at, show j * ty.sz + off + i = j * ty.sz + (off + i) by omega, h4.cellAt _ (by
              have : j * ty.sz + ty.sz ≤ xs.length * ty.sz := by rw [← Nat.succ_mul]; exact Nat.mul_le_mul_right _ hj
              omega)]
            exact hu
          · cases hu
        · cases h
      · rename_i e ty n cells hl
        split at h
        · rename_i hcond
          obtain ⟨hsz, hj, hio⟩ := hcond
          subst hsz
          obtain ⟨h1, g, n2, m, h2, h3⟩ := hp
          have hent := hs.ent _ _ (lookup_mem hl)
          have hlt := entRel.lt hent (g := g) (by rw [h2]; rfl)
          obtain ⟨inner, h4, _, h5⟩ := hent
          refine key _ _ _ _ h5 h3 (fun i' u hu => ?_) hlt ⟨fun hh => by simp [fromRow] at hh, fun i hi hne hb => hs.apartX id i g h1 hi (fun e => hne (by rw [e]; rfl)) (.inl (by rw [h2]; rfl)) hb⟩ h
          rw [h2] at h4
          obtain rfl : n2 = n := by
            rcases h4.2 with ⟨A0, h7, _⟩ | ⟨_, _, _, h7, _⟩
            · cases h7
            · injection h7
          rw [add_at, h4.cellAt _ (by rw [← h4.1]; exact (List.getElem?_eq_some_iff.mp hu).1)]
          exact hu
        · cases h
      · rename_i e ty l cells r0 hl
        split at h
        · rename_i hcond
          obtain ⟨⟨hsz, hj⟩, hio⟩ := hcond
          subst hsz
          obtain ⟨h1, g, n2, m, h2, h3⟩ := hp
          have hent := hs.ent _ _ (lookup_mem hl)
          have hlt := entRel.lt hent (g := g) (by rw [h2]; rfl)
          obtain ⟨i0, i1, i2, B0, B2, k1, k2, k3, k4, k5, k6, k7, k8⟩ := hent
          have hi0 : i0.length = j * ty.sz := by rw [k5.length, hj]
          refine key _ _ _ _ k7 h3 (fun i' u hu => ?_) hlt ⟨fun hh => by simp [fromRow] at hh, fun i hi hne hb => hs.apartX id i g h1 hi (fun e => hne (by rw [e]; rfl)) (.inl (by rw [h2]; rfl)) hb⟩ h
          have hui := (List.getElem?_eq_some_iff.mp hu).1
          rw [h2] at k1
          obtain rfl : n2 = l.length + 1 + r0.length := by
            rcases k1.2 with ⟨A0, h7, _⟩ | ⟨_, _, _, h7, _⟩
            · cases h7
            · injection h7
          rw [add_at, show j * ty.sz + off + i' = j * ty.sz + (off + i') by omega, k1.cellAt _ (by
            rw [← k1.1]
            simp only [List.length_append, hi0]
            omega), List.getElem?_append_right (by omega), List.getElem?_append_left (by omega), show j * ty.sz + (off + i') - i0.length = off + i' by omega]
          exact hu
        · cases h
      · cases h
    · rename_i lt ty x off
      obtain ⟨ad, h1, h2, cs, h3, h4⟩ := hp
      have hT : c.T ad.block := by
        cases lt with
        | true => exact hs.sub _ h2
        | false => exact h2
      exact key _ _ _ _ (leaves_rel lt h3) h1 h4 (hs.lt _ hT) ⟨fun _ id e' hm _ hb => entRel.notT (hs.ent _ _ hm) hb hT, fun i hi _ hb => hs.notTX hi hb hT⟩ h
    · cases h

/-- A load: its value in every world in which the block is as it was. -/
def Loads (P : Program) (o : Oper) (c : Cx) (a : Act) (st : St) (row : Bool) (lid : Option Nat) (K : AV → St → Option R) (r : R) : Prop :=
  ∃ v y b, (∀ w, w.heap[b]? = c.w.heap[b]? → (execOp a.eval o).run P w = .ok (.value y) w) ∧ K v st = some r ∧ avRel c v y ∧ b < c.w.heap.size ∧
    (row = false → ∀ id e', (id, e') ∈ st.store → isRow e' = true → blk (c.ρ id) ≠ some b) ∧ ∀ i, i ∈ c.D → some i ≠ lid → ¬ c.ow i b

theorem goes_load (htb : tb.ok0 P) {t : TypeId} {p : Operand} (ho : o.op = .load t p) (hr : Rel c st a.tmps)
    (h : evLoad tb t (st.ev p) st (fun v => K v st) = some r) : Loads P o c a st (fromRow (st.ev p)) (pid (st.ev p)) K r := by
  obtain ⟨v, x, ad, _, h1, h2, h3, h4, h5⟩ := evLoad_some htb h hr.s (hr.ev p)
  refine ⟨v, x, ad.block, fun w hw => ?_, h2, h3, h4, h5⟩
  unfold execOp
  rw [ho]
  simp only [Sem.run_bind, h1 w hw, Result.andThen_ok, Sem.run_pure]

theorem Loads.goesT {row : Bool} {lid : Option Nat} (h : Loads P o c a st row lid K r) (hr : Rel c st a.tmps) (ap : Bool) : OpGoesT P o c a K r ap := by
  obtain ⟨v, y, b, h, hk, hv, _⟩ := h
  exact fun _ _ hn => wp_val (h c.w rfl) (hn v y c st hk hr hv (Step.refl c) (Tame.refl ap c))

theorem Loads.goes {row : Bool} {lid : Option Nat} (h : Loads P o c a st row lid K r) (hr : Rel c st a.tmps) : OpGoes P o c a K r := by
  obtain ⟨v, y, b, h, hk, hv, _⟩ := h
  exact fun _ _ hn => wp_val (h c.w rfl) (hn v y c st hk hr hv (Step.refl c))

end
end Go.Proofs.Ytdacfaincamliaa.Ev
