/- The evaluator's stores and appends are true of the machine. Conditions: none. -/
import Derived.Test.YtdacfaincamliaaEvOpen
namespace Go.Proofs.Ytdacfaincamliaa.Ev
open Go Go.RowKit

section
variable {P : Program} {c : Cx} {st : St} {R : Type} {a : Act} {tb : Tb} {o : Oper} {K : AV → St → Option R} {r : R}

theorem goes_minmax {mx : Bool} {x y : Operand} {ts : Array TypeId} (ho : o.op = .call { callee := .builtin (if mx then .max else .min), args := #[x, y], argTypes := ts }) (hr : Rel c st a.tmps)
    (h : minmax mx (st.ev x) (st.ev y) (fun v => K v st) = some r) : Quiet P o c a st K r := by
  unfold minmax at h
  split at h
  · rename_i k n k' m hx hy
    have e1 := hr.ev x
    rw [hx] at e1
    have e1 : a.eval x = .int k n := e1.1
    have e2 := hr.ev y
    rw [hy] at e2
    have e2 : a.eval y = .int k' m := e2.1
    cases mx with
    | true =>
      refine goes_quiet hr (y := .int k (if m > n then m else n)) (fun w => ?_) h ⟨rfl, rfl⟩
      unfold execOp
      rw [ho]
      simp [resolve, invoke, builtin, Builtin.max_, Builtin.max2, e1, e2]
    | false =>
      refine goes_quiet hr (y := .int k (if m < n then m else n)) (fun w => ?_) h ⟨rfl, rfl⟩
      unfold execOp
      rw [ho]
      simp [resolve, invoke, builtin, Builtin.min_, Builtin.min2, e1, e2]
  · cases h

theorem goes_len (htb : tb.ok0 P) {x : Operand} {t : TypeId} (ho : o.op = .call { callee := .builtin .len, args := #[x], argTypes := #[t] }) (hr : Rel c st a.tmps)
    (h : evCallB tb .len [x] [t] st K = some r) : Quiet P o c a st K r := by
  have run : ∀ y : Value, ((∃ e, P.underlying t = some (.slice e)) ∧ ∃ A n m, a.eval x = .slice A n m ∧ y = .int .i64 n) ∨ (P.underlying t = some .string ∧ ∃ s, a.eval x = .string s ∧ y = .int .i64 s.size) → ∀ w, (execOp a.eval o).run P w = .ok (.value y) w := by
    intro y hy w
    unfold execOp
    rw [ho]
    rcases hy with ⟨⟨e, hu⟩, A, n, m, hy, rfl⟩ | ⟨hu, s, hy, rfl⟩
    · simp [resolve, invoke, builtin, Builtin.len_, run_underlying hu, hy, goInt]
    · simp [resolve, invoke, builtin, Builtin.len_, run_underlying hu, hy, goInt]
  simp only [evCallB] at h
  cases hi : tb.ti t with
  | none => rw [hi] at h; cases h
  | some i =>
    have hu := (htb.ti _ _ hi).under
    rw [hi] at h
    simp only [Option.map_some] at h
    split at h
    · rename_i e hd
      injection hd with hd
      rw [hd] at hu
      have hv := hr.ev x
      generalize hve : st.ev x = v at h hv
      split at h
      · cases h
      · rename_i hns
        obtain ⟨n, hk, hy⟩ := lenOf_some h hr.s hv
        rcases hy with ⟨A, m, hy⟩ | ⟨s, hy, hs⟩
        · exact goes_quiet hr (y := .int .i64 n) (run _ (.inl ⟨⟨e, hu⟩, A, n, m, hy, rfl⟩)) hk ⟨rfl, rfl⟩
        · exfalso
          rw [hy] at hv
          unfold lenOf at h
          split at h
          · cases hv.1
          · exact hns _ rfl
          · unfold sliceOf at h
            split at h
            · obtain ⟨_, _, h1, _⟩ := hv; cases h1
            · obtain ⟨h1, h2, _⟩ := hv
              split at h
              · rename_i hl
                obtain ⟨A, n, h3, _⟩ := row_reads (S := fun _ => True) (hr.entOf hl) (fun _ _ => trivial) (fun _ _ => trivial)
                rw [h3] at h2
                cases h2
              · rename_i hl
                obtain ⟨inner, m1, _⟩ := hr.entOf hl
                rw [← h2] at m1
                rcases m1.2 with ⟨A0, h8, _⟩ | ⟨_, _, _, h8, _⟩ <;> cases h8
              · rename_i hl
                obtain ⟨inner, B, m1, _⟩ := hr.entOf hl
                rw [← h2] at m1
                rcases m1.2 with ⟨A0, h8, _⟩ | ⟨_, _, _, h8, _⟩ <;> cases h8
              · rename_i hl
                obtain ⟨i0, i1, i2, B0, B2, m1, _⟩ := hr.entOf hl
                rw [← h2] at m1
                rcases m1.2 with ⟨A0, h8, _⟩ | ⟨_, _, _, h8, _⟩ <;> cases h8
              · cases h
            · cases h
    · rename_i hd
      injection hd with hd
      rw [hd] at hu
      have hv := hr.ev x
      generalize hve : st.ev x = v at h hv
      split at h
      · rename_i s
        exact goes_quiet hr (y := .int .i64 s.size) (run _ (.inr ⟨hu, s, hv.1, rfl⟩)) h ⟨rfl, rfl⟩
      · cases h
    · cases h

theorem setRow_below (w : World) (g : Nat) (cs : Array Value) : Below 0 w (w.setRow g cs) := ⟨rfl, rfl, rfl, by simp [World.setRow], fun k hk => absurd hk (Nat.not_lt_zero k)⟩

theorem run_storeAt {t : TypeId} {i : TI} (hi : TI.ok P t i) {w : World} {g off : Nat} {bt : TypeId} {cur : Array Value} {x : Value} (hg : w.heap[g]? = some (.cells cur bt (0, 0))) (hl : x.cells.size = i.size) (hoff : off + x.cells.size ≤ cur.size) (h1 : ∀ v ∈ x.cells.toList, v.oneCell' = true) :
    (Instr.storeAt t (.pointer (some ⟨g, off, none⟩)) x).run P w = .ok () (w.setRow g (setSeg cur.toList off x.cells.toList).toArray) := by
  obtain ⟨f, z, hf, hf2, _⟩ := hi.info
  have := run_storeCells_at P g off bt x.cells.toList 0 cur w hg (by simpa using hoff) h1
  simp only [Instr.storeAt, Instr.sureAddr, storeVar, sizeOf, typeInfo, Sem.run_bind, Sem.run_pure, Result.andThen_ok, run_program, hf, hf2, hl]
  simp only [ne_eq, not_true_eq_false, if_false]
  rw [this]
  simp [setSeg]

theorem setSeg_take {α : Type} {l new : List α} {off n : Nat} (h : off + new.length ≤ n) (hn : n ≤ l.length) : (setSeg l off new).take n = setSeg (l.take n) off new := by
  apply List.ext_getElem?
  intro j
  simp only [setSeg, List.getElem?_take, List.getElem?_append, List.length_append, List.length_take, List.getElem?_drop]
  have e1 : min off l.length = off := by omega
  have e2 : min off (min n l.length) = off := by omega
  simp only [e1, e2]
  by_cases h1 : j < off
  · have : j < off + new.length := by omega
    have : j < n := by omega
    simp [*]
  · by_cases h2 : j < off + new.length
    · have : j < n := by omega
      simp [*]
    · by_cases h3 : j < n
      · simp [h1, h2, h3]
        omega
      · simp [h1, h2, h3]
        omega

theorem setSeg_mid {α : Type} {i0 i1 i2 new : List α} {off : Nat} (h : off + new.length ≤ i1.length) : setSeg (i0 ++ (i1 ++ i2)) (i0.length + off) new = i0 ++ (setSeg i1 off new ++ i2) := by
  unfold setSeg
  rw [List.take_length_add_append, List.take_append_of_le_length (by omega), show i0.length + off + new.length = i0.length + (off + new.length) by omega, List.drop_length_add_append, List.drop_append_of_le_length h]
  simp [List.append_assoc]

/-- A store into an element that is open. -/
theorem zip_store {t : TypeId} {i : TI} (hti : TI.ok P t i) (hr : Rel c st a.tmps) {p x : Value} {id j off : Nat} {e : TypeId} {ty : Ty} {l r0 : List ty.den} {cells new : List Leaf} (hl : lookup st.store id = some (.zip e ty l cells r0)) (hoff : off + new.length ≤ ty.sz) (hj : l.length = j)
    (hx : All2 (leafRel c) new x.cells.toList) (hlen : new.length = i.size) (hp : leafRel c (.elp id ty.sz j off) p) :
    ∃ w1, (Instr.storeAt t p x).run P c.w = .ok () w1 ∧ Rel (c.turn w1 id (c.ρ id)) (st.setEnt id (.zip e ty l (setAt cells off new) r0)) a.tmps ∧ Step c (c.turn w1 id (c.ρ id)) := by
  have hone := all2_one hx
  have hxs : x.cells.size = i.size := by rw [← hlen, hx.length]; simp
  have hxl : x.cells.toList.length = new.length := hx.length.symm
  obtain ⟨h1, g, n2, m, h2, h3⟩ := hp
  obtain ⟨i0, i1, i2, B0, B2, k1, k2, k3, k4, k5, k6, k7, k8⟩ := hr.entOf hl
  have hk1 := k1
  rw [h2] at k1
  rcases k1.2 with ⟨A0, h7, _⟩ | ⟨g', cap, cur, h7, _, hcur, hnc, hcm, hcs, htake⟩
  · injection h7; omega
  injection h7 with h7 hn h8
  injection h7 with h7
  injection h7 with h7 _ _
  subst h7
  obtain rfl := Nat.succ.inj h8
  have hil : (i0 ++ (i1 ++ i2)).length = (l.length + 1 + r0.length) * ty.sz := k1.1
  have hi0 : i0.length = j * ty.sz := by rw [k5.length, hj]
  have hcap : (l.length + 1 + r0.length) * ty.sz ≤ cur.size := by rw [hcs]; exact Nat.mul_le_mul_right _ hnc
  have hb0 : j * ty.sz + off + x.cells.toList.length ≤ (i0 ++ (i1 ++ i2)).length := by
    simp only [List.length_append, hi0, k6, hxl]; omega
  have hb : (j * ty.sz + off) + x.cells.size ≤ cur.size := by
    rw [Array.length_toList] at hb0
    omega
  have hrun := run_storeAt (P := P) hti hcur hxs hb hone
  have hbk : blk (c.ρ id) = some g := by rw [h2]; rfl
  have hold : ∀ k, k < c.w.heap.size → some k ≠ blk (c.ρ id) → (c.w.setRow g (setSeg cur.toList (j * ty.sz + off) x.cells.toList).toArray).heap[k]? = c.w.heap[k]? := fun k _ hk => setRow_other _ _ _ _ (fun e => hk (by rw [hbk, e]))
  have hmv : ∀ k, k ∈ B0 ++ B2 → (c.w.setRow g (setSeg cur.toList (j * ty.sz + off) x.cells.toList).toArray).heap[k]? = c.w.heap[k]? := fun k hk => setRow_other _ _ _ _ (fun e => (k2 g hbk).2 (e ▸ hk))
  obtain ⟨q1, q2⟩ := hr.turn (w1 := c.w.setRow g (setSeg cur.toList (j * ty.sz + off) x.cells.toList).toArray) (y := c.ρ id) (e1 := .zip e ty l (setAt cells off new) r0) (f := fun l => l) hl hold (setRow_below _ _ _) (fun g hg => .inl hg)
    (leaf_same hr.s hl hold) (fun _ _ => rfl) (by
      refine ⟨i0, setSeg i1 off x.cells.toList, i2, B0, B2, ?_, ?_, k3, k4, k5.moveE fun g hg => hmv g (List.mem_append_left _ hg), by rw [setSeg_length (by rw [k6, hxl]; exact hoff)]; exact k6, (setAt_rel _ k7 hx).mono (leaf_same hr.s hl hold), k8.moveE fun g hg => hmv g (List.mem_append_right _ hg)⟩
      · show oRow _ e ty.sz (if id = id then c.ρ id else c.ρ id) _ _
        rw [if_pos rfl, h2, ← setSeg_mid (by rw [k6, hxl]; exact hoff), hi0]
        refine ⟨by rw [setSeg_length hb0]; exact hil, .inr ⟨g, m, _, by rw [hn], Nat.zero_le _, setRow_heap _ _ _ _ _ _ hcur, hnc, hcm, ?_, ?_⟩⟩
        · rw [List.size_toArray, setSeg_length (by rw [Array.length_toList, Array.length_toList]; exact hb), Array.length_toList]
          exact hcs
        · rw [← htake]
          exact setSeg_take (by rw [← hil]; exact hb0) (by rw [Array.length_toList]; exact hcap)
      · show ∀ g, blk (if id = id then c.ρ id else c.ρ id) = some g → _
        rw [if_pos rfl]
        exact k2)
  rw [St.map_id] at q1
  exact ⟨_, by rw [h3]; exact hrun, q1, q2⟩

theorem goes_store (htb : tb.ok0 P) {t : TypeId} {p x : Operand} (ho : o.op = .store t p x) (hr : Rel c st a.tmps)
    (h : evStore tb t (st.ev p) (st.ev x) st (fun st' => K .undef st') = some r) : OpGoes P o c a K r := by
  have exe : ∀ {w w1 : World}, (Instr.storeAt t (a.eval p) (a.eval x)).run P w = .ok () w1 → (execOp a.eval o).run P w = .ok .skip w1 := by
    intro w w1 hh
    unfold execOp
    rw [ho]
    simp only [Sem.run_bind, hh, Result.andThen_ok, Sem.run_pure]
  have wpk : ∀ {c' : Cx} {st' : St} {w1 : World}, (Instr.storeAt t (a.eval p) (a.eval x)).run P c.w = .ok () w1 → c'.w = w1 → Rel c' st' a.tmps → Step c c' → K .undef st' = some r → OpGoes P o c a K r := by
    intro c' st' w1 hh hw hrel hstep hk next Q hn
    unfold Oper.wp
    rw [exe hh]
    show next (a.put o.dst undef) w1
    rw [← hw]
    exact hn .undef undef c' st' hk hrel ⟨#[], rfl, trivial⟩ hstep
  unfold evStore at h
  split at h
  · rename_i i new hi hnew
    split at h
    · rename_i hlen
      have hti := htb.ti _ _ hi
      have hx := leavesOf_rel hnew (hr.ev x)
      have hone := all2_one hx
      have hxs : (a.eval x).cells.size = i.size := by rw [← hlen, hx.length]; simp
      have hp := hr.ev p
      split at h
      · rename_i id off hpe
        rw [hpe] at hp
        split at h
        · rename_i bt cells hl
          split at h
          · rename_i hoff
            obtain ⟨h1, g, h2, h3⟩ := hp
            have hent := hr.entOf hl
            obtain ⟨g', conc, k1, k2, k3, k4⟩ := hent
            obtain rfl : g' = g := by rw [k1] at h2; injection h2 with h2; injection h2 with h2; injection h2
            have hcl := k4.length
            have hb : off + (a.eval x).cells.size ≤ conc.size := by rw [hxs, ← hlen, ← Array.length_toList, ← hcl]; exact hoff
            have hrun := run_storeAt (P := P) hti k3 hxs hb hone
            have hbk : blk (c.ρ id) = some g' := by rw [k1]; rfl
            have hold : ∀ k, k < c.w.heap.size → some k ≠ blk (c.ρ id) → (c.w.setRow g' (setSeg conc.toList off (a.eval x).cells.toList).toArray).heap[k]? = c.w.heap[k]? := fun k _ hk => setRow_other _ _ _ _ (fun e => hk (by rw [hbk, e]))
            obtain ⟨q1, q2⟩ := hr.turn (w1 := c.w.setRow g' (setSeg conc.toList off (a.eval x).cells.toList).toArray) (y := c.ρ id) (e1 := .box bt (setAt cells off new)) (f := fun l => l) hl hold (setRow_below _ _ _) (fun g hg => .inl hg)
              (leaf_same hr.s hl hold) (fun _ _ => rfl) ⟨g', _, by show (if id = id then c.ρ id else c.ρ id) = _; rw [if_pos rfl]; exact k1, k2, setRow_heap _ _ _ _ _ _ k3, by
                have := setAt_rel off k4 hx
                exact this.mono (leaf_same hr.s hl hold)⟩
            rw [St.map_id] at q1
            refine wpk (c' := c.turn _ id (c.ρ id)) ?_ rfl q1 q2 h
            rw [h3]
            exact hrun
          · cases h
        · cases h
      · rename_i id sz j off hpe
        rw [hpe] at hp
        split at h
        · rename_i e ty xs hl
          split at h
          · rename_i hcond
            obtain ⟨rfl, hoff⟩ := hcond
            by_cases hj : j < xs.length
            rotate_left
            · rw [if_neg hj] at h; cases h
            rw [if_pos hj] at h
            obtain ⟨h1, g, n, m, h2, h3⟩ := hp
            have hent := hr.entOf hl
            obtain ⟨inner, k1, k2, k3⟩ := hent
            have k3' := (k3.drop (j * ty.sz)).take ty.sz
            rw [seg_leaves true ty xs j hj] at k3'
            obtain ⟨y, st1, c1, g1, g2, g3, g4, g5⟩ := readTy_some (need := .keep) (c0 := c) h hr (Later.refl hr.s) (setAt_rel off k3' hx)
            split at g1
            · rename_i e' ty' xs' hl1
              split at g1
              · rename_i hee
                subst hee
                obtain ⟨hty, g1⟩ := cast_some g1
                have hty2 := hty.symm
                subst hty2
                have hid1 : id ∈ c1.D := lookup_D g2.s hl1
                have hρ1 := g3.ρ id hid1
                have hent1 := g2.entOf hl1
                obtain ⟨inner1, m1, m2, m3⟩ := hent1
                rw [hρ1, g3.w] at m1
                rw [h2] at k1 m1
                obtain rfl : n = xs.length := by
                  rcases k1.2 with ⟨A0, h7, _⟩ | ⟨_, _, _, h7, _⟩
                  · injection h7; omega
                  · injection h7
                have hlx : xs'.length = xs.length := by
                  rcases m1.2 with ⟨A0, h7, _⟩ | ⟨_, _, _, h7, _⟩
                  · injection h7; omega
                  · injection h7 with _ h7 _
                    exact h7.symm
                rcases k1.2 with ⟨A0, h7, _⟩ | ⟨g', cap, cur, h7, _, hcur, hnc, hcm, hcs, htake⟩
                · injection h7; omega
                injection h7 with h7 _ h8
                injection h7 with h7
                injection h7 with h7 _ _
                subst h7
                obtain rfl := Nat.succ.inj h8
                have hin1 : inner1 = inner := by
                  rcases m1.2 with ⟨A0, h7, _⟩ | ⟨g2', cap2, cur2, h7, _, hcur2, _, _, _, htake2⟩
                  · injection h7; omega
                  · injection h7 with h7 _ _
                    injection h7 with h7
                    injection h7 with h7 _ _
                    subst h7
                    rw [hcur] at hcur2
                    injection hcur2 with hcur2
                    injection hcur2 with hcur2 _ _
                    subst hcur2
                    rw [← htake2, hlx, htake]
                subst hin1
                have hj' : j * ty.sz + ty.sz ≤ xs.length * ty.sz := by rw [← Nat.succ_mul]; exact Nat.mul_le_mul_right _ hj
                have hns : (a.eval x).cells.size ≤ ty.sz - off := by rw [hxs, ← hlen]; omega
                have hcap : xs.length * ty.sz ≤ cur.size := by rw [hcs]; exact Nat.mul_le_mul_right _ hnc
                have hlen2 : 0 < ty.sz → True := fun _ => trivial
                have hb : (j * ty.sz + off) + (a.eval x).cells.size ≤ cur.size := by rw [hxs, ← hlen]; omega
                have hrun := run_storeAt (P := P) hti hcur hxs hb hone
                have hbk : blk (c1.ρ id) = some g := by rw [hρ1, h2]; rfl
                have hw1 := g3.w
                have hold : ∀ k, k < c1.w.heap.size → some k ≠ blk (c1.ρ id) → (c.w.setRow g (setSeg cur.toList (j * ty.sz + off) (a.eval x).cells.toList).toArray).heap[k]? = c1.w.heap[k]? := fun k _ hk => by
                  rw [hw1]
                  exact setRow_other _ _ _ _ (fun e => hk (by rw [hbk, e]))
                have hbel : Below 0 c1.w (c.w.setRow g (setSeg cur.toList (j * ty.sz + off) (a.eval x).cells.toList).toArray) := by rw [hw1]; exact setRow_below _ _ _
                have hil : inner1.length = xs.length * ty.sz := k1.1
                obtain ⟨q1, q2⟩ := g2.turn (w1 := c.w.setRow g (setSeg cur.toList (j * ty.sz + off) (a.eval x).cells.toList).toArray) (y := c1.ρ id) (e1 := .row e' ty (xs'.set j y)) (f := fun l => l) hl1 hold hbel (fun g hg => .inl hg)
                  (leaf_same g2.s hl1 hold) (fun _ _ => rfl) (by
                    refine ⟨setSeg inner1 (j * ty.sz + off) (a.eval x).cells.toList, ?_, ?_, ?_⟩
                    · show oRow _ e' ty.sz (if id = id then c1.ρ id else c1.ρ id) (xs'.set j y).length _
                      rw [if_pos rfl, hρ1, h2, List.length_set, hlx]
                      refine ⟨by rw [setSeg_length (by rw [hil, Array.length_toList, hxs, ← hlen]; omega)]; exact hil, .inr ⟨g, m, _, rfl, Nat.zero_le _, setRow_heap _ _ _ _ _ _ hcur, hnc, hcm, ?_, ?_⟩⟩
                      · rw [List.size_toArray, setSeg_length (by rw [Array.length_toList, Array.length_toList]; exact hb), Array.length_toList]
                        exact hcs
                      · rw [← htake]
                        exact setSeg_take (by rw [Array.length_toList, hxs, ← hlen]; omega) (by rw [Array.length_toList]; exact hcap)
                    · show ∀ g, blk (if id = id then c1.ρ id else c1.ρ id) = some g → ¬ c1.T g
                      rw [if_pos rfl]
                      exact m2
                    · have key : All2 (leafRel c1) ((xs'.set j y).flatMap (leaves true ty)) (setSeg inner1 (j * ty.sz + off) (a.eval x).cells.toList) := by
                        refine rows_rel (c := c1) (S := c1.I) (fun k hk => hk) (by rw [setSeg_length (by rw [hil, Array.length_toList, hxs, ← hlen]; omega), List.length_set, hlx, hil]) (fun q z hq => ?_)
                        by_cases hqj : q = j
                        · subst hqj
                          rw [List.getElem?_set_self (by rw [hlx]; exact hj)] at hq
                          injection hq with hq
                          subst hq
                          have e1 : ((setSeg inner1 (q * ty.sz + off) (a.eval x).cells.toList).drop (q * ty.sz)).take ty.sz = setSeg ((inner1.drop (q * ty.sz)).take ty.sz) off (a.eval x).cells.toList := by
                            apply List.ext_getElem?
                            intro k
                            have hxl : (a.eval x).cells.toList.length = new.length := hx.length.symm
                            simp only [setSeg, List.getElem?_take, List.getElem?_drop, List.getElem?_append, List.length_append, List.length_take, List.length_drop, hxl]
                            have e2 : min (q * ty.sz + off) inner1.length = q * ty.sz + off := by omega
                            have e3 : min off (min ty.sz (inner1.length - q * ty.sz)) = off := by omega
                            simp only [e2, e3]
                            by_cases a1 : k < ty.sz
                            · by_cases a2 : k < off
                              · have b1 : q * ty.sz + k < q * ty.sz + off + new.length := by omega
                                have b2 : q * ty.sz + k < q * ty.sz + off := by omega
                                have b3 : k < off + new.length := by omega
                                simp only [a1, a2, b1, b2, b3, if_true]
                              · by_cases a3 : k < off + new.length
                                · have b1 : q * ty.sz + k < q * ty.sz + off + new.length := by omega
                                  have b2 : ¬ q * ty.sz + k < q * ty.sz + off := by omega
                                  simp only [a1, a2, a3, b1, b2, if_true, if_false]
                                  congr 1
                                  omega
                                · have b1 : ¬ q * ty.sz + k < q * ty.sz + off + new.length := by omega
                                  have b2 : ¬ q * ty.sz + k < q * ty.sz + off := by omega
                                  have b3 : off + new.length + (k - (off + new.length)) < ty.sz := by omega
                                  simp only [a1, a2, a3, b1, b2, b3, if_true, if_false]
                                  congr 1
                                  omega
                            · have a2 : ¬ k < off := by omega
                              have a3 : ¬ k < off + new.length := by omega
                              have b3 : ¬ off + new.length + (k - (off + new.length)) < ty.sz := by omega
                              simp only [a1, a2, a3, b3, if_false]
                          rw [e1]
                          exact g5
                        · rw [List.getElem?_set_ne (by omega)] at hq
                          have hql : q < xs.length := by rw [← hlx]; exact (List.getElem?_eq_some_iff.mp hq).1
                          have e1 : ((setSeg inner1 (j * ty.sz + off) (a.eval x).cells.toList).drop (q * ty.sz)).take ty.sz = (inner1.drop (q * ty.sz)).take ty.sz := by
                            apply List.ext_getElem?
                            intro k
                            have hxl : (a.eval x).cells.toList.length = new.length := hx.length.symm
                            simp only [setSeg, List.getElem?_take, List.getElem?_drop, List.getElem?_append, List.length_append, List.length_take, hxl]
                            have e2 : min (j * ty.sz + off) inner1.length = j * ty.sz + off := by omega
                            simp only [e2]
                            by_cases a1 : k < ty.sz
                            · simp only [a1, if_true]
                              rcases Nat.lt_or_gt_of_ne hqj with hlt | hgt
                              · have : (q + 1) * ty.sz ≤ j * ty.sz := Nat.mul_le_mul_right _ hlt
                                rw [Nat.add_mul, Nat.one_mul] at this
                                have b1 : q * ty.sz + k < j * ty.sz + off + new.length := by omega
                                have b2 : q * ty.sz + k < j * ty.sz + off := by omega
                                simp only [b1, b2, if_true]
                              · have : (j + 1) * ty.sz ≤ q * ty.sz := Nat.mul_le_mul_right _ hgt
                                rw [Nat.add_mul, Nat.one_mul] at this
                                have b1 : ¬ q * ty.sz + k < j * ty.sz + off + new.length := by omega
                                simp only [b1, if_false]
                                congr 1
                                omega
                            · simp only [a1, if_false]
                          rw [e1]
                          have := row_cells (S := c1.I) m3 (fun k hk => hk) q z hq
                          exact this
                      exact key.mono (leaf_same g2.s hl1 hold))
                rw [St.map_id] at q1
                refine wpk (c' := c1.turn _ id (c1.ρ id)) (st' := st1.setEnt id (.row e' ty (xs'.set j y))) ?_ rfl q1 (g3.step.trans q2) g1
                rw [h3]
                exact hrun
              · cases g1
            · cases g1
          · cases h
        · rename_i e ty n cells hl
          split at h
          · rename_i hcond
            obtain ⟨hsz, hj, hoff⟩ := hcond
            subst hsz
            obtain ⟨h1, g, n2, m, h2, h3⟩ := hp
            obtain ⟨inner, k1, k2, k3⟩ := hr.entOf hl
            have hk1 := k1
            rw [h2] at k1
            rcases k1.2 with ⟨A0, h7, _⟩ | ⟨g', cap, cur, h7, _, hcur, hnc, hcm, hcs, htake⟩
            · injection h7; omega
            injection h7 with h7 hn h8
            injection h7 with h7
            injection h7 with h7 _ _
            subst h7
            obtain rfl := Nat.succ.inj h8
            subst hn
            have hj' : j * ty.sz + ty.sz ≤ n2 * ty.sz := by rw [← Nat.succ_mul]; exact Nat.mul_le_mul_right _ hj
            have hcap : n2 * ty.sz ≤ cur.size := by rw [hcs]; exact Nat.mul_le_mul_right _ hnc
            have hb : (j * ty.sz + off) + (a.eval x).cells.size ≤ cur.size := by rw [hxs, ← hlen]; omega
            have hrun := run_storeAt (P := P) hti hcur hxs hb hone
            have hbk : blk (c.ρ id) = some g := by rw [h2]; rfl
            have hil : inner.length = n2 * ty.sz := k1.1
            have hold : ∀ k, k < c.w.heap.size → some k ≠ blk (c.ρ id) → (c.w.setRow g (setSeg cur.toList (j * ty.sz + off) (a.eval x).cells.toList).toArray).heap[k]? = c.w.heap[k]? := fun k _ hk => setRow_other _ _ _ _ (fun e => hk (by rw [hbk, e]))
            obtain ⟨q1, q2⟩ := hr.turn (w1 := c.w.setRow g (setSeg cur.toList (j * ty.sz + off) (a.eval x).cells.toList).toArray) (y := c.ρ id) (e1 := .lrow e ty n2 (setAt cells (j * ty.sz + off) new)) (f := fun l => l) hl hold (setRow_below _ _ _) (fun g hg => .inl hg)
              (leaf_same hr.s hl hold) (fun _ _ => rfl) (by
                refine ⟨setSeg inner (j * ty.sz + off) (a.eval x).cells.toList, ?_, ?_, ?_⟩
                · show oRow _ e ty.sz (if id = id then c.ρ id else c.ρ id) n2 _
                  rw [if_pos rfl, h2]
                  refine ⟨by rw [setSeg_length (by rw [hil, Array.length_toList, hxs, ← hlen]; omega)]; exact hil, .inr ⟨g, m, _, rfl, Nat.zero_le _, setRow_heap _ _ _ _ _ _ hcur, hnc, hcm, ?_, ?_⟩⟩
                  · rw [List.size_toArray, setSeg_length (by rw [Array.length_toList, Array.length_toList]; exact hb), Array.length_toList]
                    exact hcs
                  · rw [← htake]
                    exact setSeg_take (by rw [Array.length_toList, hxs, ← hlen]; omega) (by rw [Array.length_toList]; exact hcap)
                · show ∀ g, blk (if id = id then c.ρ id else c.ρ id) = some g → ¬ c.T g
                  rw [if_pos rfl]
                  exact k2
                · exact (setAt_rel _ k3 hx).mono (leaf_same hr.s hl hold))
            rw [St.map_id] at q1
            refine wpk (c' := c.turn _ id (c.ρ id)) ?_ rfl q1 q2 h
            rw [h3]
            exact hrun
          · cases h
        · obtain ⟨st1, c1, g1, g2, g3, g4, g5⟩ := openZ_some h hr
          split at g1
          · rename_i e ty l cells r0 hl1
            split at g1
            · rename_i hcond
              obtain ⟨hsz, hoff⟩ := hcond
              subst hsz
              split at g1
              · rename_i hj
                obtain ⟨w1, q1, q2, q3⟩ := zip_store hti g2 hl1 hoff hj (hx.mono g5) hlen (g5 _ _ hp)
                rw [g4] at q1
                exact wpk q1 rfl q2 (g3.trans q3) g1
              · cases g1
            · cases g1
          · cases g1
      · cases h
    · cases h
  · cases h

/-- What an element that is open holds. -/
theorem goes_loadZ (htb : tb.ok0 P) {t : TypeId} {p : Operand} (ho : o.op = .load t p) (hr : Rel c st a.tmps) {id sz j off : Nat} (hp : leafRel c (.elp id sz j off) (a.eval p))
    (h : evLoadZ tb t id sz j off st (fun v => K v st) = some r) : OpGoes P o c a K r := by
  unfold evLoadZ at h
  split at h
  · rename_i i e ty l cells r0 hi hl
    split at h
    · rename_i hcond
      obtain ⟨⟨hsz, hoff⟩, hag⟩ := hcond
      subst hsz
      split at h
      · rename_i hj
        have hti := htb.ti _ _ hi
        obtain ⟨h1, g, n2, m, h2, h3⟩ := hp
        obtain ⟨i0, i1, i2, B0, B2, k1, k2, k3, k4, k5, k6, k7, k8⟩ := hr.entOf hl
        have hi0 : i0.length = j * ty.sz := by rw [k5.length, hj]
        have hcl : cells.length = ty.sz := by rw [k7.length, k6]
        rw [h2] at k1
        obtain rfl : n2 = l.length + 1 + r0.length := by
          rcases k1.2 with ⟨A0, h7, _⟩ | ⟨_, _, _, h7, _⟩
          · injection h7; omega
          · injection h7
        obtain ⟨x, q1, q2⟩ := run_load_leaves (P := P) (ad := ⟨g, j * ty.sz + off, none⟩) (w := c.w) hti ((k7.drop off).take i.size) (by simp; omega) (by
          intro q u hu
          rw [List.getElem?_take] at hu
          split at hu
          · rename_i hq
            rw [List.getElem?_drop] at hu
            rw [add_at, show j * ty.sz + off + q = j * ty.sz + (off + q) by omega, k1.cellAt _ (by
              rw [← k1.1]
              simp only [List.length_append, hi0, k6]
              omega), List.getElem?_append_right (by omega), List.getElem?_append_left (by omega), show j * ty.sz + (off + q) - i0.length = off + q by omega]
            exact hu
          · cases hu) hag
        intro next Q hn
        refine wp_val (y := x) (w' := c.w) ?_ (hn _ _ c st h hr q2 (Step.refl c))
        unfold execOp
        rw [ho]
        simp only [h3, Sem.run_bind, q1 c.w rfl, Result.andThen_ok, Sem.run_pure]
      · cases h
    · cases h
  · cases h

end
end Go.Proofs.Ytdacfaincamliaa.Ev
