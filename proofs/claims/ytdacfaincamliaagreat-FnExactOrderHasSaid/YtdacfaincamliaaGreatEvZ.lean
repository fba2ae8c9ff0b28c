/- A block that is made beside other work, in a region that draws: whatever the order. Conditions: none. -/
import Derived.Test.YtdacfaincamliaaGreatEvGrp3
namespace Go.Proofs.YtdacfaincamliaaGreat.Ev
open Go Go.RowKit

section
variable {P : Program} {R : Type} {tb : Tb}
variable {c : Cx} {st : St} {a : Act} {o : Oper} {K : AV → St → Option R} {r : R}

/-- What is known of the region. -/
structure ZIs (tb : Tb) (ops : Array Oper) (z d : Nat) (oz : Oper) (te : TypeId) (i : TI) : Prop where
  hz : ops[z]? = some oz
  op : oz.op = .alloc te
  gd : oz.guard = none
  af : ∀ e, e ∉ oz.after
  ds : oz.dst = some d
  ti : tb.ti te = some i
  out : ∀ j oj, ops[j]? = some oj → j ≠ z → oj.dst ≠ some d

theorem findAl_spec {ops : Array Oper} {z d : Nat} (h : findAl ops = some (z, d)) : ∃ oz te, ops[z]? = some oz ∧ oz.op = .alloc te ∧ oz.guard = none ∧ (∀ e, e ∉ oz.after) ∧ oz.dst = some d ∧ ∀ j oj, ops[j]? = some oj → j ≠ z → oj.dst ≠ some d := by
  unfold findAl at h
  obtain ⟨z', _, h⟩ := List.exists_of_findSome?_eq_some h
  split at h
  rotate_left
  · cases h
  rename_i o ho
  split at h
  rotate_left
  · cases h
  rename_i d' hd
  split at h
  rotate_left
  · cases h
  rename_i hc
  injection h with h
  injection h with h1 h2
  subst h1 h2
  simp only [Bool.and_eq_true] at hc
  obtain ⟨⟨hal, _⟩, hall⟩ := hc
  unfold isAl at hal
  simp only [Bool.and_eq_true, Option.isNone_iff_eq_none] at hal
  obtain ⟨⟨hop, hg⟩, haf⟩ := hal
  split at hop
  rotate_left
  · cases hop
  rename_i te hte
  refine ⟨o, te, ho, hte, hg, fun e he => ?_, hd, fun j oj hj hne hh => ?_⟩
  · have : o.after = #[] := by simpa using haf
    rw [this] at he
    simp at he
  · have hlt : j < ops.size := (Array.getElem?_eq_some_iff.1 hj).1
    have := List.all_eq_true.mp hall j (List.mem_range.mpr hlt)
    unfold dstAt at this
    rw [hj] at this
    simp [hne, hh] at this

def zl (z : Nat) (e : Option Nat) (listed : Array Bool) : Array Bool := match e with | none => listed | some _ => listed.setIfInBounds z true
theorem zl_unl {z j : Nat} {e : Option Nat} {listed : Array Bool} (h : (zl z e listed).getD j true = false) : listed.getD j true = false := by
  cases e with
  | none => exact h
  | some g => exact unlisted_set h
theorem zl_set {z j : Nat} {e : Option Nat} {listed : Array Bool} (h : j ≠ z) : (zl z e listed).setIfInBounds j true = zl z e (listed.setIfInBounds j true) := by
  cases e with
  | none => rfl
  | some g => exact Array.setIfInBounds_comm _ _ (fun e => h e.symm)
theorem zl_out {z j : Nat} {e : Option Nat} {listed : Array Bool} (b : Bool) (h : j ≠ z) : (zl z e listed).getD j b = listed.getD j b := by
  cases e with
  | none => rfl
  | some g => exact getD_set_ne b (fun e => h e.symm)
theorem zin_ready {ops : Array Oper} {z j : Nat} {e : Option Nat} {listed : Array Bool} (h : j ∈ zReady ops z listed) : j ≠ z ∧ j ∈ Region.ready .any ops listed ∧ j ∈ Region.ready .any ops (zl z e listed) := by
  unfold zReady at h
  obtain ⟨h1, h2⟩ := List.mem_filter.mp h
  have hh : j ≠ z := by simpa using h2
  refine ⟨hh, h1, ?_⟩
  cases e with
  | none => exact h1
  | some g => exact ready_mono h1 hh
theorem zfar {ops : Array Oper} {z j : Nat} {e0 : Option Nat} {listed : Array Bool} {o : Oper} (ho : ops[j]? = some o) (hall : ∀ e ∈ o.after, Region.binds .any e = true → (zl z e0 listed).getD e.on false = true)
    (h : ((List.range ops.size).any fun k => k != z && !listed.getD k false && waits ops j k) = true) : False := by
  obtain ⟨k, _, hk⟩ := List.any_eq_true.mp h
  simp only [Bool.and_eq_true, Bool.not_eq_true', bne_iff_ne, ne_eq] at hk
  obtain ⟨e, he, hb, hon⟩ := waits_spec ho hk.2
  have := hall e he hb
  rw [hon, zl_out false hk.1.1, hk.1.2] at this
  cases this
theorem zout_ready {ops : Array Oper} {z j : Nat} {e : Option Nat} {listed : Array Bool} (hs : zSafe ops z listed = true) (hh : j ≠ z) (hj : j ∈ Region.ready .any ops (zl z e listed)) : j ∈ zReady ops z listed := by
  obtain ⟨h0, o, ho, hall⟩ := mem_ready.1 hj
  rw [zl_out true hh] at h0
  have hlt : j < ops.size := (Array.getElem?_eq_some_iff.1 ho).1
  have hsj := List.all_eq_true.mp hs j (List.mem_range.mpr hlt)
  simp only [beq_iff_eq, hh, h0, Bool.false_or, Bool.or_eq_true, Bool.not_eq_true', false_or, Bool.false_eq_true] at hsj
  rcases hsj with hsj | hsj
  · refine List.mem_filter.mpr ⟨mem_ready.2 ⟨h0, o, ho, fun e' he hb => ?_⟩, by simp [hh]⟩
    have hc := hall e' he hb
    by_cases hon : e'.on = z
    · rw [waits_of ho he hb hon] at hsj
      cases hsj
    · rwa [zl_out false hon] at hc
  · exact (zfar ho hall hsj).elim
theorem zlast_ready {ops : Array Oper} {z j : Nat} {listed : Array Bool} (hu : listed.getD z true = false) (hs : zLast ops z listed = true) (hh : j ≠ z) (hj : j ∈ Region.ready .any ops listed) : False := by
  obtain ⟨h0, o, ho, hall⟩ := mem_ready.1 hj
  have hlt : j < ops.size := (Array.getElem?_eq_some_iff.1 ho).1
  have hsj := List.all_eq_true.mp hs j (List.mem_range.mpr hlt)
  simp only [beq_iff_eq, hh, h0, Bool.false_or, Bool.or_eq_true, false_or, Bool.false_eq_true] at hsj
  rcases hsj with hsj | hsj
  · obtain ⟨e, he, hb, hon⟩ := waits_spec ho hsj
    have hc := hall e he hb
    rw [hon] at hc
    rw [(unl_false hu).1] at hc
    cases hc
  · exact zfar (z := z) (e0 := none) ho hall hsj
theorem z_ready {ops : Array Oper} {z d : Nat} {oz : Oper} {te : TypeId} {i : TI} (hZ : ZIs tb ops z d oz te i) {listed : Array Bool} (hu : listed.getD z true = false) : z ∈ Region.ready .any ops listed :=
  mem_ready.2 ⟨hu, oz, hZ.hz, fun e he => absurd he (hZ.af e)⟩

/-- The machine has made the block, at g; the evaluator has not. -/
def Pd (te : TypeId) (i : TI) (d : Nat) (c : Cx) (a : Act) (e : Option Nat) : Prop :=
  ∀ g, e = some g → a.tmps.getD d undef = .pointer (some ⟨g, 0, none⟩) ∧ (∃ conc : Array Value, c.w.heap[g]? = some (.cells conc te (0, 0)) ∧ conc.toList = i.zero) ∧ ¬ c.T g ∧ ∀ j, j ∈ c.D → ¬ c.ow j g
theorem Pd.keep {te : TypeId} {i : TI} {d : Nat} {c c' : Cx} {a : Act} {e : Option Nat} {ap : Bool} {M : List Nat} {dst : Option Nat} {y : Value} (h : Pd te i d c a e) (ht : TameM ap M c c') (hd : dst ≠ some d) : Pd te i d c' (a.put dst y) e := by
  intro g hg
  obtain ⟨h1, ⟨conc, h2, h3⟩, h4, h5⟩ := h g hg
  have hlt : g < c.w.heap.size := (Array.getElem?_eq_some_iff.mp h2).1
  refine ⟨by rw [getD_put_ne _ _ _ _ hd]; exact h1, ⟨conc, ?_, h3⟩, fun hT => ?_, fun j hj hb => ?_⟩
  · rw [ht.old g hlt (fun _ j hj hb => h5 j hj (.inl (ownBlock_blk hb))) (fun j _ hj => h5 j hj)]
    exact h2
  · rcases ht.bT g hT hlt with h9 | ⟨j, h8, h9⟩
    · exact h4 h9
    · exact h5 j h8 h9
  · obtain ⟨j', h8, h9⟩ := ht.bO j hj g hb hlt
    exact h5 j' h8 h9

/-- The machine makes the block. -/
theorem z_exec (htb : tb.ok P) {ops : Array Oper} {z d : Nat} {oz : Oper} {te : TypeId} {i : TI} (hZ : ZIs tb ops z d oz te i) (hr : Rel c st a.tmps) (hdl : d < st.env.length) (hd : st.env.getD d .dead = .dead) (hfx : ∀ o, o ∈ ops.toList → dstOk tb.fixed o) {ap : Bool} {M : List Nat} {Q : Exit → Act → World → Prop} {X : Act → World → Prop}
    (hX : ∀ c' a' g, Rel c' st a'.tmps → Pd te i d c' a' (some g) → Step c c' → TameM ap M c c' → Kp tb.fixed a' a → X a' c'.w) : wpOp P ops Q z X a c.w := by
  unfold wpOp
  simp only [hZ.hz]
  rw [if_pos (by simp [Region.wanted, hZ.gd])]
  refine .inl ?_
  have hti := htb.ok0.ti _ _ hZ.ti
  obtain ⟨f, zv, hf, hf2, hf3, hf4, hf5⟩ := hti.info
  have hs := hr.s
  have hold := alloc_old c.w (.cells zv.cells te)
  let c' : Cx := { c with w := c.w.alloc (.cells zv.cells te) }
  have hml : ∀ l y, leafRel c l y → leafRel c' l y := fun l y hl => leafRel.move (c' := c') (fun k hk => hold k (hs.lt k hk)) hs.sub (fun _ h => h) (fun _ h => h) (fun i _ hi => ⟨hi, rfl⟩) hl
  have hsz : c.w.heap.size ≤ c'.w.heap.size := (alloc_below c.w (.cells zv.cells te)).size
  have hrel : Rel c' st a.tmps := by
    refine ⟨⟨hs.ids, hs.nodup, fun id e' he => ?_, hs.apartX, fun id g hi hg => ⟨(hs.ext id g hi hg).1, Nat.lt_of_lt_of_le (hs.ext id g hi hg).2 hsz⟩, hs.sub, fun k hk => Nat.lt_of_lt_of_le (hs.lt k hk) hsz⟩, hr.env.mono fun _ _ => avRel.imp hml⟩
    have hent := hs.ent id e' he
    have := hent.move (c1 := c') (f := fun l => l) hml (fun _ _ => rfl) rfl (fun g hg => hold g (hs.ltX (by rw [hs.ids]; exact List.mem_map.mpr ⟨_, he, rfl⟩) hg)) (fun g hg => hent.notT hg) (fun g hg => hg)
    rwa [mapE_id (fun _ => rfl)] at this
  have hstep : Step c c' := ⟨alloc_below _ _, fun k hk => hold k (hs.lt k hk), fun _ h => h, fun _ h => h, fun _ h => .inl h⟩
  have htame : TameM ap M c c' := ⟨hsz, fun k hk _ _ => hold k hk, fun j hj g hg _ => .inl ⟨j, hj, hg⟩, fun j hM hj g hg _ => ⟨j, hM, hj, hg⟩, fun _ h _ => .inl h, fun j hj g hg _ => ⟨j, hj, hg⟩⟩
  have hrun : (execOp a.eval oz).run P c.w = .ok (.value (.pointer (some ⟨c.w.heap.size, 0, none⟩))) (c.w.alloc (.cells zv.cells te)) := by
    unfold execOp
    rw [hZ.op]
    simp only [Instr.alloc, zeroValue, typeInfo, newVar, newRow, Sem.run_bind, run_program, Result.andThen_ok, hf, hf4, Sem.run_pure, run_newObj]
    rfl
  refine wp_val hrun ?_
  rw [hZ.ds]
  have hkp := Kp.put (o := oz) (hfx _ (opMem hZ.hz)) a (.pointer (some ⟨c.w.heap.size, 0, none⟩))
  rw [hZ.ds] at hkp
  refine hX c' _ c.w.heap.size (slot_put hrel hd) (fun g hg => ?_) hstep htame hkp
  injection hg with hg
  subst hg
  refine ⟨?_, ⟨zv.cells, heap_alloc_new _ _, hf5⟩, fun hT => Nat.lt_irrefl _ (hs.lt _ hT), fun j hj hb => Nat.lt_irrefl _ (hs.ltX hj hb)⟩
  have hts : d < a.tmps.size := by rw [← Array.length_toList, ← hr.env.length]; exact hdl
  simp only [Act.put, Array.getD_eq_getD_getElem?, Array.getElem?_setIfInBounds_self]
  rw [if_pos hts]
  rfl

theorem stepZ_one (htb : tb.ok P) {ops : Array Oper} {ap : Bool} {M : List Nat} {Q : Exit → Act → World → Prop} (hp : ∀ ch a w, ¬ Q (.panic ch) a w) (hsel : Region.noSelect ops = true) (hM : tb.deep = false ∨ M = []) (hfx : ∀ o, o ∈ ops.toList → dstOk tb.fixed o)
    {z d : Nat} {oz : Oper} {te : TypeId} {ti : TI} (hZ : ZIs tb ops z d oz te ti) {Kc : St → Option R} {rec : Array Bool → St → Option R} {e : Option Nat} {mf' : Nat}
    (hrec : ∀ {listed : Array Bool} {a : Act} {c : Cx} {st : St}, Rel c st a.tmps → Pd te ti d c a e → listed.getD z true = false → rec listed st = some r →
      (∀ a' c' st', Kc st' = some r → Rel c' st' a'.tmps → Step c c' → Kp tb.fixed a' a → Q .normal a' c'.w) → wpAnyD P .any ops Q (SD ops false ap M c) mf' (zl z e listed) a c.w) :
    ∀ {listed : Array Bool} {a : Act} {c : Cx} {st : St}, Rel c st a.tmps → d < st.env.length → st.env.getD d .dead = .dead → Pd te ti d c a e → listed.getD z true = false → stepZ tb ops ap M z rec listed st = some r →
      (e = none → ∀ {a' : Act} {c' : Cx} {g : Nat}, Rel c' st a'.tmps → Pd te ti d c' a' (some g) → Step c c' → Kp tb.fixed a' a → wpAnyD P .any ops Q (SD ops false ap M c') mf' (listed.setIfInBounds z true) a' c'.w) →
      (∀ a' c' st', Kc st' = some r → Rel c' st' a'.tmps → Step c c' → Kp tb.fixed a' a → Q .normal a' c'.w) → wpAnyD P .any ops Q (SD ops false ap M c) (mf' + 1) (zl z e listed) a c.w := by
  intro listed a c st hr hdl hd hA hu h hnext hq
  unfold stepZ at h
  split at h
  rotate_left
  · cases h
  rename_i hsafe
  split at h
  · cases h
  rename_i i0 more hrd
  have cont : ∀ {j : Nat} {oj : Oper} {y : Value} {c' : Cx} {st2 : St}, ops[j]? = some oj → j ≠ z → Rel c' st2 (a.put oj.dst y).tmps → Step c c' → TameM ap M c c' → rec (listed.setIfInBounds j true) st2 = some r → wpAnyD P .any ops Q (SD ops false ap M c') mf' ((zl z e listed).setIfInBounds j true) (a.put oj.dst y) c'.w := by
    intro j oj y c' st2 hj hh hr2 hst htm hrc
    rw [zl_set hh]
    exact hrec hr2 (hA.keep htm (hZ.out j oj hj hh)) (by rw [getD_set_ne true hh]; exact hu) hrc fun a' c2 st' k1 k2 k3 k4 => hq a' c2 st' k1 k2 (hst.trans k3) (k4.trans (Kp.put (hfx _ (opMem hj)) a y))
  split at h
  · rename_i i hfind
    obtain ⟨hmem, hpi⟩ := find_mem hfind
    rw [← hrd] at hmem
    simp only [Bool.and_eq_true, Bool.or_eq_true] at hpi
    obtain ⟨⟨hquick, hfree⟩, hlw⟩ := hpi
    obtain ⟨hh, hmr, hmm⟩ := zin_ready (e := e) hmem
    split at h
    rotate_left
    · cases h
    rename_i o hi
    have h3 : ∀ l j w, SD ops false ap M c (l.setIfInBounds i true) j w → SD ops false ap M c l j w := fun l j w hS => ⟨hS.1, fun h => by cases h⟩
    have hfr : ∀ j oj, ops[j]? = some oj → j ≠ i → (zl z e listed).getD j true = false → (∀ e ∈ oj.after, Region.binds .any e = true → e.on ≠ i) → o.apart ops oj = true := fun j oj hj hne hu2 hno => Region.free_spec hi hfree j oj hj hne (zl_unl hu2) hno
    have hzw : ∀ k, waits ops z k = false := fun k => by
      cases hk : waits ops z k with
      | false => rfl
      | true =>
        unfold waits at hk
        rw [hZ.hz] at hk
        obtain ⟨x, hx, _⟩ := Array.any_eq_true.mp hk
        exact absurd (Array.getElem_mem hx) (hZ.af _)
    have hzc : ∀ f k, listed.getD k true = false → viaB ops listed i f k = true → (zl z e listed).getD k true = false := fun f k hk hkv => by
      by_cases hkz : k = z
      · subst hkz
        cases f with
        | zero => unfold viaB at hkv; rw [hzw] at hkv; cases hkv
        | succ f => unfold viaB at hkv; simp [hzw] at hkv
      · rw [zl_out true hkz]; exact hk
    have free : ∀ {v : Value} {st2 : St}, YieldsIf P ops (fun _ => True) o v a → Rel c st2 (a.put o.dst v).tmps → rec (listed.setIfInBounds i true) st2 = some r → wpAnyD P .any ops Q (SD ops false ap M c) (mf' + 1) (zl z e listed) a c.w := by
      intro v st2 hy hr2 h2
      have hrest := cont hi hh hr2 (Step.refl c) (TameM.refl _ _ _) h2
      by_cases hw : lateWaitV ops listed i = true
      · exact wpAnyD_firstV (S0 := fun _ => True) (Inv := InvL ops false ap M c) listed hi (Region.noSelect_spec hsel) (fun ch _ _ hh => absurd hh (hp ch _ _)) (fun _ _ _ => trivial) (fun l w hI => ⟨fun _ => hI.1, fun h => by cases h⟩) h3 mf' (zl z e listed) a c.w hfr hzc
          ⟨Sc.refl ap M c, fun h => by cases h⟩ (fun j oj hj hne hu2 hno hv l w w' _ hS => InvL.step (by
            cases hl : lateOp ops j with
            | false => rfl
            | true =>
              have hvv := lateWaitV_spec hw j oj hj hne (zl_unl hu2) hl
              rw [hv (zl_unl hu2) 6] at hvv
              cases hvv) hS) hmm hy hrest
      · have hl : lateOp ops i = true := by
          rcases hlw with hl | hl
          · exact hl
          · exact absurd hl hw
        exact wpAnyD_first (S0 := fun _ => True) (Inv := fun _ _ => True) hi (Region.noSelect_spec hsel) (fun ch _ _ hh => absurd hh (hp ch _ _)) (fun _ _ _ => trivial) (fun l w _ => ⟨fun h0 => (by rw [hl] at h0; cases h0), fun h => by cases h⟩) h3 mf' (zl z e listed) a c.w hfr
          trivial (fun _ _ _ _ _ _ _ _ _ _ _ _ => trivial) hmm hy hrest
    rcases guarded_some hr h with ⟨st1, hr1, hwt, h1⟩ | ⟨st1, hr1, hwt, h1⟩
    · split at h1
      · rename_i hcond
        by_cases hpure : isPure o = true
        · obtain ⟨v, y, hrun, h2, hv2⟩ := evOp_pure htb hpure hr1 h1
          exact free (.inl ⟨hwt, fun w _ => hrun w⟩) (hr1.put (a := a) hv2) h2
        · simp only [hpure, Bool.false_eq_true, false_or, Bool.or_eq_true, Bool.and_eq_true, Bool.not_eq_true', Bool.and_eq_false_iff] at hcond
          obtain ⟨⟨⟨hload, hrow⟩, hout⟩, hlw2⟩ := hcond
          obtain ⟨v, y, b, hrun, h2, hv2, hb, hnr, hno⟩ := evOp_load htb hload hr1 h1
          have hrest := cont hi hh (hr1.put (a := a) (dst := o.dst) hv2) (Step.refl c) (TameM.refl _ _ _) h2
          have hMout : ∀ i', i' ∈ M → i' ∈ c.D → ¬ c.ow i' b := fun i' hM' hi' hob => by
            refine hno i' hi' (fun e => ?_) hob
            unfold loadOut at hout
            rw [← e] at hout
            simp [hM'] at hout
          have hkey : ∀ w, Sc ap M c w → w.heap[b]? = c.w.heap[b]? := fun w hSw => by
            refine hSw.2 b hb (fun hap i' hi' hob => ?_) hMout
            have hrow' : loadRow o st1 = false := by
              rcases hrow with h9 | h9
              · rw [hap] at h9; cases h9
              · exact h9
            have hi2 := hi'
            rw [hr1.s.ids] at hi2
            obtain ⟨e', he'⟩ := mem_ids hi2
            cases e' with
            | row e t xs => exact hnr hrow' i' _ he' rfl (ownBlock_blk hob)
            | lrow e t n cells => exact hnr hrow' i' _ he' rfl (ownBlock_blk hob)
            | deep e t xs => exact hnr hrow' i' _ he' rfl (ownBlock_blk hob)
            | zip e t l cells r => exact hnr hrow' i' _ he' rfl (ownBlock_blk hob)
            | box t cells =>
              obtain ⟨g, conc, h9, _⟩ := hr1.s.ent _ _ he'
              rw [h9] at hob
              cases hob
          exact wpAnyD_firstV (S0 := fun w => w.heap[b]? = c.w.heap[b]?) (Inv := InvL ops false ap M c) listed hi (Region.noSelect_spec hsel) (fun ch _ _ hh => absurd hh (hp ch _ _)) (fun l w hI => hkey w hI.1) (fun l w hI => ⟨fun _ => hI.1, fun h => by cases h⟩) h3 mf' (zl z e listed) a c.w hfr hzc
            ⟨Sc.refl ap M c, fun h => by cases h⟩ (fun j oj hj hne hu2 hno2 hv l w w' _ hS => InvL.step (by
              cases hl : lateOp ops j with
              | false => rfl
              | true =>
                have hvv := lateWaitV_spec hlw2 j oj hj hne (zl_unl hu2) hl
                rw [hv (zl_unl hu2) 6] at hvv
                cases hvv) hS) hmm (.inl ⟨hwt, fun w hw => hrun w hw⟩) hrest
      · cases h1
    · exact free (.inr ⟨hwt, rfl⟩) (hr1.put (a := a) (undef_rel c)) h1
  · split at h
    rotate_left
    · cases h
    split at h
    rotate_left
    · cases h
    rename_i o hi
    have hmem : i0 ∈ zReady ops z listed := by rw [hrd]; simp
    obtain ⟨hh, hmr, hmm⟩ := zin_ready (e := e) hmem
    refine ⟨fun h0 => (by rw [h0] at hmm; cases hmm), fun j hj => ?_⟩
    by_cases ho : j = z
    · subst ho
      cases e with
      | some g =>
        have := (mem_ready.1 hj).1
        simp only [zl] at this
        rw [set_listed] at this
        cases this
      | none =>
        refine z_exec (ap := ap) (M := M) htb hZ hr hdl hd hfx fun c' a' g k1 k2 k3 k4 k5 => ?_
        exact ⟨⟨fun _ => Sc.of_tame k4 (Sc.refl ap M _), fun h => by cases h⟩, wpAnyD_mono _ _ _ _ (fun _ _ _ _ l w hS => SD.of_tame k4 (fun h => by cases h) hS) (hnext rfl k1 k2 k3 k5)⟩
    · have hj2 := zout_ready hsafe ho hj
      rw [hrd] at hj2
      have hj0 : j = i0 := by simpa using hj2
      subst hj0
      unfold wpOp
      simp only [hi]
      rcases guarded_some hr h with ⟨st1, hr1, hwt, h1⟩ | ⟨st1, hr1, hwt, h1⟩
      · rw [if_pos hwt]
        have done : ∀ {v : AV} {y : Value} {c' : Cx} {st' : St}, rec (listed.setIfInBounds j true) (st'.put o.dst v) = some r → Rel c' st' a.tmps → avRel c' v y → Step c c' → TameM ap M c c' → SD ops false ap M c (zl z e listed) j c'.w ∧ wpAnyD P .any ops Q (SD ops false ap M c) mf' ((zl z e listed).setIfInBounds j true) (a.put o.dst y) c'.w := fun k1 k2 k3 k4 k5 =>
          ⟨⟨fun _ => Sc.of_tame k5 (Sc.refl ap M _), fun h => by cases h⟩, wpAnyD_mono _ _ _ _ (fun _ _ _ _ l w hS => SD.of_tame k5 (fun h => by cases h) hS) (cont hi ho (k2.put (a := a) k3) k4 k5 k1)⟩
        split at h1
        · exact .inl (evCallIn_goes (ap := ap) htb hM hr1 h1 _ _ fun v y c' st' k1 k2 k3 k4 k5 => done k1 k2 k3 k4 k5)
        split at h1
        · rename_i ht
          exact .inl (evOp_tame htb hM ht hr1 h1 _ _ fun v y c' st' k1 k2 k3 k4 k5 => done k1 k2 k3 k4 k5)
        · cases h1
      · rw [if_neg (by rw [hwt]; simp)]
        exact ⟨⟨fun _ => Sc.refl ap M c, fun h => by cases h⟩, cont hi ho (hr1.put (a := a) (undef_rel c)) (Step.refl c) (TameM.refl _ _ _) h1⟩

theorem evAnyZ_hide {ops : Array Oper} {ap : Bool} {M : List Nat} {z d : Nat} {Kc : St → Option R} {fe : Nat} {listed : Array Bool} : evAnyZ tb ops ap M z d Kc fe listed (st.put (some d) .dead) = evAnyZ tb ops ap M z d Kc fe listed st := by
  have hh : (st.put (some d) .dead).put (some d) .dead = st.put (some d) .dead := put_dead (set_dead _ _ _ (.inr rfl))
  have hl : (st.put (some d) .dead).env.length = st.env.length := by simp [St.put]
  match fe with
  | 0 => rfl
  | 1 => unfold evAnyZ; simp only [hh, hl]; rfl
  | fuel + 2 => unfold evAnyZ; simp only [hh, hl]; rfl

theorem evAnyZ_goes (htb : tb.ok P) {ops : Array Oper} {ap : Bool} {M : List Nat} {Q : Exit → Act → World → Prop} (hp : ∀ ch a w, ¬ Q (.panic ch) a w) (hsel : Region.noSelect ops = true) (hM : tb.deep = false ∨ M = []) (hfx : ∀ o, o ∈ ops.toList → dstOk tb.fixed o)
    {z d : Nat} {oz : Oper} {te : TypeId} {ti : TI} (hZ : ZIs tb ops z d oz te ti) {Kc : St → Option R} :
    ∀ (fe : Nat) (e : Option Nat) {listed : Array Bool} {a : Act} {c : Cx} {st : St} {mf : Nat}, mf + (if e.isSome then 1 else 0) = fe → Rel c st a.tmps → Pd te ti d c a e → listed.getD z true = false → evAnyZ tb ops ap M z d Kc fe listed st = some r →
      (∀ a' c' st', Kc st' = some r → Rel c' st' a'.tmps → Step c c' → Kp tb.fixed a' a → Q .normal a' c'.w) → wpAnyD P .any ops Q (SD ops false ap M c) mf (zl z e listed) a c.w := by
  intro fe
  induction fe using Nat.strongRecOn with
  | _ fe ihf =>
    cases fe with
    | zero =>
      intro e listed a c st mf _ _ _ _ h
      cases h
    | succ fuel =>
    have some_case : ∀ (g : Nat) {listed : Array Bool} {a : Act} {c : Cx} {st : St} {mf : Nat}, mf + 1 = fuel + 1 → Rel c st a.tmps → Pd te ti d c a (some g) → listed.getD z true = false → evAnyZ tb ops ap M z d Kc (fuel + 1) listed st = some r →
      (∀ a' c' st', Kc st' = some r → Rel c' st' a'.tmps → Step c c' → Kp tb.fixed a' a → Q .normal a' c'.w) → wpAnyD P .any ops Q (SD ops false ap M c) mf (zl z (some g) listed) a c.w := by
      intro g listed a c st mf hmf hr hA hu h hq
      have hr1 : Rel c (st.put (some d) .dead) a.tmps := put_slot hr (v := .dead) trivial
      unfold evAnyZ at h
      split at h
      rotate_left
      · cases h
      rename_i hdl
      have hdl1 : d < (st.put (some d) .dead).env.length := by simpa [St.put] using hdl
      split at h
      · split at h
        rotate_left
        · cases h
        rename_i hlast
        rw [hZ.hz] at h
        simp only at h
        obtain rfl : mf = fuel := by omega
        unfold evOp at h
        rw [hZ.op] at h
        simp only [hZ.ti] at h
        obtain ⟨h1, ⟨conc, h2, h3⟩, h4, h5⟩ := hA g rfl
        have hti := htb.ok0.ti _ _ hZ.ti
        have hρ : (c.grow c.w (fresh (st.put (some d) .dead).store) (.pointer (some ⟨g, 0, none⟩))).ρ (fresh (st.put (some d) .dead).store) = .pointer (some ⟨g, 0, none⟩) := if_pos rfl
        obtain ⟨p1, p2⟩ := hr1.growA (w1 := c.w) (y0 := .pointer (some ⟨g, 0, none⟩)) (e := .box te (ti.zero.map .v)) (fun _ _ => rfl) (Below.refl _ _) (fun g' hg' i hi hb => by
            have : g = g' := by simpa [blk] using hg'
            subst this
            exact h5 i hi hb) ⟨g, conc, hρ, h4, h2, by rw [h3]; exact all2_v _ _ hti.zone⟩
        have hp1 := put_slot (s := d) p1 (v := .lf (.ptr (fresh (st.put (some d) .dead).store) 0)) (by
          rw [h1]
          exact ⟨List.mem_append_right _ (List.mem_singleton.mpr rfl), g, hρ, rfl⟩)
        have hG := evAny_goes (c := c.grow c.w (fresh (st.put (some d) .dead).store) (.pointer (some ⟨g, 0, none⟩))) htb hp hsel hM hfx hp1 h fun a' c' st' k1 k2 k3 k4 => hq a' c' st' k1 k2 (p2.trans k3) k4
        have hfM : fresh (st.put (some d) .dead).store ∉ M := by
          have : fresh st.store ∉ M := by simpa using hlast.2
          exact this
        refine wpAnyD_mono (S := SD ops false ap M (c.grow c.w (fresh (st.put (some d) .dead).store) (.pointer (some ⟨g, 0, none⟩)))) _ _ _ _ (fun _ _ _ _ l w hS => ⟨fun hl => ?_, fun h => by cases h⟩) hG
        have hSc := hS.1 hl
        have hne : ∀ i, i ∈ c.D → i ≠ fresh (st.put (some d) .dead).store := fun i hi => fresh_not i (by rw [← hr1.s.ids]; exact hi)
        refine ⟨hSc.1, fun k hk hrr hm => hSc.2 k hk (fun hap i hi hb => ?_) fun i hM' hi hb => ?_⟩
        · have hi : i ∈ c.D ++ [fresh (st.put (some d) .dead).store] := hi
          rcases List.mem_append.mp hi with hi | hi
          · have e1 : (c.grow c.w (fresh (st.put (some d) .dead).store) (.pointer (some ⟨g, 0, none⟩))).ρ i = c.ρ i := if_neg (hne i hi)
            rw [e1] at hb
            exact hrr hap i hi hb
          · rw [List.mem_singleton] at hi
            rw [hi, hρ] at hb
            cases hb
        · have hi : i ∈ c.D ++ [fresh (st.put (some d) .dead).store] := hi
          rcases List.mem_append.mp hi with hi | hi
          · exact hm i hM' hi (grow_ow (hne i hi) hb)
          · rw [List.mem_singleton] at hi
            rw [hi] at hM'
            exact hfM hM'
      · split at h
        · cases h
        · rename_i f
          obtain ⟨mf', rfl⟩ : ∃ mf', mf = mf' + 1 := ⟨mf - 1, by omega⟩
          exact stepZ_one htb hp hsel hM hfx hZ (e := some g) (fun {listed a c st} k1 k2 k3 k4 k5 => ihf (f + 1) (by omega) (some g) (by simp; omega) k1 k2 k3 k4 k5) hr1 hdl1 (set_dead _ _ _ (.inr rfl)) hA hu h (fun h => by cases h) hq
    intro e
    cases e with
    | some g => exact fun hmf => some_case g (by simpa using hmf)
    | none =>
      intro listed a c st mf hmf hr hA hu h hq
      have hr1 : Rel c (st.put (some d) .dead) a.tmps := put_slot hr (v := .dead) trivial
      rw [← evAnyZ_hide] at h
      have h00 := h
      unfold evAnyZ at h
      split at h
      rotate_left
      · cases h
      rename_i hdl1
      have hd0 : (st.put (some d) .dead).env.getD d .dead = .dead := set_dead _ _ _ (.inr rfl)
      have hh : (st.put (some d) .dead).put (some d) .dead = st.put (some d) .dead := put_dead hd0
      have next : ∀ {mf' : Nat} {a' : Act} {c' : Cx} {g : Nat}, mf' + 1 = fuel + 1 → Rel c' (st.put (some d) .dead) a'.tmps → Pd te ti d c' a' (some g) → Step c c' → Kp tb.fixed a' a → wpAnyD P .any ops Q (SD ops false ap M c') mf' (listed.setIfInBounds z true) a' c'.w :=
        fun k0 k1 k2 k3 k4 => some_case _ k0 k1 k2 hu h00 fun a2 c2 st2 q1 q2 q3 q4 => hq a2 c2 st2 q1 q2 (k3.trans q3) (q4.trans k4)
      obtain rfl : mf = fuel + 1 := by simpa using hmf
      split at h
      · split at h
        rotate_left
        · cases h
        rename_i hlast
        refine ⟨fun h0 => ?_, fun j hj => ?_⟩
        · have := z_ready hZ hu
          rw [show zl z none listed = listed from rfl] at h0
          rw [h0] at this
          cases this
        · by_cases ho : j = z
          · subst ho
            refine z_exec (ap := ap) (M := M) htb hZ hr1 hdl1 hd0 hfx fun c' a' g k1 k2 k3 k4 k5 => ?_
            exact ⟨⟨fun _ => Sc.of_tame k4 (Sc.refl ap M _), fun h => by cases h⟩, wpAnyD_mono _ _ _ _ (fun _ _ _ _ l w hS => SD.of_tame k4 (fun h => by cases h) hS) (next (by omega) k1 k2 k3 k5)⟩
          · exact (zlast_ready hu hlast.1 ho hj).elim
      · split at h
        · cases h
        · rename_i f
          rw [hh] at h
          exact stepZ_one htb hp hsel hM hfx hZ (e := none) (fun {listed a c st} k1 k2 k3 k4 k5 => ihf (f + 1) (by omega) none (by simp) k1 k2 k3 k4 k5) hr1 hdl1 hd0 hA hu h (fun _ {a' c' g} k1 k2 k3 k4 => next (by omega) k1 k2 k3 k4) hq

end
end Go.Proofs.YtdacfaincamliaaGreat.Ev
