/- A block that is made beside other work, in a region that draws: whatever the order. Conditions: none. -/
import Derived.Test.YtdacfaincamliaaEvGrp3
namespace Go.Proofs.Ytdacfaincamliaa.Ev
open Go Go.RowKit

section
variable {P : Program} {R : Type} {tb : Tb}
variable {c : Cx} {st : St} {a : Act} {o : Oper} {K : AV → St → Option R} {r : R}

/-- What is known of the region. -/
structure ZIs (tb : Tb) (ops : Array Oper) (z d : Nat) (oz : Oper) (k : ZK) : Prop where
  hz : ops[z]? = some oz
  kd : zKind tb oz = some k
  gd : oz.guard = none
  ds : oz.dst = some d
  px : zParts ops z k = true
  out : ∀ j oj, ops[j]? = some oj → j ≠ z → oj.dst ≠ some d

theorem findSl_spec {ops : Array Oper} {z d : Nat} (h : findSl ops = some (z, d)) : ∃ oz, ops[z]? = some oz ∧ oz.guard = none ∧ oz.dst = some d ∧ ∀ j oj, ops[j]? = some oj → j ≠ z → oj.dst ≠ some d := by
  unfold findSl at h
  obtain ⟨z', _, h⟩ := List.exists_of_findSome?_eq_some h
  split at h
  rotate_left
  · cases h
  rename_i o ho
  split at h
  rotate_left
  · cases h
  rename_i d' hop hd
  split at h
  rotate_left
  · cases h
  rename_i hc
  injection h with h
  injection h with h1 h2
  subst h1 h2
  simp only [Bool.and_eq_true, Option.isNone_iff_eq_none] at hc
  refine ⟨o, ho, hc.1.1.2, hd, fun j oj hj hne hh => ?_⟩
  have hlt : j < ops.size := (Array.getElem?_eq_some_iff.1 hj).1
  have := List.all_eq_true.mp hc.2 j (List.mem_range.mpr hlt)
  unfold dstAt at this
  rw [hj] at this
  simp [hne, hh] at this
theorem findAl_spec {ops : Array Oper} {z d : Nat} (h : findAl ops = some (z, d)) : ∃ oz te, ops[z]? = some oz ∧ oz.op = .alloc te ∧ oz.guard = none ∧ (∀ e, e ∉ oz.after) ∧ oz.dst = some d ∧ ∀ j oj, ops[j]? = some oj → j ≠ z → oj.dst ≠ some d := by
  unfold findAl at h
  obtain ⟨z', _, h⟩ := List.exists_of_findSome?_eq_some h
  split at h
  rotate_left
  · cases h
  rename_i o ho
  split at h
  rotate_left
  · cases h
  rename_i d' hd
  split at h
  rotate_left
  · cases h
  rename_i hc
  injection h with h
  injection h with h1 h2
  subst h1 h2
  simp only [Bool.and_eq_true] at hc
  obtain ⟨⟨hal, _⟩, hall⟩ := hc
  unfold isAl at hal
  simp only [Bool.and_eq_true, Option.isNone_iff_eq_none] at hal
  obtain ⟨⟨hop, hg⟩, haf⟩ := hal
  split at hop
  rotate_left
  · cases hop
  rename_i te hte
  refine ⟨o, te, ho, hte, hg, fun e he => ?_, hd, fun j oj hj hne hh => ?_⟩
  · have : o.after = #[] := by simpa using haf
    rw [this] at he
    simp at he
  · have hlt : j < ops.size := (Array.getElem?_eq_some_iff.1 hj).1
    have := List.all_eq_true.mp hall j (List.mem_range.mpr hlt)
    unfold dstAt at this
    rw [hj] at this
    simp [hne, hh] at this

def zl (z : Nat) (e : Option Nat) (listed : Array Bool) : Array Bool := match e with | none => listed | some _ => listed.setIfInBounds z true
theorem zl_unl {z j : Nat} {e : Option Nat} {listed : Array Bool} (h : (zl z e listed).getD j true = false) : listed.getD j true = false := by
  cases e with
  | none => exact h
  | some g => exact unlisted_set h
theorem zl_set {z j : Nat} {e : Option Nat} {listed : Array Bool} (h : j ≠ z) : (zl z e listed).setIfInBounds j true = zl z e (listed.setIfInBounds j true) := by
  cases e with
  | none => rfl
  | some g => exact Array.setIfInBounds_comm _ _ (fun e => h e.symm)
theorem zl_out {z j : Nat} {e : Option Nat} {listed : Array Bool} (b : Bool) (h : j ≠ z) : (zl z e listed).getD j b = listed.getD j b := by
  cases e with
  | none => rfl
  | some g => exact getD_set_ne b (fun e => h e.symm)
theorem zin_ready {ops : Array Oper} {z j : Nat} {e : Option Nat} {listed : Array Bool} (h : j ∈ zReady ops z listed) : j ≠ z ∧ j ∈ Region.ready .any ops listed ∧ j ∈ Region.ready .any ops (zl z e listed) := by
  unfold zReady at h
  obtain ⟨h1, h2⟩ := List.mem_filter.mp h
  have hh : j ≠ z := by simpa using h2
  refine ⟨hh, h1, ?_⟩
  cases e with
  | none => exact h1
  | some g => exact ready_mono h1 hh
theorem zfar {ops : Array Oper} {z j : Nat} {e0 : Option Nat} {listed : Array Bool} {o : Oper} (ho : ops[j]? = some o) (hall : ∀ e ∈ o.after, Region.binds .any e = true → (zl z e0 listed).getD e.on false = true)
    (h : ((List.range ops.size).any fun k => k != z && !listed.getD k false && waits ops j k) = true) : False := by
  obtain ⟨k, _, hk⟩ := List.any_eq_true.mp h
  simp only [Bool.and_eq_true, Bool.not_eq_true', bne_iff_ne, ne_eq] at hk
  obtain ⟨e, he, hb, hon⟩ := waits_spec ho hk.2
  have := hall e he hb
  rw [hon, zl_out false hk.1.1, hk.1.2] at this
  cases this
theorem zout_ready {ops : Array Oper} {z j : Nat} {e : Option Nat} {listed : Array Bool} (hs : zSafe ops z listed = true) (hh : j ≠ z) (hj : j ∈ Region.ready .any ops (zl z e listed)) : j ∈ zReady ops z listed := by
  obtain ⟨h0, o, ho, hall⟩ := mem_ready.1 hj
  rw [zl_out true hh] at h0
  have hlt : j < ops.size := (Array.getElem?_eq_some_iff.1 ho).1
  have hsj := List.all_eq_true.mp hs j (List.mem_range.mpr hlt)
  simp only [beq_iff_eq, hh, h0, Bool.false_or, Bool.or_eq_true, Bool.not_eq_true', false_or, Bool.false_eq_true] at hsj
  rcases hsj with hsj | hsj
  · refine List.mem_filter.mpr ⟨mem_ready.2 ⟨h0, o, ho, fun e' he hb => ?_⟩, by simp [hh]⟩
    have hc := hall e' he hb
    by_cases hon : e'.on = z
    · rw [waits_of ho he hb hon] at hsj
      cases hsj
    · rwa [zl_out false hon] at hc
  · exact (zfar ho hall hsj).elim
theorem zlast_ready {ops : Array Oper} {z j : Nat} {listed : Array Bool} (hu : listed.getD z true = false) (hs : zLast ops z listed = true) (hh : j ≠ z) (hj : j ∈ Region.ready .any ops listed) : False := by
  obtain ⟨h0, o, ho, hall⟩ := mem_ready.1 hj
  have hlt : j < ops.size := (Array.getElem?_eq_some_iff.1 ho).1
  have hsj := List.all_eq_true.mp hs j (List.mem_range.mpr hlt)
  simp only [beq_iff_eq, hh, h0, Bool.false_or, Bool.or_eq_true, false_or, Bool.false_eq_true] at hsj
  rcases hsj with hsj | hsj
  · obtain ⟨e, he, hb, hon⟩ := waits_spec ho hsj
    have hc := hall e he hb
    rw [hon] at hc
    rw [(unl_false hu).1] at hc
    cases hc
  · exact zfar (z := z) (e0 := none) ho hall hsj
/-- What the machine made ahead of the evaluator. -/
def Pd (k : ZK) (d : Nat) (c : Cx) (a : Act) (e : Option Nat) : Prop :=
  ∀ g, e = some g → match k with
    | .al te i => a.tmps.getD d undef = .pointer (some ⟨g, 0, none⟩) ∧ (∃ conc : Array Value, c.w.heap[g]? = some (.cells conc te (0, 0)) ∧ conc.toList = i.zero) ∧ ¬ c.T g ∧ ∀ j, j ∈ c.D → ¬ c.ow j g
    | .s0 _ _ => a.tmps.getD d undef = .slice (some ⟨g, 0, none⟩) 0 0
    | .s1 ee _ x => a.tmps.getD d undef = .slice (some ⟨g, 0, none⟩) 1 1 ∧ (c.w.heap[g]? = some (.cells #[a.eval x] ee (0, 0)) ∧ (a.eval x).oneCell' = true) ∧ ¬ c.T g ∧ ∀ j, j ∈ c.D → ¬ c.ow j g
theorem Pd.none_ {k : ZK} {d : Nat} {c : Cx} {a : Act} : Pd k d c a none := fun _ h => by cases h
theorem un_keep {c c' : Cx} {g : Nat} {ap : Bool} {M : List Nat} (ht : TameM ap M c c') (hlt : g < c.w.heap.size) (h4 : ¬ c.T g) (h5 : ∀ j, j ∈ c.D → ¬ c.ow j g) : c'.w.heap[g]? = c.w.heap[g]? ∧ ¬ c'.T g ∧ ∀ j, j ∈ c'.D → ¬ c'.ow j g := by
  refine ⟨ht.old g hlt (fun _ j hj hb => h5 j hj (.inl (ownBlock_blk hb))) (fun j _ hj => h5 j hj), fun hT => ?_, fun j hj hb => ?_⟩
  · rcases ht.bT g hT hlt with h9 | ⟨j, h8, h9⟩
    · exact h4 h9
    · exact h5 j h8 h9
  · obtain ⟨j', h8, h9⟩ := ht.bO j hj g hb hlt
    exact h5 j' h8 h9
theorem Pd.keep {k : ZK} {d : Nat} {c c' : Cx} {a : Act} {e : Option Nat} {ap : Bool} {M : List Nat} {dst : Option Nat} {y : Value} (h : Pd k d c a e) (ht : TameM ap M c c') (hd : dst ≠ some d) (hx : e.isSome = true → ∀ ee ty t, k = .s1 ee ty (.tmp t) → dst ≠ some t) : Pd k d c' (a.put dst y) e := by
  intro g hg
  have hh := h g hg
  cases k with
  | al te i =>
    obtain ⟨h1, ⟨conc, h2, h3⟩, h4, h5⟩ := hh
    have hlt : g < c.w.heap.size := (Array.getElem?_eq_some_iff.mp h2).1
    obtain ⟨k1, k2, k3⟩ := un_keep ht hlt h4 h5
    exact ⟨by rw [getD_put_ne _ _ _ _ hd]; exact h1, ⟨conc, by rw [k1]; exact h2, h3⟩, k2, k3⟩
  | s0 ee ty =>
    show (a.put dst y).tmps.getD d undef = _
    rw [getD_put_ne _ _ _ _ hd]
    exact hh
  | s1 ee ty x =>
    obtain ⟨h1, ⟨h2, h3⟩, h4, h5⟩ := hh
    have hlt : g < c.w.heap.size := (Array.getElem?_eq_some_iff.mp h2).1
    obtain ⟨k1, k2, k3⟩ := un_keep ht hlt h4 h5
    have he : (a.put dst y).eval x = a.eval x := by
      cases x with
      | tmp t => exact getD_put_ne a dst t y (hx (by rw [hg]; rfl) ee ty t rfl)
      | _ => cases dst <;> rfl
    exact ⟨by rw [getD_put_ne _ _ _ _ hd]; exact h1, ⟨by rw [k1, he]; exact h2, by rw [he]; exact h3⟩, k2, k3⟩

theorem zKind_al {oz : Oper} {te : TypeId} {i : TI} (h : zKind tb oz = some (.al te i)) : oz.op = .alloc te ∧ tb.ti te = some i := by
  unfold zKind at h
  split at h
  · rename_i te' hop
    obtain ⟨i', h1, h2⟩ := Option.map_eq_some_iff.mp h
    injection h2 with h2 h3
    rw [h2] at h1 hop
    rw [h3] at h1
    exact ⟨hop, h1⟩
  · split at h
    · split at h
      · split at h
        · split at h
          · split at h
            · split at h
              · cases h
              · split at h <;> cases h
              · cases h
            · cases h
          · cases h
        · cases h
      · cases h
    · cases h
  · cases h
theorem zKind_s0 {oz : Oper} {e : TypeId} {ty : Ty} (h : zKind tb oz = some (.s0 e ty)) : ∃ t i ie, oz.op = .buildSlice t 0 #[] ∧ tb.ti t = some i ∧ i.desc = .slice e ∧ tb.ti e = some ie := by
  unfold zKind at h
  split at h
  · obtain ⟨i', h1, h2⟩ := Option.map_eq_some_iff.mp h
    cases h2
  · rename_i t len parts hop
    split at h
    · rename_i i hi
      split at h
      · rename_i e' hd
        split at h
        · rename_i ie hie
          split at h
          · split at h
            · split at h
              · rename_i hp
                injection h with h
                injection h with h1 h2
                subst h1
                have : parts = #[] := by rcases parts with ⟨l⟩; simp at hp; rw [hp]
                rw [this] at hop
                exact ⟨t, i, ie, hop, hi, hd, hie⟩
              · split at h <;> cases h
              · cases h
            · cases h
          · cases h
        · cases h
      · cases h
    · cases h
  · cases h
theorem zKind_s1 {oz : Oper} {e : TypeId} {ty : Ty} {x : Operand} (h : zKind tb oz = some (.s1 e ty x)) : ∃ t i ie, oz.op = .buildSlice t 1 #[(0, x)] ∧ tb.ti t = some i ∧ i.desc = .slice e ∧ tb.ti e = some ie ∧ ie.size = 1 ∧ ty.sz = 1 := by
  unfold zKind at h
  split at h
  · obtain ⟨i', h1, h2⟩ := Option.map_eq_some_iff.mp h
    cases h2
  · rename_i t len parts hop
    split at h
    · rename_i i hi
      split at h
      · rename_i e' hd
        split at h
        · rename_i ie hie
          split at h
          · rename_i ty' hty
            split at h
            · rename_i hsz
              split at h
              · cases h
              · rename_i x' hp
                split at h
                · rename_i h1
                  injection h with h
                  injection h with h2 h3 h4
                  subst h2 h3 h4
                  have : parts = #[(0, x')] := by rcases parts with ⟨l⟩; simp at hp; rw [hp]
                  rw [this] at hop
                  exact ⟨t, i, ie, hop, hi, hd, hie, by rw [hsz, h1], h1⟩
                · cases h
              · cases h
            · cases h
          · cases h
        · cases h
      · cases h
    · cases h
  · cases h
theorem oneV_one {v : AV} {y : Value} (h : oneV v = true) (hv : avRel c v y) : y.oneCell' = true := by
  unfold oneV at h
  split at h
  · rename_i k n
    exact leaf_one (c := c) (l := .v (.int k n)) hv
  · rename_i lt e t xs
    exact leaf_one (c := c) (l := .rd lt e t xs) hv
  · cases h

/-- The machine makes it. -/
theorem z_exec (htb : tb.ok P) {ops : Array Oper} {z d : Nat} {oz : Oper} {k : ZK} (hZ : ZIs tb ops z d oz k) {listed : Array Bool} (hzr : z ∈ Region.ready .any ops listed) (hck : zChk ops z k listed st = true) (hr : Rel c st a.tmps) (hdl : d < st.env.length) (hd : st.env.getD d .dead = .dead) (hfx : ∀ o, o ∈ ops.toList → dstOk tb.fixed o) {ap : Bool} {M : List Nat} {Q : Exit → Act → World → Prop} {X : Act → World → Prop}
    (hX : ∀ c' a' g, Rel c' st a'.tmps → Pd k d c' a' (some g) → Step c c' → TameM ap M c c' → Kp tb.fixed a' a → X a' c'.w) : wpOp P ops Q z X a c.w := by
  unfold wpOp
  simp only [hZ.hz]
  rw [if_pos (by simp [Region.wanted, hZ.gd])]
  refine .inl ?_
  have hs := hr.s
  have hts : d < a.tmps.size := by rw [← Array.length_toList, ← hr.env.length]; exact hdl
  have hput : ∀ y : Value, (a.put (some d) y).tmps.getD d undef = y := fun y => by
    simp only [Act.put, Array.getD_eq_getD_getElem?, Array.getElem?_setIfInBounds_self]
    rw [if_pos hts]
    rfl
  have gen : ∀ (conc : Array Value) (te : TypeId) (y : Value), (execOp a.eval oz).run P c.w = .ok (.value y) (c.w.alloc (.cells conc te)) →
      (∀ c' : Cx, c'.w = c.w.alloc (.cells conc te) → c'.T = c.T → (∀ j, j ∈ c'.D → ¬ c'.ow j c.w.heap.size) → Pd k d c' (a.put (some d) y) (some c.w.heap.size)) → oz.wp P a c.w X Q := by
    intro conc te y hrun hpd
    have hold := alloc_old c.w (.cells conc te)
    let c' : Cx := { c with w := c.w.alloc (.cells conc te) }
    have hml : ∀ l y, leafRel c l y → leafRel c' l y := fun l y hl => leafRel.move (c' := c') (fun k hk => hold k (hs.lt k hk)) hs.sub (fun _ h => h) (fun _ h => h) (fun i _ hi => ⟨hi, rfl⟩) hl
    have hsz : c.w.heap.size ≤ c'.w.heap.size := (alloc_below c.w (.cells conc te)).size
    have hrel : Rel c' st a.tmps := by
      refine ⟨⟨hs.ids, hs.nodup, fun id e' he => ?_, hs.apartX, fun id g hi hg => ⟨(hs.ext id g hi hg).1, Nat.lt_of_lt_of_le (hs.ext id g hi hg).2 hsz⟩, hs.sub, fun k hk => Nat.lt_of_lt_of_le (hs.lt k hk) hsz⟩, hr.env.mono fun _ _ => avRel.imp hml⟩
      have hent := hs.ent id e' he
      have := hent.move (c1 := c') (f := fun l => l) hml (fun _ _ => rfl) rfl (fun g hg => hold g (hs.ltX (by rw [hs.ids]; exact List.mem_map.mpr ⟨_, he, rfl⟩) hg)) (fun g hg => hent.notT hg) (fun g hg => hg)
      rwa [mapE_id (fun _ => rfl)] at this
    have hstep : Step c c' := ⟨alloc_below _ _, fun k hk => hold k (hs.lt k hk), fun _ h => h, fun _ h => h, fun _ h => .inl h⟩
    have htame : TameM ap M c c' := ⟨hsz, fun k hk _ _ => hold k hk, fun j hj g hg _ => .inl ⟨j, hj, hg⟩, fun j hM hj g hg _ => ⟨j, hM, hj, hg⟩, fun _ h _ => .inl h, fun j hj g hg _ => ⟨j, hj, hg⟩⟩
    refine wp_val hrun ?_
    rw [hZ.ds]
    have hkp := Kp.put (o := oz) (hfx _ (opMem hZ.hz)) a y
    rw [hZ.ds] at hkp
    exact hX c' _ c.w.heap.size (slot_put hrel hd) (hpd c' rfl rfl fun j hj hb => Nat.lt_irrefl _ (hs.ltX hj hb)) hstep htame hkp
  cases k with
  | al te i =>
    obtain ⟨hop, hti0⟩ := zKind_al hZ.kd
    obtain ⟨f, zv, hf, hf2, hf3, hf4, hf5⟩ := (htb.ok0.ti _ _ hti0).info
    refine gen zv.cells te (.pointer (some ⟨c.w.heap.size, 0, none⟩)) ?_ fun c' hw hT hno g hg => ?_
    · unfold execOp
      rw [hop]
      simp only [Instr.alloc, zeroValue, typeInfo, newVar, newRow, Sem.run_bind, run_program, Result.andThen_ok, hf, hf4, Sem.run_pure, run_newObj]
      rfl
    · injection hg with hg
      subst hg
      exact ⟨hput _, ⟨zv.cells, by rw [hw]; exact heap_alloc_new _ _, hf5⟩, fun h => Nat.lt_irrefl _ (hs.lt _ (by rw [← hT]; exact h)), hno⟩
  | s0 e ty =>
    obtain ⟨t, i, ie, hop, hti, hdsc, hte⟩ := zKind_s0 hZ.kd
    obtain ⟨f, zv, hf, _⟩ := (htb.ok0.ti _ _ hte).info
    have hu := (htb.ok0.ti _ _ hti).under
    rw [hdsc] at hu
    refine gen #[] e (.slice (some ⟨c.w.heap.size, 0, none⟩) 0 0) ?_ fun c' hw hT hno g hg => ?_
    · unfold execOp
      rw [hop]
      have := run_buildSlice0 (P := P) c.w t e f hu hf
      simp only [Sem.run_bind, Sem.run_pure, List.map_toArray, List.map_nil, this, Result.andThen_ok]
    · injection hg with hg
      subst hg
      exact hput _
  | s1 e ty x =>
    obtain ⟨t, i, ie, hop, hti, hdsc, hte, hsz1, _⟩ := zKind_s1 hZ.kd
    obtain ⟨f, zv, hf, hf2, hf3, hf4, hf5⟩ := (htb.ok0.ti _ _ hte).info
    have hu := (htb.ok0.ti _ _ hti).under
    rw [hdsc] at hu
    have hone : (a.eval x).oneCell' = true := by
      unfold zChk at hck
      simp only [Bool.or_eq_true, Bool.not_eq_true'] at hck
      rcases hck with h | h
      · have : (Region.ready .any ops listed).contains z = true := by simpa using hzr
        rw [this] at h; cases h
      · exact oneV_one h (hr.ev x)
    have hzl : zv.cells.size = 1 := by rw [← Array.length_toList, hf5, (htb.ok0.ti _ _ hte).zlen, hsz1]
    have hex : ∀ dv : Value, a.eval x = dv → ((a.put (some d) (.slice (some ⟨c.w.heap.size, 0, none⟩) 1 1)).eval x = a.eval x) := by
      intro dv _
      cases x with
      | tmp u =>
        have hne : d ≠ u := by
          rintro rfl
          have hp := hZ.px
          unfold zParts at hp
          have hlt : z < ops.size := (Array.getElem?_eq_some_iff.1 hZ.hz).1
          have := List.all_eq_true.mp hp z (List.mem_range.mpr hlt)
          unfold dstAt at this
          rw [hZ.hz] at this
          simp only [Option.bind_some, hZ.ds, bne_self_eq_false, Bool.false_or] at this
          unfold waits at this
          rw [hZ.hz] at this
          obtain ⟨q, hq, hq2⟩ := Array.any_eq_true.mp this
          simp only [Bool.and_eq_true, beq_iff_eq] at hq2
          have h1 := (mem_ready.1 hzr)
          obtain ⟨h0, o, ho, hall⟩ := h1
          rw [hZ.hz] at ho
          injection ho with ho
          subst ho
          have h2 := hall _ (Array.getElem_mem hq) hq2.1
          rw [hq2.2, (unl_false h0).1] at h2
          cases h2
        exact getD_put_ne a (some d) u _ (fun h => hne (by injection h))
      | _ => rfl
    refine gen #[a.eval x] e (.slice (some ⟨c.w.heap.size, 0, none⟩) 1 1) ?_ fun c' hw hT hno g hg => ?_
    · unfold execOp
      rw [hop]
      have hfill : (Instr.buildSlice t 1 #[(0, a.eval x)]).run P c.w = .ok (.slice (some ⟨c.w.heap.size, 0, none⟩) 1 1) (c.w.alloc (.cells #[a.eval x] e)) := by
        have hcl := one_cells hone
        refine run_buildSlice c.w t e 1 _ #[a.eval x] f zv hu hf hf4 (by rw [hf2]; omega) (by rw [hf2, hsz1]; decide) ?_
        rw [hf2, hsz1]
        simp [Instr.fill, hcl]
        rw [show Array.range 1 = #[0] from rfl]
        simp
      simp only [Sem.run_bind, Sem.run_pure, List.map_toArray, List.map_cons, List.map_nil, hfill, Result.andThen_ok]
    · injection hg with hg
      subst hg
      exact ⟨hput _, ⟨by rw [hw, hex _ rfl]; exact heap_alloc_new _ _, by rw [hex _ rfl]; exact hone⟩, fun h => Nat.lt_irrefl _ (hs.lt _ (by rw [← hT]; exact h)), hno⟩

theorem stepZ_one (htb : tb.ok P) {ops : Array Oper} {ap : Bool} {M : List Nat} {Q : Exit → Act → World → Prop} (hp : ∀ ch a w, ¬ Q (.panic ch) a w) (hsel : Region.noSelect ops = true) (hM : tb.deep = false ∨ M = []) (hfx : ∀ o, o ∈ ops.toList → dstOk tb.fixed o)
    {z d : Nat} {oz : Oper} {k : ZK} (hZ : ZIs tb ops z d oz k) {Kc : St → Option R} {rec : Array Bool → St → Option R} {e : Option Nat} {mf' : Nat}
    (hrec : ∀ {listed : Array Bool} {a : Act} {c : Cx} {st : St}, Rel c st a.tmps → Pd k d c a e → (e.isSome = true → ∀ x ∈ oz.after, Region.binds .any x = true → listed.getD x.on false = true) → listed.getD z true = false → rec listed st = some r →
      (∀ a' c' st', Kc st' = some r → Rel c' st' a'.tmps → Step c c' → Kp tb.fixed a' a → Q .normal a' c'.w) → wpAnyD P .any ops Q (SD ops false ap M c) mf' (zl z e listed) a c.w) :
    ∀ {listed : Array Bool} {a : Act} {c : Cx} {st : St}, Rel c st a.tmps → d < st.env.length → st.env.getD d .dead = .dead → Pd k d c a e → (e.isSome = true → ∀ x ∈ oz.after, Region.binds .any x = true → listed.getD x.on false = true) → listed.getD z true = false → stepZ tb ops ap M z k rec listed st = some r →
      (e = none → (∀ x ∈ oz.after, Region.binds .any x = true → listed.getD x.on false = true) → ∀ {a' : Act} {c' : Cx} {g : Nat}, Rel c' st a'.tmps → Pd k d c' a' (some g) → Step c c' → Kp tb.fixed a' a → wpAnyD P .any ops Q (SD ops false ap M c') mf' (listed.setIfInBounds z true) a' c'.w) →
      (∀ a' c' st', Kc st' = some r → Rel c' st' a'.tmps → Step c c' → Kp tb.fixed a' a → Q .normal a' c'.w) → wpAnyD P .any ops Q (SD ops false ap M c) (mf' + 1) (zl z e listed) a c.w := by
  intro listed a c st hr hdl hd hA hdep hu h hnext hq
  unfold stepZ at h
  split at h
  rotate_left
  · cases h
  rename_i hsafe0
  obtain ⟨hsafe, hck⟩ := hsafe0
  split at h
  · cases h
  rename_i i0 more hrd
  have cont : ∀ {j : Nat} {oj : Oper} {y : Value} {c' : Cx} {st2 : St}, ops[j]? = some oj → j ≠ z → listed.getD j true = false → Rel c' st2 (a.put oj.dst y).tmps → Step c c' → TameM ap M c c' → rec (listed.setIfInBounds j true) st2 = some r → wpAnyD P .any ops Q (SD ops false ap M c') mf' ((zl z e listed).setIfInBounds j true) (a.put oj.dst y) c'.w := by
    intro j oj y c' st2 hj hh hju hr2 hst htm hrc
    rw [zl_set hh]
    refine hrec hr2 (hA.keep htm (hZ.out j oj hj hh) fun he ee ty t hk hdj => ?_) (fun he x hx hb => ?_) (by rw [getD_set_ne true hh]; exact hu) hrc fun a' c2 st' k1 k2 k3 k4 => hq a' c2 st' k1 k2 (hst.trans k3) (k4.trans (Kp.put (hfx _ (opMem hj)) a y))
    · have hp := hZ.px
      rw [hk] at hp
      unfold zParts at hp
      have hlt : j < ops.size := (Array.getElem?_eq_some_iff.1 hj).1
      have := List.all_eq_true.mp hp j (List.mem_range.mpr hlt)
      unfold dstAt at this
      rw [hj] at this
      simp only [Option.bind_some, hdj, bne_self_eq_false, Bool.false_or] at this
      unfold waits at this
      rw [hZ.hz] at this
      obtain ⟨q, hq1, hq2⟩ := Array.any_eq_true.mp this
      simp only [Bool.and_eq_true, beq_iff_eq] at hq2
      have h2 := hdep he _ (Array.getElem_mem hq1) hq2.1
      rw [hq2.2, (unl_false hju).1] at h2
      cases h2
    · have h2 := hdep he x hx hb
      by_cases hxj : j = x.on
      · rw [← hxj, (unl_false hju).1] at h2; cases h2
      · rw [getD_set_ne false hxj]; exact h2
  split at h
  · rename_i i hfind
    obtain ⟨hmem, hpi⟩ := find_mem hfind
    rw [← hrd] at hmem
    simp only [Bool.and_eq_true, Bool.or_eq_true] at hpi
    obtain ⟨⟨hquick, hfree⟩, hlw⟩ := hpi
    obtain ⟨hh, hmr, hmm⟩ := zin_ready (e := e) hmem
    split at h
    rotate_left
    · cases h
    rename_i o hi
    have h3 : ∀ l j w, SD ops false ap M c (l.setIfInBounds i true) j w → SD ops false ap M c l j w := fun l j w hS => ⟨hS.1, fun h => by cases h⟩
    have hfr : ∀ j oj, ops[j]? = some oj → j ≠ i → (zl z e listed).getD j true = false → (∀ e ∈ oj.after, Region.binds .any e = true → e.on ≠ i) → o.apart ops oj = true := fun j oj hj hne hu2 hno => Region.free_spec hi hfree j oj hj hne (zl_unl hu2) hno
    have hiu : listed.getD i true = false := (mem_ready.1 hmr).1
    have hzc : ∀ f k, listed.getD k true = false → viaB ops listed i f k = true → (zl z e listed).getD k true = false := fun f k hk hkv => by
      cases he : e with
      | none => exact hk
      | some g =>
        by_cases hkz : k = z
        · subst hkz
          have hno : ∀ q, listed.getD q true = false → waits ops k q = false := fun q hq0 => by
            cases hw : waits ops k q with
            | false => rfl
            | true =>
              unfold waits at hw
              rw [hZ.hz] at hw
              obtain ⟨q1, hq1, hq2⟩ := Array.any_eq_true.mp hw
              simp only [Bool.and_eq_true, beq_iff_eq] at hq2
              have h2 := hdep (by rw [he]; rfl) _ (Array.getElem_mem hq1) hq2.1
              rw [hq2.2, (unl_false hq0).1] at h2
              cases h2
          exfalso
          cases f with
          | zero =>
            unfold viaB at hkv
            rw [hno i hiu] at hkv
            cases hkv
          | succ f =>
            unfold viaB at hkv
            rw [hno i hiu, Bool.false_or] at hkv
            obtain ⟨q, _, hq⟩ := List.any_eq_true.mp hkv
            simp only [Bool.and_eq_true, Bool.not_eq_true'] at hq
            rw [hno q hq.1.1] at hq
            cases hq.1.2
        · rw [zl_out true hkz]; exact hk
    have free : ∀ {v : Value} {st2 : St}, YieldsIf P ops (fun _ => True) o v a → Rel c st2 (a.put o.dst v).tmps → rec (listed.setIfInBounds i true) st2 = some r → wpAnyD P .any ops Q (SD ops false ap M c) (mf' + 1) (zl z e listed) a c.w := by
      intro v st2 hy hr2 h2
      have hrest := cont hi hh hiu hr2 (Step.refl c) (TameM.refl _ _ _) h2
      by_cases hw : lateWaitV ops listed i = true
      · exact wpAnyD_firstV (S0 := fun _ => True) (Inv := InvL ops false ap M c) listed hi (Region.noSelect_spec hsel) (fun ch _ _ hh => absurd hh (hp ch _ _)) (fun _ _ _ => trivial) (fun l w hI => ⟨fun _ => hI.1, fun h => by cases h⟩) h3 mf' (zl z e listed) a c.w hfr hzc
          ⟨Sc.refl ap M c, fun h => by cases h⟩ (fun j oj hj hne hu2 hno hv l w w' _ hS => InvL.step (by
            cases hl : lateOp ops j with
            | false => rfl
            | true =>
              have hvv := lateWaitV_spec hw j oj hj hne (zl_unl hu2) hl
              rw [hv (zl_unl hu2) 6] at hvv
              cases hvv) hS) hmm hy hrest
      · have hl : lateOp ops i = true := by
          rcases hlw with hl | hl
          · exact hl
          · exact absurd hl hw
        exact wpAnyD_first (S0 := fun _ => True) (Inv := fun _ _ => True) hi (Region.noSelect_spec hsel) (fun ch _ _ hh => absurd hh (hp ch _ _)) (fun _ _ _ => trivial) (fun l w _ => ⟨fun h0 => (by rw [hl] at h0; cases h0), fun h => by cases h⟩) h3 mf' (zl z e listed) a c.w hfr
          trivial (fun _ _ _ _ _ _ _ _ _ _ _ _ => trivial) hmm hy hrest
    rcases guarded_some hr h with ⟨st1, hr1, hwt, h1⟩ | ⟨st1, hr1, hwt, h1⟩
    · split at h1
      · rename_i hcond
        by_cases hpure : isPure o = true
        · obtain ⟨v, y, hrun, h2, hv2⟩ := evOp_pure htb hpure hr1 h1
          exact free (.inl ⟨hwt, fun w _ => hrun w⟩) (hr1.put (a := a) hv2) h2
        · simp only [hpure, Bool.false_eq_true, false_or, Bool.or_eq_true, Bool.and_eq_true, Bool.not_eq_true', Bool.and_eq_false_iff] at hcond
          obtain ⟨⟨⟨hload, hrow⟩, hout⟩, hlw2⟩ := hcond
          obtain ⟨v, y, b, hrun, h2, hv2, hb, hnr, hno⟩ := evOp_load htb hload hr1 h1
          have hrest := cont hi hh hiu (hr1.put (a := a) (dst := o.dst) hv2) (Step.refl c) (TameM.refl _ _ _) h2
          have hMout : ∀ i', i' ∈ M → i' ∈ c.D → ¬ c.ow i' b := fun i' hM' hi' hob => by
            refine hno i' hi' (fun e => ?_) hob
            unfold loadOut at hout
            rw [← e] at hout
            simp [hM'] at hout
          have hkey : ∀ w, Sc ap M c w → w.heap[b]? = c.w.heap[b]? := fun w hSw => by
            refine hSw.2 b hb (fun hap i' hi' hob => ?_) hMout
            have hrow' : loadRow o st1 = false := by
              rcases hrow with h9 | h9
              · rw [hap] at h9; cases h9
              · exact h9
            have hi2 := hi'
            rw [hr1.s.ids] at hi2
            obtain ⟨e', he'⟩ := mem_ids hi2
            cases e' with
            | row e t xs => exact hnr hrow' i' _ he' rfl (ownBlock_blk hob)
            | lrow e t n cells => exact hnr hrow' i' _ he' rfl (ownBlock_blk hob)
            | deep e t xs => exact hnr hrow' i' _ he' rfl (ownBlock_blk hob)
            | zip e t l cells r => exact hnr hrow' i' _ he' rfl (ownBlock_blk hob)
            | box t cells =>
              obtain ⟨g, conc, h9, _⟩ := hr1.s.ent _ _ he'
              rw [h9] at hob
              cases hob
          exact wpAnyD_firstV (S0 := fun w => w.heap[b]? = c.w.heap[b]?) (Inv := InvL ops false ap M c) listed hi (Region.noSelect_spec hsel) (fun ch _ _ hh => absurd hh (hp ch _ _)) (fun l w hI => hkey w hI.1) (fun l w hI => ⟨fun _ => hI.1, fun h => by cases h⟩) h3 mf' (zl z e listed) a c.w hfr hzc
            ⟨Sc.refl ap M c, fun h => by cases h⟩ (fun j oj hj hne hu2 hno2 hv l w w' _ hS => InvL.step (by
              cases hl : lateOp ops j with
              | false => rfl
              | true =>
                have hvv := lateWaitV_spec hlw2 j oj hj hne (zl_unl hu2) hl
                rw [hv (zl_unl hu2) 6] at hvv
                cases hvv) hS) hmm (.inl ⟨hwt, fun w hw => hrun w hw⟩) hrest
      · cases h1
    · exact free (.inr ⟨hwt, rfl⟩) (hr1.put (a := a) (undef_rel c)) h1
  · split at h
    rotate_left
    · cases h
    split at h
    rotate_left
    · cases h
    rename_i o hi
    have hmem : i0 ∈ zReady ops z listed := by rw [hrd]; simp
    obtain ⟨hh, hmr, hmm⟩ := zin_ready (e := e) hmem
    refine ⟨fun h0 => (by rw [h0] at hmm; cases hmm), fun j hj => ?_⟩
    by_cases ho : j = z
    · subst ho
      cases e with
      | some g =>
        have := (mem_ready.1 hj).1
        simp only [zl] at this
        rw [set_listed] at this
        cases this
      | none =>
        have hj' : j ∈ Region.ready .any ops listed := hj
        refine z_exec (ap := ap) (M := M) htb hZ hj' hck hr hdl hd hfx fun c' a' g k1 k2 k3 k4 k5 => ?_
        have hdeps : ∀ x ∈ oz.after, Region.binds .any x = true → listed.getD x.on false = true := fun x hx hb => by
          obtain ⟨_, o, ho, hall⟩ := mem_ready.1 hj'
          rw [hZ.hz] at ho
          injection ho with ho
          subst ho
          exact hall x hx hb
        exact ⟨⟨fun _ => Sc.of_tame k4 (Sc.refl ap M _), fun h => by cases h⟩, wpAnyD_mono _ _ _ _ (fun _ _ _ _ l w hS => SD.of_tame k4 (fun h => by cases h) hS) (hnext rfl hdeps k1 k2 k3 k5)⟩
    · have hj2 := zout_ready hsafe ho hj
      rw [hrd] at hj2
      have hj0 : j = i0 := by simpa using hj2
      subst hj0
      have hju : listed.getD j true = false := (mem_ready.1 hmr).1
      unfold wpOp
      simp only [hi]
      rcases guarded_some hr h with ⟨st1, hr1, hwt, h1⟩ | ⟨st1, hr1, hwt, h1⟩
      · rw [if_pos hwt]
        have done : ∀ {v : AV} {y : Value} {c' : Cx} {st' : St}, rec (listed.setIfInBounds j true) (st'.put o.dst v) = some r → Rel c' st' a.tmps → avRel c' v y → Step c c' → TameM ap M c c' → SD ops false ap M c (zl z e listed) j c'.w ∧ wpAnyD P .any ops Q (SD ops false ap M c) mf' ((zl z e listed).setIfInBounds j true) (a.put o.dst y) c'.w := fun k1 k2 k3 k4 k5 =>
          ⟨⟨fun _ => Sc.of_tame k5 (Sc.refl ap M _), fun h => by cases h⟩, wpAnyD_mono _ _ _ _ (fun _ _ _ _ l w hS => SD.of_tame k5 (fun h => by cases h) hS) (cont hi ho hju (k2.put (a := a) k3) k4 k5 k1)⟩
        split at h1
        · exact .inl (evCallIn_goes (ap := ap) htb hM hr1 h1 _ _ fun v y c' st' k1 k2 k3 k4 k5 => done k1 k2 k3 k4 k5)
        split at h1
        · rename_i ht
          exact .inl (evOp_tame htb hM ht hr1 h1 _ _ fun v y c' st' k1 k2 k3 k4 k5 => done k1 k2 k3 k4 k5)
        · cases h1
      · rw [if_neg (by rw [hwt]; simp)]
        exact ⟨⟨fun _ => Sc.refl ap M c, fun h => by cases h⟩, cont hi ho hju (hr1.put (a := a) (undef_rel c)) (Step.refl c) (TameM.refl _ _ _) h1⟩

theorem evAnyZ_hide {ops : Array Oper} {ap : Bool} {M : List Nat} {z d : Nat} {k : ZK} {Kc : St → Option R} {fe : Nat} {listed : Array Bool} : evAnyZ tb ops ap M z d k Kc fe listed (st.put (some d) .dead) = evAnyZ tb ops ap M z d k Kc fe listed st := by
  have hh : (st.put (some d) .dead).put (some d) .dead = st.put (some d) .dead := put_dead (set_dead _ _ _ (.inr rfl))
  have hl : (st.put (some d) .dead).env.length = st.env.length := by simp [St.put]
  match fe with
  | 0 => rfl
  | 1 => unfold evAnyZ; simp only [hh, hl]; rfl
  | fuel + 2 => unfold evAnyZ; simp only [hh, hl]; rfl

/-- A block that is nobody's is shared from now on. -/
def Cx.share (c : Cx) (g : Nat) : Cx := { c with I := fun k => c.I k ∨ k = g, T := fun k => c.T k ∨ k = g }
theorem Rel.share {tmps : Array Value} (h : Rel c st tmps) {g : Nat} (hlt : g < c.w.heap.size) (hT : ¬ c.T g) (ho : ∀ i, i ∈ c.D → ¬ c.ow i g) : Rel (c.share g) st tmps ∧ Step c (c.share g) := by
  have hs := h.s
  have hml : ∀ l y, leafRel c l y → leafRel (c.share g) l y := fun l y hl => leafRel.move (c := c) (c' := c.share g) (agree.refl _ _) hs.sub (fun _ h => .inl h) (fun _ h => .inl h) (fun i _ hi => ⟨hi, rfl⟩) hl
  refine ⟨⟨⟨hs.ids, hs.nodup, fun id e' he => ?_, hs.apartX, fun i g' hi hg => ⟨?_, (hs.ext i g' hi hg).2⟩, fun k hk => hk.imp (hs.sub k) id, fun k hk => hk.elim (hs.lt k) fun e => by rw [e]; exact hlt⟩, h.env.mono fun _ _ => avRel.imp hml⟩, ⟨Below.refl _ _, agree.refl _ _, fun _ h => .inl h, fun _ h => .inl h, fun k hk => hk.imp id fun e => by rw [e]; exact hT⟩⟩
  · have hent := hs.ent id e' he
    have hid : id ∈ c.D := by rw [hs.ids]; exact List.mem_map.mpr ⟨_, he, rfl⟩
    have := hent.move (c1 := c.share g) (f := fun l => l) hml (fun _ _ => rfl) rfl (fun _ _ => rfl) (fun g' hg => by
      have h9 := hent.notT hg
      rintro (h8 | h8)
      · exact h9 h8
      · exact ho id hid (by first | exact h8 ▸ .inl hg | exact h8 ▸ hg)) (fun g hg => hg)
    rwa [mapE_id (fun _ => rfl)] at this
  · rintro (h8 | h8)
    · exact (hs.ext i g' hi hg).1 h8
    · exact ho i hi (h8 ▸ .inr hg)

/-- The evaluator's turn. -/
theorem z_turn (htb : tb.ok P) {k : ZK} {d g : Nat} {oz : Oper} (hkd : zKind tb oz = some k) (hr : Rel c st a.tmps) (hA : Pd k d c a (some g)) {ap : Bool} {M : List Nat} (hfM : fresh st.store ∉ M) {Kc : St → Option R} (h : evZ k d st Kc = some r) :
    ∃ st' c', Kc st' = some r ∧ Rel c' st' a.tmps ∧ Step c c' ∧ c'.w = c.w ∧ ∀ w, Sc ap M c' w → Sc ap M c w := by
  have hh := hA g rfl
  have hne : ∀ i, i ∈ c.D → i ≠ fresh st.store := fun i hi => fresh_not i (by rw [← hr.s.ids]; exact hi)
  have hsc : ∀ y0 : Value, oBlk y0 = none → ∀ w, Sc ap M (c.grow c.w (fresh st.store) y0) w → Sc ap M c w := by
    intro y0 hy0 w hSc
    have hρ : (c.grow c.w (fresh st.store) y0).ρ (fresh st.store) = y0 := if_pos rfl
    refine ⟨hSc.1, fun q hq hrr hm => hSc.2 q hq (fun hap i hi hb => ?_) fun i hM' hi hb => ?_⟩
    · have hi : i ∈ c.D ++ [fresh st.store] := hi
      rcases List.mem_append.mp hi with hi | hi
      · have e1 : (c.grow c.w (fresh st.store) y0).ρ i = c.ρ i := if_neg (hne i hi)
        rw [e1] at hb
        exact hrr hap i hi hb
      · rw [List.mem_singleton] at hi
        rw [hi, hρ, hy0] at hb
        cases hb
    · have hi : i ∈ c.D ++ [fresh st.store] := hi
      rcases List.mem_append.mp hi with hi | hi
      · exact hm i hM' hi (grow_ow (hne i hi) hb)
      · rw [List.mem_singleton] at hi
        rw [hi] at hM'
        exact hfM hM'
  cases k with
  | al te i =>
    obtain ⟨h1, ⟨conc, h2, h3⟩, h4, h5⟩ := hh
    have hti := htb.ok0.ti _ _ (zKind_al hkd).2
    have hρ : (c.grow c.w (fresh st.store) (.pointer (some ⟨g, 0, none⟩))).ρ (fresh st.store) = .pointer (some ⟨g, 0, none⟩) := if_pos rfl
    obtain ⟨p1, p2⟩ := hr.growA (w1 := c.w) (y0 := .pointer (some ⟨g, 0, none⟩)) (e := .box te (i.zero.map .v)) (fun _ _ => rfl) (Below.refl _ _) (fun q hq => by
      have : g = q := by simpa [blk] using hq
      rw [← this]; exact h5) ⟨g, conc, hρ, h4, h2, by rw [h3]; exact all2_v _ _ hti.zone⟩
    have hp1 := put_slot (s := d) p1 (v := .lf (.ptr (fresh st.store) 0)) (by
      rw [h1]
      exact ⟨List.mem_append_right _ (List.mem_singleton.mpr rfl), g, hρ, rfl⟩)
    exact ⟨_, _, h, hp1, p2, rfl, hsc _ rfl⟩
  | s0 e ty =>
    have h1 : a.tmps.getD d undef = .slice (some ⟨g, 0, none⟩) 0 0 := hh
    have hρ : (c.grow c.w (fresh st.store) (.slice (some ⟨g, 0, none⟩) 0 0)).ρ (fresh st.store) = .slice (some ⟨g, 0, none⟩) 0 0 := if_pos rfl
    obtain ⟨p1, p2⟩ := hr.growA (w1 := c.w) (y0 := .slice (some ⟨g, 0, none⟩) 0 0) (e := .row e ty []) (fun _ _ => rfl) (Below.refl _ _) (fun q hq => by cases hq) ⟨[], by rw [hρ]; exact ⟨by simp, .inl ⟨_, rfl, rfl⟩⟩, fun q hq => (by rw [hρ] at hq; cases hq), trivial⟩
    have hp1 := put_slot (s := d) p1 (v := .lf (.own (fresh st.store))) (by
      rw [h1]
      exact ⟨List.mem_append_right _ (List.mem_singleton.mpr rfl), hρ.symm, rfl⟩)
    exact ⟨_, _, h, hp1, p2, rfl, hsc _ rfl⟩
  | s1 e ty x =>
    obtain ⟨h1, ⟨h2, h3⟩, h4, h5⟩ := hh
    have hxv := hr.ev x
    have hlt : g < c.w.heap.size := (Array.getElem?_eq_some_iff.mp h2).1
    obtain ⟨p1, p2⟩ := hr.share hlt h4 h5
    have go : ∀ {tt : Ty} {v : tt.den}, tt.sz = 1 → RdE (c.share g).I tt c.w v [a.eval x] → Kc (st.put (some d) (.lf (.rd true e tt [v]))) = some r → ∃ st' c', Kc st' = some r ∧ Rel c' st' a.tmps ∧ Step c c' ∧ c'.w = c.w ∧ ∀ w, Sc ap M c' w → Sc ap M c w := by
      intro tt v ht1 hlv hk
      have hp1 := put_slot (s := d) p1 (v := .lf (.rd true e tt [v])) (by
        rw [h1]
        refine ⟨some ⟨g, 0, none⟩, 1, rfl, Nat.le_refl _, by simp, fun _ => ⟨_, rfl, .inr rfl, fun j z hj => ?_⟩⟩
        cases j with
        | zero =>
          have hz : v = z := by simpa using hj
          subst hz
          refine ⟨[a.eval x], by rw [ht1]; rfl, hlv, fun q u hu => ?_⟩
          cases q with
          | zero =>
            have : a.eval x = u := by simpa using hu
            subst this
            rw [Nat.zero_mul, add_at]
            show c.w.cell? _ = _
            simp [World.cell?, h2]
          | succ q => simp at hu
        | succ j => simp at hj)
      exact ⟨_, _, hk, hp1, p2, rfl, fun w hS => hS⟩
    simp only [evZ] at h
    split at h
    · rename_i kk k' n hx
      split at h
      · rename_i hkk
        subst hkk
        rw [hx] at hxv
        have hxv : a.eval x = .int kk n := hxv.1
        exact go (tt := .int kk) (v := n) rfl (by rw [hxv]; rfl) h
      · cases h
    · rename_i e1 t1 e2 t2 xs hx
      split at h
      · rename_i hee
        subst hee
        obtain ⟨rfl, h⟩ := cast_some h
        rw [hx] at hxv
        obtain ⟨A, n, q1, q2, q3⟩ := hxv
        exact go (tt := .rs e1 _) (v := xs) rfl ⟨A, n, by rw [q1], q2, RdRow.imp q3 (fun _ _ h => h.step (agree.refl _ _) fun _ h => .inl h) (fun _ h => .inl h) (agree.refl _ _)⟩ h
      · cases h
    · cases h

theorem evAnyZ_goes (htb : tb.ok P) {ops : Array Oper} {ap : Bool} {M : List Nat} {Q : Exit → Act → World → Prop} (hp : ∀ ch a w, ¬ Q (.panic ch) a w) (hsel : Region.noSelect ops = true) (hM : tb.deep = false ∨ M = []) (hfx : ∀ o, o ∈ ops.toList → dstOk tb.fixed o)
    {z d : Nat} {oz : Oper} {k : ZK} (hZ : ZIs tb ops z d oz k) {Kc : St → Option R} :
    ∀ (fe : Nat) (e : Option Nat) {listed : Array Bool} {a : Act} {c : Cx} {st : St} {mf : Nat}, mf + (if e.isSome then 1 else 0) = fe → Rel c st a.tmps → Pd k d c a e → (e.isSome = true → ∀ x ∈ oz.after, Region.binds .any x = true → listed.getD x.on false = true) → listed.getD z true = false → evAnyZ tb ops ap M z d k Kc fe listed st = some r →
      (∀ a' c' st', Kc st' = some r → Rel c' st' a'.tmps → Step c c' → Kp tb.fixed a' a → Q .normal a' c'.w) → wpAnyD P .any ops Q (SD ops false ap M c) mf (zl z e listed) a c.w := by
  intro fe
  induction fe using Nat.strongRecOn with
  | _ fe ihf =>
    cases fe with
    | zero =>
      intro e listed a c st mf _ _ _ _ _ h
      cases h
    | succ fuel =>
    have some_case : ∀ (g : Nat) {listed : Array Bool} {a : Act} {c : Cx} {st : St} {mf : Nat}, mf + 1 = fuel + 1 → Rel c st a.tmps → Pd k d c a (some g) → (∀ x ∈ oz.after, Region.binds .any x = true → listed.getD x.on false = true) → listed.getD z true = false → evAnyZ tb ops ap M z d k Kc (fuel + 1) listed st = some r →
      (∀ a' c' st', Kc st' = some r → Rel c' st' a'.tmps → Step c c' → Kp tb.fixed a' a → Q .normal a' c'.w) → wpAnyD P .any ops Q (SD ops false ap M c) mf (zl z (some g) listed) a c.w := by
      intro g listed a c st mf hmf hr hA hdep hu h hq
      have hr1 : Rel c (st.put (some d) .dead) a.tmps := put_slot hr (v := .dead) trivial
      unfold evAnyZ at h
      split at h
      rotate_left
      · cases h
      rename_i hdl
      have hdl1 : d < (st.put (some d) .dead).env.length := by simpa [St.put] using hdl
      split at h
      · split at h
        rotate_left
        · cases h
        rename_i hlast
        obtain rfl : mf = fuel := by omega
        have hfM : fresh (st.put (some d) .dead).store ∉ M := by
          have : fresh st.store ∉ M := by simpa using hlast.1.1.2
          exact this
        obtain ⟨st2, c2, q1, q2, q3, q4, q5⟩ := z_turn (ap := ap) (M := M) htb hZ.kd hr1 hA hfM h
        have hG := evAny_goes (c := c2) htb hp hsel hfx q2 q1 fun a' c' st' k1 k2 k3 k4 => hq a' c' st' k1 k2 (q3.trans k3) k4
        rw [q4] at hG
        exact wpAnyD_mono (S := SD ops false ap M c2) _ _ _ _ (fun _ _ _ _ l w hS => ⟨fun hl => q5 w (hS.1 hl), fun h => by cases h⟩) hG
      · split at h
        · cases h
        · rename_i f
          obtain ⟨mf', rfl⟩ : ∃ mf', mf = mf' + 1 := ⟨mf - 1, by omega⟩
          exact stepZ_one htb hp hsel hM hfx hZ (e := some g) (fun {listed a c st} k1 k2 k25 k3 k4 k5 => ihf (f + 1) (by omega) (some g) (by simp; omega) k1 k2 k25 k3 k4 k5) hr1 hdl1 (set_dead _ _ _ (.inr rfl)) hA (fun _ => hdep) hu h (fun h => by cases h) hq
    intro e
    cases e with
    | some g => exact fun hmf hr hA hdep hu h hq => some_case g (by simpa using hmf) hr hA (hdep rfl) hu h hq
    | none =>
      intro listed a c st mf hmf hr hA _ hu h hq
      have hr1 : Rel c (st.put (some d) .dead) a.tmps := put_slot hr (v := .dead) trivial
      rw [← evAnyZ_hide] at h
      have h00 := h
      unfold evAnyZ at h
      split at h
      rotate_left
      · cases h
      rename_i hdl1
      have hd0 : (st.put (some d) .dead).env.getD d .dead = .dead := set_dead _ _ _ (.inr rfl)
      have hh : (st.put (some d) .dead).put (some d) .dead = st.put (some d) .dead := put_dead hd0
      have next : ∀ {mf' : Nat} {a' : Act} {c' : Cx} {g : Nat}, mf' + 1 = fuel + 1 → (∀ x ∈ oz.after, Region.binds .any x = true → listed.getD x.on false = true) → Rel c' (st.put (some d) .dead) a'.tmps → Pd k d c' a' (some g) → Step c c' → Kp tb.fixed a' a → wpAnyD P .any ops Q (SD ops false ap M c') mf' (listed.setIfInBounds z true) a' c'.w :=
        fun k0 kd k1 k2 k3 k4 => some_case _ k0 k1 k2 kd hu h00 fun a2 c2 st2 q1 q2 q3 q4 => hq a2 c2 st2 q1 q2 (k3.trans q3) (q4.trans k4)
      obtain rfl : mf = fuel + 1 := by simpa using hmf
      split at h
      · split at h
        rotate_left
        · cases h
        rename_i hlast
        refine ⟨fun h0 => ?_, fun j hj => ?_⟩
        · have : z ∈ Region.ready .any ops listed := by simpa using hlast.1.2
          rw [show zl z none listed = listed from rfl] at h0
          rw [h0] at this
          cases this
        · by_cases ho : j = z
          · subst ho
            have hj' : j ∈ Region.ready .any ops listed := hj
            have hdeps : ∀ x ∈ oz.after, Region.binds .any x = true → listed.getD x.on false = true := fun x hx hb => by
              obtain ⟨_, o, ho, hall⟩ := mem_ready.1 hj'
              rw [hZ.hz] at ho
              injection ho with ho
              subst ho
              exact hall x hx hb
            have hck := hlast.2
            rw [hh] at hck
            refine z_exec (ap := ap) (M := M) htb hZ hj' hck hr1 hdl1 hd0 hfx fun c' a' g k1 k2 k3 k4 k5 => ?_
            exact ⟨⟨fun _ => Sc.of_tame k4 (Sc.refl ap M _), fun h => by cases h⟩, wpAnyD_mono _ _ _ _ (fun _ _ _ _ l w hS => SD.of_tame k4 (fun h => by cases h) hS) (next (by omega) hdeps k1 k2 k3 k5)⟩
          · exact (zlast_ready hu hlast.1.1.1 ho hj).elim
      · split at h
        · cases h
        · rename_i f
          rw [hh] at h
          exact stepZ_one htb hp hsel hM hfx hZ (e := none) (fun {listed a c st} k1 k2 k25 k3 k4 k5 => ihf (f + 1) (by omega) none (by simp) k1 k2 k25 k3 k4 k5) hr1 hdl1 hd0 hA (fun h => by cases h) hu h (fun _ kd {a' c' g} k1 k2 k3 k4 => next (by omega) kd k1 k2 k3 k4) hq

end
end Go.Proofs.Ytdacfaincamliaa.Ev
