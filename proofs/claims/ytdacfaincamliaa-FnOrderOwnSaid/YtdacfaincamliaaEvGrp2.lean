/- A table of constants in a region that draws: whatever the order. Conditions: none. -/
import Derived.Test.YtdacfaincamliaaEvGrp
namespace Go.Proofs.Ytdacfaincamliaa.Ev
open Go Go.RowKit

section
variable {P : Program} {R : Type} {tb : Tb}
variable {c : Cx} {st : St} {a : Act} {o : Oper} {K : AV → St → Option R} {r : R}

structure Grp.Facts (ops : Array Oper) (g : Grp) : Prop where
  d1 : g.b ≠ g.i
  d2 : g.b ≠ g.l
  d3 : g.i ≠ g.l
  s1 : g.db ≠ g.di
  s2 : g.db ≠ g.dl
  s3 : g.di ≠ g.dl
  x1 : g.x ≠ g.db
  x2 : g.x ≠ g.di
  x3 : g.x ≠ g.dl
  gb : g.ob.guard = none
  gi : g.oi.guard = none
  gl : g.ol.guard = none
  tb : g.ob.dst = some g.db
  ti : g.oi.dst = some g.di
  tl : g.ol.dst = some g.dl
  ab : ∀ e, e ∉ g.ob.after
  al : ∀ e, e ∈ g.ol.after → e.on = g.i ∨ e.on = g.b
  wi : ∃ e ∈ g.oi.after, Region.binds .any e = true ∧ e.on = g.b
  wl : ∃ e ∈ g.ol.after, Region.binds .any e = true ∧ e.on = g.i
  out : ∀ j oj, ops[j]? = some oj → g.has j = false → oj.dst ≠ some g.db ∧ oj.dst ≠ some g.di ∧ oj.dst ≠ some g.dl ∧ (oj.dst = some g.x → waits ops g.i j = true)

theorem waits_spec {ops : Array Oper} {j i : Nat} {oj : Oper} (hj : ops[j]? = some oj) (h : waits ops j i = true) : ∃ e ∈ oj.after, Region.binds .any e = true ∧ e.on = i := by
  unfold waits at h
  rw [hj] at h
  obtain ⟨k, hk, hk2⟩ := Array.any_eq_true.mp h
  simp only [Bool.and_eq_true, beq_iff_eq] at hk2
  exact ⟨_, Array.getElem_mem hk, hk2.1, hk2.2⟩
theorem waits_of {ops : Array Oper} {j i : Nat} {oj : Oper} (hj : ops[j]? = some oj) {e : Edge} (he : e ∈ oj.after) (hb : Region.binds .any e = true) (hon : e.on = i) : waits ops j i = true := by
  unfold waits
  rw [hj]
  obtain ⟨k, hk, rfl⟩ := Array.mem_iff_getElem.mp he
  exact Array.any_eq_true.mpr ⟨k, hk, by simp [hb, hon]⟩

theorem Grp.Is.facts {ops : Array Oper} {g : Grp} (hg : g.Is ops) : g.Facts ops := by
  have h := hg.ok
  unfold Grp.ok at h
  simp only [Bool.and_eq_true, bne_iff_ne, ne_eq, beq_iff_eq, Option.isNone_iff_eq_none] at h
  obtain ⟨⟨⟨⟨⟨⟨⟨⟨⟨⟨⟨⟨⟨⟨d1, d2⟩, d3⟩, ⟨⟨⟨⟨⟨s1, s2⟩, s3⟩, x1⟩, x2⟩, x3⟩⟩, ⟨⟨gb, gi⟩, gl⟩⟩, ⟨⟨tb, ti⟩, tl⟩⟩, _⟩, _⟩, _⟩, ab⟩, ai⟩, al⟩, wi⟩, wl⟩, out⟩ := h
  refine ⟨d1, d2, d3, s1, s2, s3, x1, x2, x3, gb, gi, gl, tb, ti, tl, fun e he => ?_, fun e he => ?_, waits_spec hg.hi wi, waits_spec hg.hl wl, fun j oj hj hh => ?_⟩
  · have : g.ob.after = #[] := by simpa using ab
    rw [this] at he
    simp at he
  · obtain ⟨k, hk, rfl⟩ := Array.mem_iff_getElem.mp he
    have := Array.all_eq_true.mp al k hk
    simpa using this
  · have hlt : j < ops.size := (Array.getElem?_eq_some_iff.1 hj).1
    have := List.all_eq_true.mp out j (List.mem_range.mpr hlt)
    rw [hh] at this
    simp only [Bool.false_or] at this
    unfold dstAt at this
    rw [hj] at this
    simp only [Option.bind_some] at this
    cases hd : oj.dst with
    | none => exact ⟨by simp, by simp, by simp, by simp⟩
    | some d =>
      rw [hd] at this
      simp only [Bool.and_eq_true, bne_iff_ne, ne_eq, Bool.or_eq_true] at this
      obtain ⟨⟨⟨q1, q2⟩, q3⟩, q4⟩ := this
      refine ⟨by simpa using q1, by simpa using q2, by simpa using q3, fun h => ?_⟩
      injection h with h
      rcases q4 with q4 | q4
      · exact absurd h q4
      · exact q4

def gl (g : Grp) (m : Nat) (listed : Array Bool) : Array Bool :=
  match m with
  | 0 => listed
  | 1 => listed.setIfInBounds g.b true
  | 2 => (listed.setIfInBounds g.b true).setIfInBounds g.i true
  | _ => ((listed.setIfInBounds g.b true).setIfInBounds g.i true).setIfInBounds g.l true
def nxt (g : Grp) : Nat → Nat
  | 0 => g.b
  | 1 => g.i
  | _ => g.l
def Unl (g : Grp) (listed : Array Bool) : Prop := ∀ j, g.has j = true → listed.getD j true = false

theorem has_ne {g : Grp} {j : Nat} (h : g.has j = false) : g.b ≠ j ∧ g.i ≠ j ∧ g.l ≠ j := by
  simp only [Grp.has, Bool.or_eq_false_iff, beq_eq_false_iff_ne] at h
  exact ⟨fun e => h.1.1 e.symm, fun e => h.1.2 e.symm, fun e => h.2 e.symm⟩
theorem gl_out {g : Grp} {m j : Nat} {listed : Array Bool} (d : Bool) (h : g.has j = false) : (gl g m listed).getD j d = listed.getD j d := by
  obtain ⟨h1, h2, h3⟩ := has_ne h
  unfold gl
  split
  · rfl
  · rw [getD_set_ne d h1]
  · rw [getD_set_ne d h2, getD_set_ne d h1]
  · rw [getD_set_ne d h3, getD_set_ne d h2, getD_set_ne d h1]
theorem gl_true {g : Grp} {m j : Nat} {listed : Array Bool} (h : listed.getD j false = true) : (gl g m listed).getD j false = true := by
  unfold gl
  split
  · exact h
  · exact getD_set_true h
  · exact getD_set_true (getD_set_true h)
  · exact getD_set_true (getD_set_true (getD_set_true h))
theorem unl_false {listed : Array Bool} {j : Nat} (h : listed.getD j true = false) : listed.getD j false = false ∧ j < listed.size := by
  rw [Array.getD_eq_getD_getElem?] at h ⊢
  by_cases hj : j < listed.size
  · rw [Array.getElem?_eq_getElem hj] at h ⊢
    exact ⟨h, hj⟩
  · rw [Array.getElem?_eq_none (by omega)] at h
    cases h
theorem set_self {listed : Array Bool} {i : Nat} (h : i < listed.size) : (listed.setIfInBounds i true).getD i false = true := by
  rw [Array.getD_eq_getD_getElem?]
  simp [h]

/-- What the machine may pick. -/
theorem pick_cases {ops : Array Oper} {g : Grp} (hg : g.Is ops) {listed : Array Bool} (hu : Unl g listed) {m j : Nat} (hm : m ≤ 3) (hj : j ∈ Region.ready .any ops (gl g m listed)) : g.has j = false ∨ (m < 3 ∧ j = nxt g m) := by
  have F := hg.facts
  obtain ⟨h0, o, ho, hall⟩ := mem_ready.1 hj
  cases hh : g.has j with
  | false => exact .inl rfl
  | true =>
    right
    have hb := unl_false (hu g.b (by simp [Grp.has]))
    have hi := unl_false (hu g.i (by simp [Grp.has]))
    have hl := unl_false (hu g.l (by simp [Grp.has]))
    simp only [Grp.has, Bool.or_eq_true, beq_iff_eq] at hh
    have hm4 : m = 0 ∨ m = 1 ∨ m = 2 ∨ m = 3 := by omega
    rcases hh with (rfl | rfl) | rfl
    · rcases hm4 with rfl | rfl | rfl | rfl
      · exact ⟨by omega, rfl⟩
      · simp only [gl, set_listed] at h0; cases h0
      · simp only [gl] at h0; rw [getD_set_ne true F.d1.symm, set_listed] at h0; cases h0
      · simp only [gl] at h0; rw [getD_set_ne true F.d2.symm, getD_set_ne true F.d1.symm, set_listed] at h0; cases h0
    · obtain ⟨e, he, hbd, hon⟩ := F.wi
      rw [hg.hi] at ho
      injection ho with ho
      subst ho
      rcases hm4 with rfl | rfl | rfl | rfl
      · have := hall e he hbd
        rw [hon] at this
        simp only [gl] at this
        rw [hb.1] at this
        cases this
      · exact ⟨by omega, rfl⟩
      · simp only [gl, set_listed] at h0; cases h0
      · simp only [gl] at h0; rw [getD_set_ne true F.d3.symm, set_listed] at h0; cases h0
    · obtain ⟨e, he, hbd, hon⟩ := F.wl
      rw [hg.hl] at ho
      injection ho with ho
      subst ho
      have hc := hall e he hbd
      rw [hon] at hc
      rcases hm4 with rfl | rfl | rfl | rfl
      · simp only [gl] at hc; rw [hi.1] at hc; cases hc
      · simp only [gl] at hc; rw [getD_set_ne false F.d1, hi.1] at hc; cases hc
      · exact ⟨by omega, rfl⟩
      · simp only [gl, set_listed] at h0; cases h0

/-- The next of the three may come up. -/
theorem next_ready {ops : Array Oper} {g : Grp} (hg : g.Is ops) {listed : Array Bool} (hu : Unl g listed) {m : Nat} (hm : m < 3) (hk : 1 ≤ m → gKnown ops g listed = true) : nxt g m ∈ Region.ready .any ops (gl g m listed) := by
  have F := hg.facts
  have hb := unl_false (hu g.b (by simp [Grp.has]))
  have hi := unl_false (hu g.i (by simp [Grp.has]))
  have hm4 : m = 0 ∨ m = 1 ∨ m = 2 := by omega
  rcases hm4 with rfl | rfl | rfl
  · exact mem_ready.2 ⟨hu g.b (by simp [Grp.has]), _, hg.hb, fun e he => absurd he (F.ab e)⟩
  · refine mem_ready.2 ⟨by simp only [gl, nxt]; rw [getD_set_ne true F.d1]; exact hu g.i (by simp [Grp.has]), _, hg.hi, fun e he hbd => ?_⟩
    simp only [gl]
    obtain ⟨k, hkk, rfl⟩ := Array.mem_iff_getElem.mp he
    have := Array.all_eq_true.mp (hk (by omega)) k hkk
    simp only [hbd, Bool.not_true, Bool.false_or, Bool.or_eq_true, beq_iff_eq] at this
    rcases this with h | h
    · rw [h]; exact set_self hb.2
    · exact getD_set_true h
  · refine mem_ready.2 ⟨by simp only [gl, nxt]; rw [getD_set_ne true F.d3, getD_set_ne true F.d2]; exact hu g.l (by simp [Grp.has]), _, hg.hl, fun e he _ => ?_⟩
    simp only [gl]
    rcases F.al e he with h | h
    · rw [h]; exact set_self (by simpa using hi.2)
    · rw [h]; exact getD_set_true (set_self hb.2)

theorem in_ready {ops : Array Oper} {g : Grp} {listed : Array Bool} {m j : Nat} (h : j ∈ gReady ops g listed) : g.has j = false ∧ j ∈ Region.ready .any ops listed ∧ j ∈ Region.ready .any ops (gl g m listed) := by
  unfold gReady at h
  obtain ⟨h1, h2⟩ := List.mem_filter.mp h
  have hh : g.has j = false := by simpa using h2
  obtain ⟨k1, o, k2, k3⟩ := mem_ready.1 h1
  exact ⟨hh, h1, mem_ready.2 ⟨by rw [gl_out true hh]; exact k1, o, k2, fun e he hb => gl_true (k3 e he hb)⟩⟩

theorem far_spec {ops : Array Oper} {g : Grp} {listed : Array Bool} {m j : Nat} {o : Oper} (ho : ops[j]? = some o) (hall : ∀ e ∈ o.after, Region.binds .any e = true → (gl g m listed).getD e.on false = true)
    (h : ((List.range ops.size).any fun k => !g.has k && !listed.getD k false && waits ops j k) = true) : False := by
  obtain ⟨k, _, hk⟩ := List.any_eq_true.mp h
  simp only [Bool.and_eq_true, Bool.not_eq_true'] at hk
  obtain ⟨e, he, hb, hon⟩ := waits_spec ho hk.2
  have := hall e he hb
  rw [hon, gl_out false hk.1.1, hk.1.2] at this
  cases this

theorem out_ready {ops : Array Oper} {g : Grp} {listed : Array Bool} (hs : gSafe ops g listed = true) {m j : Nat} (hh : g.has j = false) (hj : j ∈ Region.ready .any ops (gl g m listed)) : j ∈ gReady ops g listed := by
  obtain ⟨h0, o, ho, hall⟩ := mem_ready.1 hj
  rw [gl_out true hh] at h0
  have hlt : j < ops.size := (Array.getElem?_eq_some_iff.1 ho).1
  have hsj := List.all_eq_true.mp hs j (List.mem_range.mpr hlt)
  simp only [hh, h0, Bool.false_or, Bool.or_eq_true, Bool.not_eq_true', Bool.or_eq_false_iff] at hsj
  rcases hsj with hsj | hsj
  · refine List.mem_filter.mpr ⟨mem_ready.2 ⟨h0, o, ho, fun e he hb => ?_⟩, by simp [hh]⟩
    have hc := hall e he hb
    cases hhe : g.has e.on with
    | false => rwa [gl_out false hhe] at hc
    | true =>
      exfalso
      simp only [Grp.has, Bool.or_eq_true, beq_iff_eq] at hhe
      rcases hhe with (h | h) | h
      · rw [waits_of ho he hb h] at hsj; cases hsj.1.1
      · rw [waits_of ho he hb h] at hsj; cases hsj.1.2
      · rw [waits_of ho he hb h] at hsj; cases hsj.2
  · exact (far_spec ho hall hsj).elim

theorem last_ready {ops : Array Oper} {g : Grp} {listed : Array Bool} (hu : Unl g listed) (hg : g.Is ops) (hs : gLast ops g listed = true) {m j : Nat} (hm : m < 3) (hh : g.has j = false) (hj : j ∈ Region.ready .any ops (gl g m listed)) : False := by
  have F := hg.facts
  obtain ⟨h0, o, ho, hall⟩ := mem_ready.1 hj
  rw [gl_out true hh] at h0
  have hlt : j < ops.size := (Array.getElem?_eq_some_iff.1 ho).1
  have hsj := List.all_eq_true.mp hs j (List.mem_range.mpr hlt)
  simp only [hh, h0, Bool.false_or, Bool.or_eq_true] at hsj
  rcases hsj with hsj | hsj
  · obtain ⟨e, he, hb, hon⟩ := waits_spec ho hsj
    have hc := hall e he hb
    have hl := unl_false (hu g.l (by simp [Grp.has]))
    rw [hon] at hc
    have hm4 : m = 0 ∨ m = 1 ∨ m = 2 := by omega
    rcases hm4 with rfl | rfl | rfl
    · simp only [gl] at hc; rw [hl.1] at hc; cases hc
    · simp only [gl] at hc; rw [getD_set_ne false F.d2, hl.1] at hc; cases hc
    · simp only [gl] at hc; rw [getD_set_ne false F.d3, getD_set_ne false F.d2, hl.1] at hc; cases hc
  · exact far_spec ho hall hsj

/-- What is known of a group's leaves. -/
structure GV (tb : Tb) (g : Grp) (tab idx p l : Leaf) (mx : Nat) : Prop where
  tabv : tabOf tb g some = some tab
  it : idsL tab = []
  ix : idsL idx = []
  ip : idsL p = []
  il : idsL l = []
  pv : 2 ≤ mx → evOp tb g.oi (((St.blank tb.n).put (some g.db) (.lf tab)).put (some g.x) (.lf idx)) (fun v _ => some v) = some (.lf p)
  lv : 2 ≤ mx → evOp tb g.ol ((St.blank tb.n).put (some g.di) (.lf p)) (fun v _ => some v) = some (.lf l)
  db : g.db < tb.n
  di : g.di < tb.n
  dl : g.dl < tb.n

theorem slot_put {tmps : Act} {d : Nat} {y : Value} (hr : Rel c st tmps.tmps) (hd : st.env.getD d .dead = .dead) : Rel c st (tmps.put (some d) y).tmps := by
  have := hr.put (a := tmps) (dst := some d) (v := .dead) (y := y) trivial
  rwa [put_dead hd] at this

/-- The machine takes the next of the three. -/
theorem grp_exec (htb : tb.ok P) {ops : Array Oper} {g : Grp} (hg : g.Is ops) {tab idx p l : Leaf} {mx m : Nat} (hv : GV tb g tab idx p l mx) (hr : Rel c st a.tmps) (hn : st.env.length = tb.n)
    (hd : ∀ d, d = g.db ∨ d = g.di ∨ d = g.dl → st.env.getD d .dead = .dead) (hfx : ∀ o, o ∈ ops.toList → dstOk tb.fixed o) (hm : m < 3) (hmx : m < mx) (hA : Ahead g c a tab p l m) (hx : 1 ≤ m → leafRel c idx (a.tmps.getD g.x undef))
    {ap : Bool} {M : List Nat} {Q : Exit → Act → World → Prop} {X : Act → World → Prop}
    (hX : ∀ c' a', Rel c' st a'.tmps → Ahead g c' a' tab p l (m + 1) → a'.tmps.getD g.x undef = a.tmps.getD g.x undef → Step c c' → TameM ap M c c' → Kp tb.fixed a' a → X a' c'.w) : wpOp P ops Q (nxt g m) X a c.w := by
  have F := hg.facts
  have hts : tb.n = a.tmps.size := by rw [← hn, hr.env.length, Array.length_toList]
  have hm4 : m = 0 ∨ m = 1 ∨ m = 2 := by omega
  rcases hm4 with rfl | rfl | rfl
  · unfold wpOp
    simp only [nxt, hg.hb]
    rw [if_pos (by simp [Region.wanted, F.gb])]
    refine .inl (tab_goes htb hv.tabv hr hn (ap := ap) (M := M) _ _ fun y c' k1 k2 k3 k4 => ?_)
    rw [F.tb]
    refine hX c' _ (slot_put k1 (hd _ (.inl rfl))) ⟨fun _ => ?_, fun h => by omega, fun h => by omega⟩ (getD_put_ne _ _ _ _ (by intro e; injection e with e; exact F.x1 e.symm)) k3 k4 ?_
    · rw [getD_put _ _ _ (by rw [← hts]; exact hv.db)]
      exact k2
    · have := Kp.put (hfx _ (opMem hg.hb)) a y
      rwa [F.tb] at this
  · obtain ⟨y, k1, k2⟩ := place_goes htb hg hv.it hv.ix hv.ip (hv.pv (by omega)) hr hn (hA.tab (by omega)) (hx (by omega))
    unfold wpOp
    simp only [nxt, hg.hi]
    rw [if_pos (by simp [Region.wanted, F.gi])]
    refine .inl (wp_val (k1 c.w) ?_)
    rw [F.ti]
    refine hX c _ (slot_put hr (hd _ (.inr (.inl rfl)))) ⟨fun _ => ?_, fun _ => ?_, fun h => by omega⟩ (getD_put_ne _ _ _ _ (by intro e; injection e with e; exact F.x2 e.symm)) (Step.refl c) (TameM.refl _ _ _) ?_
    · rw [getD_put_ne _ _ _ _ (by intro e; injection e with e; exact F.s1 e.symm)]
      exact hA.tab (by omega)
    · rw [getD_put _ _ _ (by rw [← hts]; exact hv.di)]
      exact k2
    · have := Kp.put (hfx _ (opMem hg.hi)) a y
      rwa [F.ti] at this
  · obtain ⟨y, k1, k2⟩ := elem_goes htb hg hv.ip hv.il (hv.lv (by omega)) hr hn (hA.p (by omega))
    unfold wpOp
    simp only [nxt, hg.hl]
    rw [if_pos (by simp [Region.wanted, F.gl])]
    refine .inl (wp_val k1 ?_)
    rw [F.tl]
    refine hX c _ (slot_put hr (hd _ (.inr (.inr rfl)))) ⟨fun _ => ?_, fun _ => ?_, fun _ => ?_⟩ (getD_put_ne _ _ _ _ (by intro e; injection e with e; exact F.x3 e.symm)) (Step.refl c) (TameM.refl _ _ _) ?_
    · rw [getD_put_ne _ _ _ _ (by intro e; injection e with e; exact F.s2 e.symm)]
      exact hA.tab (by omega)
    · rw [getD_put_ne _ _ _ _ (by intro e; injection e with e; exact F.s3 e.symm)]
      exact hA.p (by omega)
    · rw [getD_put _ _ _ (by rw [← hts]; exact hv.dl)]
      exact k2
    · have := Kp.put (hfx _ (opMem hg.hl)) a y
      rwa [F.tl] at this

theorem gl_next {g : Grp} {m : Nat} (hm : m < 3) (listed : Array Bool) : (gl g m listed).setIfInBounds (nxt g m) true = gl g (m + 1) listed := by
  have hm4 : m = 0 ∨ m = 1 ∨ m = 2 := by omega
  rcases hm4 with rfl | rfl | rfl <;> rfl
theorem gl_set {g : Grp} {m j : Nat} (hh : g.has j = false) (listed : Array Bool) : (gl g m listed).setIfInBounds j true = gl g m (listed.setIfInBounds j true) := by
  obtain ⟨h1, h2, h3⟩ := has_ne hh
  unfold gl
  split
  · rfl
  · rw [Array.setIfInBounds_comm _ _ h1]
  · rw [Array.setIfInBounds_comm _ _ h2, Array.setIfInBounds_comm _ _ h1]
  · rw [Array.setIfInBounds_comm _ _ h3, Array.setIfInBounds_comm _ _ h2, Array.setIfInBounds_comm _ _ h1]
theorem Unl.set {g : Grp} {listed : Array Bool} (h : Unl g listed) {j : Nat} (hh : g.has j = false) : Unl g (listed.setIfInBounds j true) := fun k hk => by
  have : j ≠ k := by rintro rfl; rw [hh] at hk; cases hk
  rw [getD_set_ne true this]
  exact h k hk

end
end Go.Proofs.Ytdacfaincamliaa.Ev
